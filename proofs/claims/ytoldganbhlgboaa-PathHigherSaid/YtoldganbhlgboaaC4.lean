/- Contracts of the functions of this seat, each by the executor and the kernel; part 4. Their conditions stand in each. -/
import Derived.Test.YtoldganbhlgboaaC3
set_option linter.unusedVariables false
set_option linter.unusedSimpArgs false
namespace Go.Sx.M
open Go Go.Sx Go.Proofs Go.RowKit
set_option maxRecDepth 100000
structure V37a where
  k : Int
  a : Int
  b : Int
  r : Int
  g : Int
  s : Int
  m : Int
  w : Int
  l : Int
  f : Int
  c : Int
  M : th.R
def A37a (v : V37a) : List SV := [.ptr 0 0, .agg [.int .i64 v.k, .int .u64 v.a, .int .i64 v.b, .int .i64 v.r, .int .i64 v.g, .int .i64 v.s, .int .u64 v.m], .int .u64 v.w, .int .i64 v.l]
def H37a (v : V37a) : List (HO th.R) := [.cells 175 [.ptr 1 0, .int .u64 v.f, .int .i64 v.c], .res v.M]
def toV37a (v : V37a) : List (Vl th.R) := [.i v.k, .i v.a, .i v.b, .i v.r, .i v.g, .i v.s, .i v.m, .i v.w, .i v.l, .i v.f, .i v.c, .r v.M]
def ofV37a : List (Vl th.R) → Option V37a
  | [.i k, .i a, .i b, .i r, .i g, .i s, .i m, .i w, .i l, .i f, .i c, .r M] => some ⟨k, a, b, r, g, s, m, w, l, f, c, M⟩
  | _ => none
def d37a : Ft := ⟨[.ptr 0 0, .agg [.int .i64, .int .u64, .int .i64, .int .i64, .int .i64, .int .i64, .int .u64], .int .u64, .int .i64], [.cells 175 [.ptr 1 0, .int .u64, .int .i64], .res]⟩
noncomputable def f37a_0 (v : V37a) : (Prop) := pre111a (V111a.mk v.k v.a v.b v.r v.g v.s v.m v.w v.l v.f v.c v.M)
noncomputable def ff37a (v : V37a) : Tr (Fin th.R) := (Tr.need (f37a_0 v) (Tr.leaf (Prod.mk (SV.tup (List.cons (SV.int (IntKind.u64) ((0 : Int))) (List.cons (SV.int (IntKind.i64) ((0 : Int))) (List.cons (SV.int (IntKind.i64) ((12 : Int))) [])))) (Prod.mk (List.cons (HO.cells ((175 : Nat)) (List.cons (SV.ptr ((1 : Nat)) ((0:Nat))) (List.cons (SV.int (IntKind.u64) (v.f)) (List.cons (SV.int (IntKind.i64) (v.c)) [])))) (List.cons (HO.res (v.M)) [])) []))))
noncomputable def f37a (v : V37a) : Tr (Fin th.R) := (Tr.need (f37a_0 v) (Tr.leaf (Prod.mk (SV.tup (List.cons (SV.int (IntKind.u64) ((0 : Int))) (List.cons (SV.int (IntKind.i64) ((0 : Int))) (List.cons (SV.int (IntKind.i64) ((12 : Int))) [])))) (Prod.mk (List.cons (HO.cells ((175 : Nat)) (List.cons (SV.ptr ((1 : Nat)) ((0:Nat))) (List.cons (SV.int (IntKind.u64) (v.f)) (List.cons (SV.int (IntKind.i64) (v.c)) [])))) (List.cons (HO.res (v.M)) [])) ([])))))
noncomputable def C37a : CF th.R := fnC d37a ofV37a (f37a )
theorem q37a (v : V37a) : (evFn th Try.prog (auto th Try.prog nice111an [] 20) (autoH [] [] [24] [] : Hints th) 37) (A37a v) (H37a v) = some (ff37a v) := by kernel_rfl
theorem qg37a (v : V37a) : ((ff37a v).map (setD [])).get = (f37a v).get := by kernel_rfl
theorem qd37a (v : V37a) : allD 2 [] (ff37a v) = true := by kernel_rfl
theorem s37a : Sound Try.prog th 37 (C37a ) := fnC_sound (evFn_sound' (T := th) (P := Try.prog) (tbl := (auto th Try.prog nice111an [] 20)) (auto_sound (nice := nice111an) (us := []) nok111an 20) (H := (autoH [] [] [24] [] : Hints th)) (k := 37) (fnLoops (LoopsOk_mem (fun _ => rfl) _ fun _ _ _ e => by cases e))) d37a A37a H37a toV37a (by kernel_rfl) (fun v => by kernel_rfl)
  (fun l v h => by
    unfold ofV37a at h
    split at h
    · cases h; rfl
    · cases h)
  [] (fun v => ⟨ff37a v, q37a v, id, qg37a v, qd37a v⟩)
theorem qdd37a (v : V37a) : (f37a v).get.2.2 = [] := by
  rw [← qg37a, Tr.map_get]; rfl
end Go.Sx.M

namespace Go.Sx.M
open Go Go.Sx Go.Proofs Go.RowKit
set_option maxRecDepth 100000
structure V111b where
  k : Int
  a : Int
  b : Int
  r : Int
  g : Int
  s : Int
  m : Int
  w : Int
  l : Int
  f : Int
  c : Int
  M : th.R
def A111b (v : V111b) : List SV := [.ptr 0 0, .agg [.int .i64 v.k, .int .u64 v.a, .int .i64 v.b, .int .i64 v.r, .int .i64 v.g, .int .i64 v.s, .int .u64 v.m], .int .u64 v.w, .int .i64 v.l]
def H111b (v : V111b) : List (HO th.R) := [.cells 175 [.ptr 1 0, .int .u64 v.f, .int .i64 v.c], .res v.M]
def toV111b (v : V111b) : List (Vl th.R) := [.i v.k, .i v.a, .i v.b, .i v.r, .i v.g, .i v.s, .i v.m, .i v.w, .i v.l, .i v.f, .i v.c, .r v.M]
def ofV111b : List (Vl th.R) → Option V111b
  | [.i k, .i a, .i b, .i r, .i g, .i s, .i m, .i w, .i l, .i f, .i c, .r M] => some ⟨k, a, b, r, g, s, m, w, l, f, c, M⟩
  | _ => none
def d111b : Ft := ⟨[.ptr 0 0, .agg [.int .i64, .int .u64, .int .i64, .int .i64, .int .i64, .int .i64, .int .u64], .int .u64, .int .i64], [.cells 175 [.ptr 1 0, .int .u64, .int .i64], .res]⟩
noncomputable def f111b_7 (v : V111b) : (Bool) := cnd (decide (v.l < (1 : Int))) true (decide (v.l > (64 : Int)))
noncomputable def f111b_8 (v : V111b) : (Sl) := Sl.mk v.k v.a v.b v.r v.g v.s v.m (0 : Int) (0 : Int) (0 : Int)
noncomputable def f111b_0 (v : V111b) : (Prop) := f111b_7 v = false → pre124 (V124.mk v.k v.a v.b v.r v.g v.s v.m)
noncomputable def f111b_1 (v : V111b) : (Bool) := f111b_7 v
noncomputable def f111b_2 (v : V111b) : (Bool) := !pOk (f111b_8 v)
noncomputable def f111b_3 (v : V111b) : (Int) := pNa (f111b_8 v)
noncomputable def f111b_4 (v : V111b) : (Int) := pNb (f111b_8 v)
noncomputable def f111b_5 (v : V111b) : (Int) := pNg (f111b_8 v)
noncomputable def f111b_6 (v : V111b) : (Int) := pNm (f111b_8 v)
noncomputable def ff111b (v : V111b) : Tr (Fin th.R) := (Tr.need (f111b_0 v) (Tr.ite (f111b_1 v) (Tr.leaf (Prod.mk (SV.tup (List.cons (SV.nilp) (List.cons (SV.agg (List.cons (SV.int (IntKind.u64) ((0 : Int))) (List.cons (SV.int (IntKind.i64) ((0 : Int))) (List.cons (SV.int (IntKind.i64) ((0 : Int))) (List.cons (SV.int (IntKind.u64) ((0 : Int))) []))))) (List.cons (SV.int (IntKind.i64) ((12 : Int))) [])))) (Prod.mk (List.cons (HO.cells ((175 : Nat)) (List.cons (SV.ptr ((1 : Nat)) ((0:Nat))) (List.cons (SV.int (IntKind.u64) (v.f)) (List.cons (SV.int (IntKind.i64) (v.c)) [])))) (List.cons (HO.res (v.M)) [])) []))) (Tr.ite (f111b_2 v) (Tr.leaf (Prod.mk (SV.tup (List.cons (SV.nilp) (List.cons (SV.agg (List.cons (SV.int (IntKind.u64) (f111b_3 v)) (List.cons (SV.int (IntKind.i64) (f111b_4 v)) (List.cons (SV.int (IntKind.i64) (f111b_5 v)) (List.cons (SV.int (IntKind.u64) (f111b_6 v)) []))))) (List.cons (SV.int (IntKind.i64) ((20 : Int))) [])))) (Prod.mk (List.cons (HO.cells ((175 : Nat)) (List.cons (SV.ptr ((1 : Nat)) ((0:Nat))) (List.cons (SV.int (IntKind.u64) (v.f)) (List.cons (SV.int (IntKind.i64) (v.c)) [])))) (List.cons (HO.res (v.M)) [])) []))) (Tr.leaf (Prod.mk (SV.tup (List.cons (SV.ptr (5) ((0:Nat))) (List.cons (SV.agg (List.cons (SV.int (IntKind.u64) (f111b_3 v)) (List.cons (SV.int (IntKind.i64) (f111b_4 v)) (List.cons (SV.int (IntKind.i64) (f111b_5 v)) (List.cons (SV.int (IntKind.u64) (f111b_6 v)) []))))) (List.cons (SV.int (IntKind.i64) ((0 : Int))) [])))) (Prod.mk (List.cons (HO.cells ((175 : Nat)) (List.cons (SV.ptr ((1 : Nat)) ((0:Nat))) (List.cons (SV.int (IntKind.u64) (v.f)) (List.cons (SV.int (IntKind.i64) (v.c)) [])))) (List.cons (HO.res (v.M)) (List.cons (HO.cells ((38 : Nat)) (List.cons (SV.int (IntKind.i64) (v.k)) (List.cons (SV.int (IntKind.u64) (v.a)) (List.cons (SV.int (IntKind.i64) (v.b)) (List.cons (SV.int (IntKind.i64) (v.r)) (List.cons (SV.int (IntKind.i64) (v.g)) (List.cons (SV.int (IntKind.i64) (v.s)) (List.cons (SV.int (IntKind.u64) (v.m)) [])))))))) (List.cons (HO.cells ((158 : Nat)) (List.cons (SV.int (IntKind.u64) (f111b_3 v)) (List.cons (SV.int (IntKind.i64) (f111b_4 v)) (List.cons (SV.int (IntKind.i64) (f111b_5 v)) (List.cons (SV.int (IntKind.u64) (f111b_6 v)) []))))) (List.cons (HO.cells ((158 : Nat)) (List.cons (SV.int (IntKind.u64) (f111b_3 v)) (List.cons (SV.int (IntKind.i64) (f111b_4 v)) (List.cons (SV.int (IntKind.i64) (f111b_5 v)) (List.cons (SV.int (IntKind.u64) (f111b_6 v)) []))))) (List.cons (HO.cells ((163 : Nat)) (List.cons (SV.ptr ((0:Nat)) ((0:Nat))) (List.cons (SV.int (IntKind.u64) (v.w)) (List.cons (SV.int (IntKind.i64) (v.l)) (List.cons (SV.int (IntKind.i64) ((0 : Int))) []))))) [])))))) (List.cons (3) (List.cons (4) []))))))))
noncomputable def f111b (v : V111b) : Tr (Fin th.R) := (Tr.need (f111b_0 v) (Tr.ite (f111b_1 v) (Tr.leaf (Prod.mk (SV.tup (List.cons (SV.nilp) (List.cons (SV.agg (List.cons (SV.int (IntKind.u64) ((0 : Int))) (List.cons (SV.int (IntKind.i64) ((0 : Int))) (List.cons (SV.int (IntKind.i64) ((0 : Int))) (List.cons (SV.int (IntKind.u64) ((0 : Int))) []))))) (List.cons (SV.int (IntKind.i64) ((12 : Int))) [])))) (Prod.mk (List.cons (HO.cells ((175 : Nat)) (List.cons (SV.ptr ((1 : Nat)) ((0:Nat))) (List.cons (SV.int (IntKind.u64) (v.f)) (List.cons (SV.int (IntKind.i64) (v.c)) [])))) (List.cons (HO.res (v.M)) [])) ([])))) (Tr.ite (f111b_2 v) (Tr.leaf (Prod.mk (SV.tup (List.cons (SV.nilp) (List.cons (SV.agg (List.cons (SV.int (IntKind.u64) (f111b_3 v)) (List.cons (SV.int (IntKind.i64) (f111b_4 v)) (List.cons (SV.int (IntKind.i64) (f111b_5 v)) (List.cons (SV.int (IntKind.u64) (f111b_6 v)) []))))) (List.cons (SV.int (IntKind.i64) ((20 : Int))) [])))) (Prod.mk (List.cons (HO.cells ((175 : Nat)) (List.cons (SV.ptr ((1 : Nat)) ((0:Nat))) (List.cons (SV.int (IntKind.u64) (v.f)) (List.cons (SV.int (IntKind.i64) (v.c)) [])))) (List.cons (HO.res (v.M)) [])) ([])))) (Tr.leaf (Prod.mk (SV.tup (List.cons (SV.ptr (5) ((0:Nat))) (List.cons (SV.agg (List.cons (SV.int (IntKind.u64) (f111b_3 v)) (List.cons (SV.int (IntKind.i64) (f111b_4 v)) (List.cons (SV.int (IntKind.i64) (f111b_5 v)) (List.cons (SV.int (IntKind.u64) (f111b_6 v)) []))))) (List.cons (SV.int (IntKind.i64) ((0 : Int))) [])))) (Prod.mk (List.cons (HO.cells ((175 : Nat)) (List.cons (SV.ptr ((1 : Nat)) ((0:Nat))) (List.cons (SV.int (IntKind.u64) (v.f)) (List.cons (SV.int (IntKind.i64) (v.c)) [])))) (List.cons (HO.res (v.M)) (List.cons (HO.cells ((38 : Nat)) (List.cons (SV.int (IntKind.i64) (v.k)) (List.cons (SV.int (IntKind.u64) (v.a)) (List.cons (SV.int (IntKind.i64) (v.b)) (List.cons (SV.int (IntKind.i64) (v.r)) (List.cons (SV.int (IntKind.i64) (v.g)) (List.cons (SV.int (IntKind.i64) (v.s)) (List.cons (SV.int (IntKind.u64) (v.m)) [])))))))) (List.cons (HO.cells ((158 : Nat)) (List.cons (SV.int (IntKind.u64) (f111b_3 v)) (List.cons (SV.int (IntKind.i64) (f111b_4 v)) (List.cons (SV.int (IntKind.i64) (f111b_5 v)) (List.cons (SV.int (IntKind.u64) (f111b_6 v)) []))))) (List.cons (HO.cells ((158 : Nat)) (List.cons (SV.int (IntKind.u64) (f111b_3 v)) (List.cons (SV.int (IntKind.i64) (f111b_4 v)) (List.cons (SV.int (IntKind.i64) (f111b_5 v)) (List.cons (SV.int (IntKind.u64) (f111b_6 v)) []))))) (List.cons (HO.cells ((163 : Nat)) (List.cons (SV.ptr ((0:Nat)) ((0:Nat))) (List.cons (SV.int (IntKind.u64) (v.w)) (List.cons (SV.int (IntKind.i64) (v.l)) (List.cons (SV.int (IntKind.i64) ((0 : Int))) []))))) [])))))) ([])))))))
noncomputable def C111b : CF th.R := fnC d111b ofV111b (f111b )
theorem q111b (v : V111b) : (evFn th Try.prog (auto th Try.prog nice112n [] 20) (autoH [] [] [] [] : Hints th) 111) (A111b v) (H111b v) = some (ff111b v) := by kernel_rfl
theorem qg111b (v : V111b) : ((ff111b v).map (setD [])).get = (f111b v).get := by kernel_rfl
theorem qd111b (v : V111b) : allD 2 [] (ff111b v) = true := by kernel_rfl
theorem s111b : Sound Try.prog th 111 (C111b ) := fnC_sound (evFn_sound' (T := th) (P := Try.prog) (tbl := (auto th Try.prog nice112n [] 20)) (auto_sound (nice := nice112n) (us := []) nok112n 20) (H := (autoH [] [] [] [] : Hints th)) (k := 111) (fnLoops (LoopsOk_mem (fun _ => rfl) _ fun _ _ _ e => by cases e))) d111b A111b H111b toV111b (by kernel_rfl) (fun v => by kernel_rfl)
  (fun l v h => by
    unfold ofV111b at h
    split at h
    · cases h; rfl
    · cases h)
  [] (fun v => ⟨ff111b v, q111b v, id, qg111b v, qd111b v⟩)
theorem qdd111b (v : V111b) : (f111b v).get.2.2 = [] := by
  rw [← qg111b, Tr.map_get]; rfl
end Go.Sx.M

namespace Go.Sx.M
open Go Go.Sx Go.Proofs Go.RowKit
set_option maxRecDepth 100000
def pre111b (v : V111b) : Prop := lbad v.l = false ∧ pOk (Sl.mk v.k v.a v.b v.r v.g v.s v.m 0 0 0) = false
theorem n111b (v : V111b) (h : pre111b v) : (f111b v).ok ∧ (f111b v).get.1 = .tup [.nilp, .agg [.int .u64 (pNa (Sl.mk v.k v.a v.b v.r v.g v.s v.m 0 0 0)), .int .i64 (pNb (Sl.mk v.k v.a v.b v.r v.g v.s v.m 0 0 0)), .int .i64 (pNg (Sl.mk v.k v.a v.b v.r v.g v.s v.m 0 0 0)), .int .u64 (pNm (Sl.mk v.k v.a v.b v.r v.g v.s v.m 0 0 0))], .int .i64 20] ∧ HOws (f111b v).get.2.1 [HO.cells 175 [.ptr 1 0, .int .u64 (v.f), .int .i64 (v.c)], HO.res v.M] := by
  have e1 : f111b_1 v = lbad v.l := rfl
  have e2 : f111b_2 v = !pOk (Sl.mk v.k v.a v.b v.r v.g v.s v.m 0 0 0) := rfl
  obtain ⟨h1, h2⟩ := h
  simp only [f111b, Tr.ok, Tr.get, e1, e2, h1, h2]
  exact ⟨⟨fun _ => trivial, (fun e => by cases e), fun _ => ⟨fun _ => trivial, fun e => by cases e⟩⟩, rfl, .refl _⟩
noncomputable def f111bn (v : V111b) : Tr (Fin th.R) := .need (pre111b v) (.leaf (.tup [.nilp, .agg [.int .u64 (pNa (Sl.mk v.k v.a v.b v.r v.g v.s v.m 0 0 0)), .int .i64 (pNb (Sl.mk v.k v.a v.b v.r v.g v.s v.m 0 0 0)), .int .i64 (pNg (Sl.mk v.k v.a v.b v.r v.g v.s v.m 0 0 0)), .int .u64 (pNm (Sl.mk v.k v.a v.b v.r v.g v.s v.m 0 0 0))], .int .i64 20], [.cells 175 [.ptr 1 0, .int .u64 (v.f), .int .i64 (v.c)], .res v.M], []))
theorem s111bn : Sound Try.prog th 111 (fnC d111b ofV111b f111bn) := fnC_refine s111b fun v h => by
  obtain ⟨hp, _⟩ := h
  obtain ⟨a, b, c⟩ := n111b v hp
  exact ⟨a, b.symm, (qdd111b v).symm, c, by show 2 ≤ 2; decide⟩
noncomputable def nice111bn : List (Nat × CF th.R) := (111, lift (fnC d111b ofV111b f111bn)) :: nice112n
theorem nok111bn : NiceOk Try.prog th nice111bn := ⟨lift_sound s111bn, nok112n⟩
end Go.Sx.M

namespace Go.Sx.M
open Go Go.Sx Go.Proofs Go.RowKit
set_option maxRecDepth 100000
structure V37b where
  k : Int
  a : Int
  b : Int
  r : Int
  g : Int
  s : Int
  m : Int
  w : Int
  l : Int
  f : Int
  c : Int
  M : th.R
def A37b (v : V37b) : List SV := [.ptr 0 0, .agg [.int .i64 v.k, .int .u64 v.a, .int .i64 v.b, .int .i64 v.r, .int .i64 v.g, .int .i64 v.s, .int .u64 v.m], .int .u64 v.w, .int .i64 v.l]
def H37b (v : V37b) : List (HO th.R) := [.cells 175 [.ptr 1 0, .int .u64 v.f, .int .i64 v.c], .res v.M]
def toV37b (v : V37b) : List (Vl th.R) := [.i v.k, .i v.a, .i v.b, .i v.r, .i v.g, .i v.s, .i v.m, .i v.w, .i v.l, .i v.f, .i v.c, .r v.M]
def ofV37b : List (Vl th.R) → Option V37b
  | [.i k, .i a, .i b, .i r, .i g, .i s, .i m, .i w, .i l, .i f, .i c, .r M] => some ⟨k, a, b, r, g, s, m, w, l, f, c, M⟩
  | _ => none
def d37b : Ft := ⟨[.ptr 0 0, .agg [.int .i64, .int .u64, .int .i64, .int .i64, .int .i64, .int .i64, .int .u64], .int .u64, .int .i64], [.cells 175 [.ptr 1 0, .int .u64, .int .i64], .res]⟩
noncomputable def f37b_0 (v : V37b) : (Prop) := pre111b (V111b.mk v.k v.a v.b v.r v.g v.s v.m v.w v.l v.f v.c v.M)
noncomputable def ff37b (v : V37b) : Tr (Fin th.R) := (Tr.need (f37b_0 v) (Tr.leaf (Prod.mk (SV.tup (List.cons (SV.int (IntKind.u64) ((0 : Int))) (List.cons (SV.int (IntKind.i64) ((0 : Int))) (List.cons (SV.int (IntKind.i64) ((20 : Int))) [])))) (Prod.mk (List.cons (HO.cells ((175 : Nat)) (List.cons (SV.ptr ((1 : Nat)) ((0:Nat))) (List.cons (SV.int (IntKind.u64) (v.f)) (List.cons (SV.int (IntKind.i64) (v.c)) [])))) (List.cons (HO.res (v.M)) [])) []))))
noncomputable def f37b (v : V37b) : Tr (Fin th.R) := (Tr.need (f37b_0 v) (Tr.leaf (Prod.mk (SV.tup (List.cons (SV.int (IntKind.u64) ((0 : Int))) (List.cons (SV.int (IntKind.i64) ((0 : Int))) (List.cons (SV.int (IntKind.i64) ((20 : Int))) [])))) (Prod.mk (List.cons (HO.cells ((175 : Nat)) (List.cons (SV.ptr ((1 : Nat)) ((0:Nat))) (List.cons (SV.int (IntKind.u64) (v.f)) (List.cons (SV.int (IntKind.i64) (v.c)) [])))) (List.cons (HO.res (v.M)) [])) ([])))))
noncomputable def C37b : CF th.R := fnC d37b ofV37b (f37b )
theorem q37b (v : V37b) : (evFn th Try.prog (auto th Try.prog nice111bn [] 20) (autoH [] [] [24] [] : Hints th) 37) (A37b v) (H37b v) = some (ff37b v) := by kernel_rfl
theorem qg37b (v : V37b) : ((ff37b v).map (setD [])).get = (f37b v).get := by kernel_rfl
theorem qd37b (v : V37b) : allD 2 [] (ff37b v) = true := by kernel_rfl
theorem s37b : Sound Try.prog th 37 (C37b ) := fnC_sound (evFn_sound' (T := th) (P := Try.prog) (tbl := (auto th Try.prog nice111bn [] 20)) (auto_sound (nice := nice111bn) (us := []) nok111bn 20) (H := (autoH [] [] [24] [] : Hints th)) (k := 37) (fnLoops (LoopsOk_mem (fun _ => rfl) _ fun _ _ _ e => by cases e))) d37b A37b H37b toV37b (by kernel_rfl) (fun v => by kernel_rfl)
  (fun l v h => by
    unfold ofV37b at h
    split at h
    · cases h; rfl
    · cases h)
  [] (fun v => ⟨ff37b v, q37b v, id, qg37b v, qd37b v⟩)
theorem qdd37b (v : V37b) : (f37b v).get.2.2 = [] := by
  rw [← qg37b, Tr.map_get]; rfl
end Go.Sx.M

namespace Go.Sx.M
open Go Go.Sx Go.Proofs Go.RowKit
set_option maxRecDepth 100000
structure V111o where
  k : Int
  a : Int
  b : Int
  r : Int
  g : Int
  s : Int
  m : Int
  w : Int
  l : Int
  f : Int
  c : Int
  M : th.R
def A111o (v : V111o) : List SV := [.ptr 0 0, .agg [.int .i64 v.k, .int .u64 v.a, .int .i64 v.b, .int .i64 v.r, .int .i64 v.g, .int .i64 v.s, .int .u64 v.m], .int .u64 v.w, .int .i64 v.l]
def H111o (v : V111o) : List (HO th.R) := [.cells 175 [.ptr 1 0, .int .u64 v.f, .int .i64 v.c], .res v.M]
def toV111o (v : V111o) : List (Vl th.R) := [.i v.k, .i v.a, .i v.b, .i v.r, .i v.g, .i v.s, .i v.m, .i v.w, .i v.l, .i v.f, .i v.c, .r v.M]
def ofV111o : List (Vl th.R) → Option V111o
  | [.i k, .i a, .i b, .i r, .i g, .i s, .i m, .i w, .i l, .i f, .i c, .r M] => some ⟨k, a, b, r, g, s, m, w, l, f, c, M⟩
  | _ => none
def d111o : Ft := ⟨[.ptr 0 0, .agg [.int .i64, .int .u64, .int .i64, .int .i64, .int .i64, .int .i64, .int .u64], .int .u64, .int .i64], [.cells 175 [.ptr 1 0, .int .u64, .int .i64], .res]⟩
noncomputable def f111o_7 (v : V111o) : (Bool) := cnd (decide (v.l < (1 : Int))) true (decide (v.l > (64 : Int)))
noncomputable def f111o_8 (v : V111o) : (Sl) := Sl.mk v.k v.a v.b v.r v.g v.s v.m (0 : Int) (0 : Int) (0 : Int)
noncomputable def f111o_0 (v : V111o) : (Prop) := f111o_7 v = false → pre124 (V124.mk v.k v.a v.b v.r v.g v.s v.m)
noncomputable def f111o_1 (v : V111o) : (Bool) := f111o_7 v
noncomputable def f111o_2 (v : V111o) : (Bool) := !pOk (f111o_8 v)
noncomputable def f111o_3 (v : V111o) : (Int) := pNa (f111o_8 v)
noncomputable def f111o_4 (v : V111o) : (Int) := pNb (f111o_8 v)
noncomputable def f111o_5 (v : V111o) : (Int) := pNg (f111o_8 v)
noncomputable def f111o_6 (v : V111o) : (Int) := pNm (f111o_8 v)
noncomputable def ff111o (v : V111o) : Tr (Fin th.R) := (Tr.need (f111o_0 v) (Tr.ite (f111o_1 v) (Tr.leaf (Prod.mk (SV.tup (List.cons (SV.nilp) (List.cons (SV.agg (List.cons (SV.int (IntKind.u64) ((0 : Int))) (List.cons (SV.int (IntKind.i64) ((0 : Int))) (List.cons (SV.int (IntKind.i64) ((0 : Int))) (List.cons (SV.int (IntKind.u64) ((0 : Int))) []))))) (List.cons (SV.int (IntKind.i64) ((12 : Int))) [])))) (Prod.mk (List.cons (HO.cells ((175 : Nat)) (List.cons (SV.ptr ((1 : Nat)) ((0:Nat))) (List.cons (SV.int (IntKind.u64) (v.f)) (List.cons (SV.int (IntKind.i64) (v.c)) [])))) (List.cons (HO.res (v.M)) [])) []))) (Tr.ite (f111o_2 v) (Tr.leaf (Prod.mk (SV.tup (List.cons (SV.nilp) (List.cons (SV.agg (List.cons (SV.int (IntKind.u64) (f111o_3 v)) (List.cons (SV.int (IntKind.i64) (f111o_4 v)) (List.cons (SV.int (IntKind.i64) (f111o_5 v)) (List.cons (SV.int (IntKind.u64) (f111o_6 v)) []))))) (List.cons (SV.int (IntKind.i64) ((20 : Int))) [])))) (Prod.mk (List.cons (HO.cells ((175 : Nat)) (List.cons (SV.ptr ((1 : Nat)) ((0:Nat))) (List.cons (SV.int (IntKind.u64) (v.f)) (List.cons (SV.int (IntKind.i64) (v.c)) [])))) (List.cons (HO.res (v.M)) [])) []))) (Tr.leaf (Prod.mk (SV.tup (List.cons (SV.ptr (5) ((0:Nat))) (List.cons (SV.agg (List.cons (SV.int (IntKind.u64) (f111o_3 v)) (List.cons (SV.int (IntKind.i64) (f111o_4 v)) (List.cons (SV.int (IntKind.i64) (f111o_5 v)) (List.cons (SV.int (IntKind.u64) (f111o_6 v)) []))))) (List.cons (SV.int (IntKind.i64) ((0 : Int))) [])))) (Prod.mk (List.cons (HO.cells ((175 : Nat)) (List.cons (SV.ptr ((1 : Nat)) ((0:Nat))) (List.cons (SV.int (IntKind.u64) (v.f)) (List.cons (SV.int (IntKind.i64) (v.c)) [])))) (List.cons (HO.res (v.M)) (List.cons (HO.cells ((38 : Nat)) (List.cons (SV.int (IntKind.i64) (v.k)) (List.cons (SV.int (IntKind.u64) (v.a)) (List.cons (SV.int (IntKind.i64) (v.b)) (List.cons (SV.int (IntKind.i64) (v.r)) (List.cons (SV.int (IntKind.i64) (v.g)) (List.cons (SV.int (IntKind.i64) (v.s)) (List.cons (SV.int (IntKind.u64) (v.m)) [])))))))) (List.cons (HO.cells ((158 : Nat)) (List.cons (SV.int (IntKind.u64) (f111o_3 v)) (List.cons (SV.int (IntKind.i64) (f111o_4 v)) (List.cons (SV.int (IntKind.i64) (f111o_5 v)) (List.cons (SV.int (IntKind.u64) (f111o_6 v)) []))))) (List.cons (HO.cells ((158 : Nat)) (List.cons (SV.int (IntKind.u64) (f111o_3 v)) (List.cons (SV.int (IntKind.i64) (f111o_4 v)) (List.cons (SV.int (IntKind.i64) (f111o_5 v)) (List.cons (SV.int (IntKind.u64) (f111o_6 v)) []))))) (List.cons (HO.cells ((163 : Nat)) (List.cons (SV.ptr ((0:Nat)) ((0:Nat))) (List.cons (SV.int (IntKind.u64) (v.w)) (List.cons (SV.int (IntKind.i64) (v.l)) (List.cons (SV.int (IntKind.i64) ((0 : Int))) []))))) [])))))) (List.cons (3) (List.cons (4) []))))))))
noncomputable def f111o (v : V111o) : Tr (Fin th.R) := (Tr.need (f111o_0 v) (Tr.ite (f111o_1 v) (Tr.leaf (Prod.mk (SV.tup (List.cons (SV.nilp) (List.cons (SV.agg (List.cons (SV.int (IntKind.u64) ((0 : Int))) (List.cons (SV.int (IntKind.i64) ((0 : Int))) (List.cons (SV.int (IntKind.i64) ((0 : Int))) (List.cons (SV.int (IntKind.u64) ((0 : Int))) []))))) (List.cons (SV.int (IntKind.i64) ((12 : Int))) [])))) (Prod.mk (List.cons (HO.cells ((175 : Nat)) (List.cons (SV.ptr ((1 : Nat)) ((0:Nat))) (List.cons (SV.int (IntKind.u64) (v.f)) (List.cons (SV.int (IntKind.i64) (v.c)) [])))) (List.cons (HO.res (v.M)) [])) ([])))) (Tr.ite (f111o_2 v) (Tr.leaf (Prod.mk (SV.tup (List.cons (SV.nilp) (List.cons (SV.agg (List.cons (SV.int (IntKind.u64) (f111o_3 v)) (List.cons (SV.int (IntKind.i64) (f111o_4 v)) (List.cons (SV.int (IntKind.i64) (f111o_5 v)) (List.cons (SV.int (IntKind.u64) (f111o_6 v)) []))))) (List.cons (SV.int (IntKind.i64) ((20 : Int))) [])))) (Prod.mk (List.cons (HO.cells ((175 : Nat)) (List.cons (SV.ptr ((1 : Nat)) ((0:Nat))) (List.cons (SV.int (IntKind.u64) (v.f)) (List.cons (SV.int (IntKind.i64) (v.c)) [])))) (List.cons (HO.res (v.M)) [])) ([])))) (Tr.leaf (Prod.mk (SV.tup (List.cons (SV.ptr (5) ((0:Nat))) (List.cons (SV.agg (List.cons (SV.int (IntKind.u64) (f111o_3 v)) (List.cons (SV.int (IntKind.i64) (f111o_4 v)) (List.cons (SV.int (IntKind.i64) (f111o_5 v)) (List.cons (SV.int (IntKind.u64) (f111o_6 v)) []))))) (List.cons (SV.int (IntKind.i64) ((0 : Int))) [])))) (Prod.mk (List.cons (HO.cells ((175 : Nat)) (List.cons (SV.ptr ((1 : Nat)) ((0:Nat))) (List.cons (SV.int (IntKind.u64) (v.f)) (List.cons (SV.int (IntKind.i64) (v.c)) [])))) (List.cons (HO.res (v.M)) (List.cons (HO.cells ((38 : Nat)) (List.cons (SV.int (IntKind.i64) (v.k)) (List.cons (SV.int (IntKind.u64) (v.a)) (List.cons (SV.int (IntKind.i64) (v.b)) (List.cons (SV.int (IntKind.i64) (v.r)) (List.cons (SV.int (IntKind.i64) (v.g)) (List.cons (SV.int (IntKind.i64) (v.s)) (List.cons (SV.int (IntKind.u64) (v.m)) [])))))))) (List.cons (HO.cells ((158 : Nat)) (List.cons (SV.int (IntKind.u64) (f111o_3 v)) (List.cons (SV.int (IntKind.i64) (f111o_4 v)) (List.cons (SV.int (IntKind.i64) (f111o_5 v)) (List.cons (SV.int (IntKind.u64) (f111o_6 v)) []))))) (List.cons (HO.cells ((158 : Nat)) (List.cons (SV.int (IntKind.u64) (f111o_3 v)) (List.cons (SV.int (IntKind.i64) (f111o_4 v)) (List.cons (SV.int (IntKind.i64) (f111o_5 v)) (List.cons (SV.int (IntKind.u64) (f111o_6 v)) []))))) (List.cons (HO.cells ((163 : Nat)) (List.cons (SV.ptr ((0:Nat)) ((0:Nat))) (List.cons (SV.int (IntKind.u64) (v.w)) (List.cons (SV.int (IntKind.i64) (v.l)) (List.cons (SV.int (IntKind.i64) ((0 : Int))) []))))) [])))))) ([])))))))
noncomputable def C111o : CF th.R := fnC d111o ofV111o (f111o )
theorem q111o (v : V111o) : (evFn th Try.prog (auto th Try.prog nice112n [] 20) (autoH [] [] [] [] : Hints th) 111) (A111o v) (H111o v) = some (ff111o v) := by kernel_rfl
theorem qg111o (v : V111o) : ((ff111o v).map (setD [])).get = (f111o v).get := by kernel_rfl
theorem qd111o (v : V111o) : allD 2 [] (ff111o v) = true := by kernel_rfl
theorem s111o : Sound Try.prog th 111 (C111o ) := fnC_sound (evFn_sound' (T := th) (P := Try.prog) (tbl := (auto th Try.prog nice112n [] 20)) (auto_sound (nice := nice112n) (us := []) nok112n 20) (H := (autoH [] [] [] [] : Hints th)) (k := 111) (fnLoops (LoopsOk_mem (fun _ => rfl) _ fun _ _ _ e => by cases e))) d111o A111o H111o toV111o (by kernel_rfl) (fun v => by kernel_rfl)
  (fun l v h => by
    unfold ofV111o at h
    split at h
    · cases h; rfl
    · cases h)
  [] (fun v => ⟨ff111o v, q111o v, id, qg111o v, qd111o v⟩)
theorem qdd111o (v : V111o) : (f111o v).get.2.2 = [] := by
  rw [← qg111o, Tr.map_get]; rfl
end Go.Sx.M

namespace Go.Sx.M
open Go Go.Sx Go.Proofs Go.RowKit
set_option maxRecDepth 100000
def pre111o (v : V111o) : Prop := bgE (Sl.mk v.k v.a v.b v.r v.g v.s v.m 0 0 0) v.l = 0
theorem n111o (v : V111o) (h : pre111o v) : (f111o v).ok ∧ (f111o v).get.1 = .tup [.ptr 5 0, .agg [.int .u64 (pNa (Sl.mk v.k v.a v.b v.r v.g v.s v.m 0 0 0)), .int .i64 (pNb (Sl.mk v.k v.a v.b v.r v.g v.s v.m 0 0 0)), .int .i64 (pNg (Sl.mk v.k v.a v.b v.r v.g v.s v.m 0 0 0)), .int .u64 (pNm (Sl.mk v.k v.a v.b v.r v.g v.s v.m 0 0 0))], .int .i64 0] ∧ HOws (f111o v).get.2.1 [HO.cells 175 [.ptr 1 0, .int .u64 (v.f), .int .i64 (v.c)], HO.res v.M, HO.gone, HO.gone, HO.gone, HO.cells 163 [.ptr 0 0, .int .u64 v.w, .int .i64 v.l, .int .i64 0]] := by
  have e1 : f111o_1 v = lbad v.l := rfl
  have e2 : f111o_2 v = !pOk (Sl.mk v.k v.a v.b v.r v.g v.s v.m 0 0 0) := rfl
  obtain ⟨k1, k2, _⟩ := bgE_ok h
  simp only [f111o, Tr.ok, Tr.get, e1, e2, k1, k2]
  refine ⟨⟨fun _ => trivial, (fun e => by cases e), fun _ => ⟨(fun e => by cases e), fun _ => trivial⟩⟩, rfl, ?_⟩
  exact .cons (.inl rfl) (.cons (.inl rfl) (.cons (.inr (.inl rfl)) (.cons (.inr (.inl rfl)) (.cons (.inr (.inl rfl)) (.cons (.inl rfl) .nil)))))
noncomputable def f111on (v : V111o) : Tr (Fin th.R) := .need (pre111o v) (.leaf (.tup [.ptr 5 0, .agg [.int .u64 (pNa (Sl.mk v.k v.a v.b v.r v.g v.s v.m 0 0 0)), .int .i64 (pNb (Sl.mk v.k v.a v.b v.r v.g v.s v.m 0 0 0)), .int .i64 (pNg (Sl.mk v.k v.a v.b v.r v.g v.s v.m 0 0 0)), .int .u64 (pNm (Sl.mk v.k v.a v.b v.r v.g v.s v.m 0 0 0))], .int .i64 0], [.cells 175 [.ptr 1 0, .int .u64 (v.f), .int .i64 (v.c)], .res v.M, .gone, .gone, .gone, .cells 163 [.ptr 0 0, .int .u64 v.w, .int .i64 v.l, .int .i64 0]], []))
theorem s111on : Sound Try.prog th 111 (fnC d111o ofV111o f111on) := fnC_refine s111o fun v h => by
  obtain ⟨hp, _⟩ := h
  obtain ⟨a, b, c⟩ := n111o v hp
  exact ⟨a, b.symm, (qdd111o v).symm, c, by show 2 ≤ 6; decide⟩
noncomputable def nice111on : List (Nat × CF th.R) := (111, lift (fnC d111o ofV111o f111on)) :: nice112n
theorem nok111on : NiceOk Try.prog th nice111on := ⟨lift_sound s111on, nok112n⟩
end Go.Sx.M

namespace Go.Sx.M
open Go Go.Sx Go.Proofs Go.RowKit
set_option maxRecDepth 100000
structure V37o where
  k : Int
  a : Int
  b : Int
  r : Int
  g : Int
  s : Int
  m : Int
  w : Int
  l : Int
  f : Int
  c : Int
  M : th.R
def A37o (v : V37o) : List SV := [.ptr 0 0, .agg [.int .i64 v.k, .int .u64 v.a, .int .i64 v.b, .int .i64 v.r, .int .i64 v.g, .int .i64 v.s, .int .u64 v.m], .int .u64 v.w, .int .i64 v.l]
def H37o (v : V37o) : List (HO th.R) := [.cells 175 [.ptr 1 0, .int .u64 v.f, .int .i64 v.c], .res v.M]
def toV37o (v : V37o) : List (Vl th.R) := [.i v.k, .i v.a, .i v.b, .i v.r, .i v.g, .i v.s, .i v.m, .i v.w, .i v.l, .i v.f, .i v.c, .r v.M]
def ofV37o : List (Vl th.R) → Option V37o
  | [.i k, .i a, .i b, .i r, .i g, .i s, .i m, .i w, .i l, .i f, .i c, .r M] => some ⟨k, a, b, r, g, s, m, w, l, f, c, M⟩
  | _ => none
def d37o : Ft := ⟨[.ptr 0 0, .agg [.int .i64, .int .u64, .int .i64, .int .i64, .int .i64, .int .i64, .int .u64], .int .u64, .int .i64], [.cells 175 [.ptr 1 0, .int .u64, .int .i64], .res]⟩
noncomputable def f37o_5 (v : V37o) : (Sl) := Sl.mk v.k v.a v.b v.r v.g v.s v.m (0 : Int) (0 : Int) (0 : Int)
noncomputable def f37o_6 (v : V37o) : (Int) := pNa (f37o_5 v)
noncomputable def f37o_7 (v : V37o) : (Int) := pNb (f37o_5 v)
noncomputable def f37o_8 (v : V37o) : (Int) := pNg (f37o_5 v)
noncomputable def f37o_9 (v : V37o) : (Int) := pNm (f37o_5 v)
noncomputable def f37o_10 (v : V37o) : (Wr) := wkM (fun (a : Int) => capS (ld v.M a)) v.w (v.l.toNat + (1 : Nat)) v.l (0 : Int) (f37o_6 v) (f37o_7 v) (f37o_8 v) (f37o_9 v)
noncomputable def f37o_0 (v : V37o) : (Prop) := pre111o (V111o.mk v.k v.a v.b v.r v.g v.s v.m v.w v.l v.f v.c v.M)
noncomputable def f37o_1 (v : V37o) : (Prop) := pre112 (V112.mk (f37o_6 v) (f37o_7 v) (f37o_8 v) (f37o_9 v) v.w v.l (0 : Int) v.f v.c v.M)
noncomputable def f37o_2 (v : V37o) : (Int) := cnd (!(f37o_10 v).ok) (0 : Int) (f37o_10 v).s
noncomputable def f37o_3 (v : V37o) : (Int) := cnd (!(f37o_10 v).ok) (0 : Int) (f37o_10 v).l
noncomputable def f37o_4 (v : V37o) : (Int) := cnd (!(f37o_10 v).ok) (23 : Int) (0 : Int)
noncomputable def ff37o (v : V37o) : Tr (Fin th.R) := (Tr.need (f37o_0 v) (Tr.need (f37o_1 v) (Tr.leaf (Prod.mk (SV.tup (List.cons (SV.int (IntKind.u64) (f37o_2 v)) (List.cons (SV.int (IntKind.i64) (f37o_3 v)) (List.cons (SV.int (IntKind.i64) (f37o_4 v)) [])))) (Prod.mk (List.cons (HO.cells ((175 : Nat)) (List.cons (SV.ptr ((1 : Nat)) ((0:Nat))) (List.cons (SV.int (IntKind.u64) (v.f)) (List.cons (SV.int (IntKind.i64) (v.c)) [])))) (List.cons (HO.res (v.M)) [])) [])))))
noncomputable def f37o (v : V37o) : Tr (Fin th.R) := (Tr.need (f37o_0 v) (Tr.need (f37o_1 v) (Tr.leaf (Prod.mk (SV.tup (List.cons (SV.int (IntKind.u64) (f37o_2 v)) (List.cons (SV.int (IntKind.i64) (f37o_3 v)) (List.cons (SV.int (IntKind.i64) (f37o_4 v)) [])))) (Prod.mk (List.cons (HO.cells ((175 : Nat)) (List.cons (SV.ptr ((1 : Nat)) ((0:Nat))) (List.cons (SV.int (IntKind.u64) (v.f)) (List.cons (SV.int (IntKind.i64) (v.c)) [])))) (List.cons (HO.res (v.M)) [])) ([]))))))
noncomputable def C37o : CF th.R := fnC d37o ofV37o (f37o )
theorem q37o (v : V37o) : (evFn th Try.prog (auto th Try.prog nice111on [] 20) (autoH [] [] [24] [] : Hints th) 37) (A37o v) (H37o v) = some (ff37o v) := by kernel_rfl
theorem qg37o (v : V37o) : ((ff37o v).map (setD [])).get = (f37o v).get := by kernel_rfl
theorem qd37o (v : V37o) : allD 2 [] (ff37o v) = true := by kernel_rfl
theorem s37o : Sound Try.prog th 37 (C37o ) := fnC_sound (evFn_sound' (T := th) (P := Try.prog) (tbl := (auto th Try.prog nice111on [] 20)) (auto_sound (nice := nice111on) (us := []) nok111on 20) (H := (autoH [] [] [24] [] : Hints th)) (k := 37) (fnLoops (LoopsOk_mem (fun _ => rfl) _ fun _ _ _ e => by cases e))) d37o A37o H37o toV37o (by kernel_rfl) (fun v => by kernel_rfl)
  (fun l v h => by
    unfold ofV37o at h
    split at h
    · cases h; rfl
    · cases h)
  [] (fun v => ⟨ff37o v, q37o v, id, qg37o v, qd37o v⟩)
theorem qdd37o (v : V37o) : (f37o v).get.2.2 = [] := by
  rw [← qg37o, Tr.map_get]; rfl
end Go.Sx.M

namespace Go.Sx.M
open Go Go.Sx Go.Proofs Go.RowKit
set_option maxRecDepth 100000
/-- A walk in a tree, from any capability: the slot, what is left, its error. -/
noncomputable def wkW (M : Mem) (z : Sl) (w l : Int) : Wr := wkM (fun a => capS (ld M a)) w (l.toNat + 1) l 0 (pNa z) (pNb z) (pNg z) (pNm z)
noncomputable def wkA (M : Mem) (z : Sl) (w l : Int) : Int := cnd (bgE z l != 0) 0 (cnd (!(wkW M z w l).ok) 0 (wkW M z w l).s)
noncomputable def wkB (M : Mem) (z : Sl) (w l : Int) : Int := cnd (bgE z l != 0) 0 (cnd (!(wkW M z w l).ok) 0 (wkW M z w l).l)
noncomputable def wkE (M : Mem) (z : Sl) (w l : Int) : Int := cnd (bgE z l != 0) (bgE z l) (cnd (!(wkW M z w l).ok) 23 0)
abbrev V37 := V37a
abbrev d37 := d37a
abbrev ofV37 := ofV37a
def cp37 (v : V37) : Sl := ⟨v.k, v.a, v.b, v.r, v.g, v.s, v.m, 0, 0, 0⟩
noncomputable def lf37 (v : V37) : Tr (Fin th.R) := .leaf (.tup [.int .u64 (wkA v.M (cp37 v) v.w v.l), .int .i64 (wkB v.M (cp37 v) v.w v.l), .int .i64 (wkE v.M (cp37 v) v.w v.l)], [.cells 175 [.ptr 1 0, .int .u64 v.f, .int .i64 v.c], .res v.M], [])
def cb37 (v : V37) : V37b := ⟨v.k, v.a, v.b, v.r, v.g, v.s, v.m, v.w, v.l, v.f, v.c, v.M⟩
def co37 (v : V37) : V37o := ⟨v.k, v.a, v.b, v.r, v.g, v.s, v.m, v.w, v.l, v.f, v.c, v.M⟩
theorem hb37 (l : List (Vl th.R)) : ofV37b l = (ofV37 l).map cb37 := by
  unfold ofV37b ofV37 ofV37a
  split
  · rfl
  · rename_i hn
    first
    | rfl
    | (split
       · exact absurd rfl (hn _ _ _ _ _ _ _ _ _ _ _ _)
       · rfl)
theorem ho37 (l : List (Vl th.R)) : ofV37o l = (ofV37 l).map co37 := by
  unfold ofV37o ofV37 ofV37a
  split
  · rfl
  · rename_i hn
    first
    | rfl
    | (split
       · exact absurd rfl (hn _ _ _ _ _ _ _ _ _ _ _ _)
       · rfl)
theorem sb37 : Sound Try.prog th 37 (fnC d37 ofV37 (fun v => f37b (cb37 v))) := by
  have := s37b
  unfold C37b at this
  rw [fnC_conv (d := d37b) (ofV := ofV37) hb37] at this
  exact this
theorem so37 : Sound Try.prog th 37 (fnC d37 ofV37 (fun v => f37o (co37 v))) := by
  have := s37o
  unfold C37o at this
  rw [fnC_conv (d := d37o) (ofV := ofV37) ho37] at this
  exact this
theorem ra37 : Sound Try.prog th 37 (fnC d37 ofV37 (fun v => .need (lbad v.l = true) (lf37 v))) := fnC_refine s37a fun v h => by
  obtain ⟨h, _⟩ := h
  have e : bgE (cp37 v) v.l = 12 := by unfold bgE; rw [h]; rfl
  refine ⟨⟨h, trivial⟩, ?_, rfl, .refl _, by show 2 ≤ 2; decide⟩
  show SV.tup [.int .u64 (wkA v.M (cp37 v) v.w v.l), .int .i64 (wkB v.M (cp37 v) v.w v.l), .int .i64 (wkE v.M (cp37 v) v.w v.l)] = _
  unfold wkA wkB wkE
  rw [e]
  rfl
theorem rb37 : Sound Try.prog th 37 (fnC d37 ofV37 (fun v => .need (lbad v.l = false ∧ pOk (cp37 v) = false) (lf37 v))) := fnC_refine sb37 fun v h => by
  obtain ⟨⟨h1, h2⟩, _⟩ := h
  have e : bgE (cp37 v) v.l = 20 := by unfold bgE; rw [h1, h2]; rfl
  refine ⟨⟨⟨h1, h2⟩, trivial⟩, ?_, rfl, .refl _, by show 2 ≤ 2; decide⟩
  show SV.tup [.int .u64 (wkA v.M (cp37 v) v.w v.l), .int .i64 (wkB v.M (cp37 v) v.w v.l), .int .i64 (wkE v.M (cp37 v) v.w v.l)] = _
  unfold wkA wkB wkE
  rw [e]
  rfl
theorem ro37 : Sound Try.prog th 37 (fnC d37 ofV37 (fun v => .need (bgE (cp37 v) v.l = 0 ∧ SlR (cp37 v) ∧ MemR v.M) (lf37 v))) := fnC_refine so37 fun v h => by
  obtain ⟨⟨h1, h2, h3⟩, _⟩ := h
  obtain ⟨k1, k2, k3, k4⟩ := bgE_ok h1
  obtain ⟨_, _, _, e2, e3, _, e5, e6⟩ := pOk_spec h2 k2
  have hp : pnOk v.l (pNb (cp37 v)) (pNg (cp37 v)) := by rw [e2, e3]; exact ⟨⟨by omega, k4⟩, e5, e6⟩
  refine ⟨⟨h1, ⟨hp, h3⟩, trivial⟩, ?_, rfl, .refl _, by show 2 ≤ 2; decide⟩
  show SV.tup [.int .u64 (wkA v.M (cp37 v) v.w v.l), .int .i64 (wkB v.M (cp37 v) v.w v.l), .int .i64 (wkE v.M (cp37 v) v.w v.l)] = _
  unfold wkA wkB wkE
  rw [h1]
  rfl
def pre37 (v : V37) : Prop := SlR (cp37 v) ∧ MemR v.M
noncomputable def f37n (v : V37) : Tr (Fin th.R) := .need (pre37 v) (lf37 v)
theorem s37n : Sound Try.prog th 37 (fnC d37 ofV37 f37n) := by
  have h1 : Sound Try.prog th 37 (fnC d37 ofV37 (fun v => .need (bgE (cp37 v) v.l ≠ 0) (lf37 v))) := fnC_two ra37 rb37 fun v h => by
    obtain ⟨h, _⟩ := h
    cases hl : lbad v.l with
    | true => exact .inl ⟨⟨rfl, trivial⟩, rfl⟩
    | false =>
      refine .inr ⟨⟨⟨rfl, ?_⟩, trivial⟩, rfl⟩
      cases hp : pOk (cp37 v) with
      | false => rfl
      | true => exact absurd (by unfold bgE; rw [hl, hp]; rfl) h
  exact fnC_two h1 ro37 fun v h => by
    obtain ⟨⟨h2, h3⟩, _⟩ := h
    by_cases h : bgE (cp37 v) v.l = 0
    · exact .inr ⟨⟨⟨h, h2, h3⟩, trivial⟩, rfl⟩
    · exact .inl ⟨⟨h, trivial⟩, rfl⟩
noncomputable def nice37n : List (Nat × CF th.R) := (37, lift (fnC d37 ofV37 f37n)) :: nice112n
theorem nok37n : NiceOk Try.prog th nice37n := ⟨lift_sound s37n, nok112n⟩
end Go.Sx.M

namespace Go.Sx.M
open Go Go.Sx Go.Proofs Go.RowKit
set_option maxRecDepth 100000
structure V40 where
  k : Int
  a : Int
  b : Int
  r : Int
  g : Int
  s : Int
  m : Int
  w : Int
  l : Int
  f : Int
  c : Int
  M : th.R
def A40 (v : V40) : List SV := [.ptr 0 0, .agg [.int .i64 v.k, .int .u64 v.a, .int .i64 v.b, .int .i64 v.r, .int .i64 v.g, .int .i64 v.s, .int .u64 v.m], .int .u64 v.w, .int .i64 v.l]
def H40 (v : V40) : List (HO th.R) := [.cells 175 [.ptr 1 0, .int .u64 v.f, .int .i64 v.c], .res v.M]
def toV40 (v : V40) : List (Vl th.R) := [.i v.k, .i v.a, .i v.b, .i v.r, .i v.g, .i v.s, .i v.m, .i v.w, .i v.l, .i v.f, .i v.c, .r v.M]
def ofV40 : List (Vl th.R) → Option V40
  | [.i k, .i a, .i b, .i r, .i g, .i s, .i m, .i w, .i l, .i f, .i c, .r M] => some ⟨k, a, b, r, g, s, m, w, l, f, c, M⟩
  | _ => none
def d40 : Ft := ⟨[.ptr 0 0, .agg [.int .i64, .int .u64, .int .i64, .int .i64, .int .i64, .int .i64, .int .u64], .int .u64, .int .i64], [.cells 175 [.ptr 1 0, .int .u64, .int .i64], .res]⟩
noncomputable def f40_3 (v : V40) : (V37a) := V37a.mk v.k v.a v.b v.r v.g v.s v.m v.w v.l v.f v.c v.M
noncomputable def f40_4 (v : V40) : (Sl) := cp37 (f40_3 v)
noncomputable def f40_5 (v : V40) : (Int) := wkE v.M (f40_4 v) v.w v.l
noncomputable def f40_0 (v : V40) : (Prop) := pre37 (f40_3 v)
noncomputable def f40_1 (v : V40) : (Int) := cnd (f40_5 v != (0 : Int)) (0 : Int) (cnd (wkB v.M (f40_4 v) v.w v.l != (0 : Int)) (0 : Int) (wkA v.M (f40_4 v) v.w v.l))
noncomputable def f40_2 (v : V40) : (Int) := cnd (f40_5 v != (0 : Int)) (f40_5 v) (cnd (wkB v.M (f40_4 v) v.w v.l != (0 : Int)) (23 : Int) (0 : Int))
noncomputable def ff40 (v : V40) : Tr (Fin th.R) := (Tr.need (f40_0 v) (Tr.leaf (Prod.mk (SV.tup (List.cons (SV.int (IntKind.u64) (f40_1 v)) (List.cons (SV.int (IntKind.i64) (f40_2 v)) []))) (Prod.mk (List.cons (HO.cells ((175 : Nat)) (List.cons (SV.ptr ((1 : Nat)) ((0:Nat))) (List.cons (SV.int (IntKind.u64) (v.f)) (List.cons (SV.int (IntKind.i64) (v.c)) [])))) (List.cons (HO.res (v.M)) [])) []))))
noncomputable def f40 (v : V40) : Tr (Fin th.R) := (Tr.need (f40_0 v) (Tr.leaf (Prod.mk (SV.tup (List.cons (SV.int (IntKind.u64) (f40_1 v)) (List.cons (SV.int (IntKind.i64) (f40_2 v)) []))) (Prod.mk (List.cons (HO.cells ((175 : Nat)) (List.cons (SV.ptr ((1 : Nat)) ((0:Nat))) (List.cons (SV.int (IntKind.u64) (v.f)) (List.cons (SV.int (IntKind.i64) (v.c)) [])))) (List.cons (HO.res (v.M)) [])) ([])))))
noncomputable def C40 : CF th.R := fnC d40 ofV40 (f40 )
theorem q40 (v : V40) : (evFn th Try.prog (auto th Try.prog nice37n [] 20) (autoH [] [] [] [] : Hints th) 40) (A40 v) (H40 v) = some (ff40 v) := by kernel_rfl
theorem qg40 (v : V40) : ((ff40 v).map (setD [])).get = (f40 v).get := by kernel_rfl
theorem qd40 (v : V40) : allD 2 [] (ff40 v) = true := by kernel_rfl
theorem s40 : Sound Try.prog th 40 (C40 ) := fnC_sound (evFn_sound' (T := th) (P := Try.prog) (tbl := (auto th Try.prog nice37n [] 20)) (auto_sound (nice := nice37n) (us := []) nok37n 20) (H := (autoH [] [] [] [] : Hints th)) (k := 40) (fnLoops (LoopsOk_mem (fun _ => rfl) _ fun _ _ _ e => by cases e))) d40 A40 H40 toV40 (by kernel_rfl) (fun v => by kernel_rfl)
  (fun l v h => by
    unfold ofV40 at h
    split at h
    · cases h; rfl
    · cases h)
  [] (fun v => ⟨ff40 v, q40 v, id, qg40 v, qd40 v⟩)
theorem qdd40 (v : V40) : (f40 v).get.2.2 = [] := by
  rw [← qg40, Tr.map_get]; rfl
end Go.Sx.M

namespace Go.Sx.M
open Go Go.Sx Go.Proofs Go.RowKit
set_option maxRecDepth 100000
noncomputable def fdA (M : Mem) (z : Sl) (w l : Int) : Int := cnd (wkE M z w l != 0) 0 (cnd (wkB M z w l != 0) 0 (wkA M z w l))
noncomputable def fdE (M : Mem) (z : Sl) (w l : Int) : Int := cnd (wkE M z w l != 0) (wkE M z w l) (cnd (wkB M z w l != 0) 23 0)
def pre40 (v : V40) : Prop := SlR (Sl.mk v.k v.a v.b v.r v.g v.s v.m 0 0 0) ∧ MemR v.M
theorem n40 (v : V40) (h : pre40 v) : (f40 v).ok ∧ (f40 v).get.1 = .tup [.int .u64 (fdA v.M (Sl.mk v.k v.a v.b v.r v.g v.s v.m 0 0 0) v.w v.l), .int .i64 (fdE v.M (Sl.mk v.k v.a v.b v.r v.g v.s v.m 0 0 0) v.w v.l)] ∧ HOws (f40 v).get.2.1 [HO.cells 175 [.ptr 1 0, .int .u64 (v.f), .int .i64 (v.c)], HO.res v.M] := by
  exact ⟨⟨h, trivial⟩, rfl, .refl _⟩
noncomputable def f40n (v : V40) : Tr (Fin th.R) := .need (pre40 v) (.leaf (.tup [.int .u64 (fdA v.M (Sl.mk v.k v.a v.b v.r v.g v.s v.m 0 0 0) v.w v.l), .int .i64 (fdE v.M (Sl.mk v.k v.a v.b v.r v.g v.s v.m 0 0 0) v.w v.l)], [.cells 175 [.ptr 1 0, .int .u64 (v.f), .int .i64 (v.c)], .res v.M], []))
theorem s40n : Sound Try.prog th 40 (fnC d40 ofV40 f40n) := fnC_refine s40 fun v h => by
  obtain ⟨hp, _⟩ := h
  obtain ⟨a, b, c⟩ := n40 v hp
  exact ⟨a, b.symm, (qdd40 v).symm, c, by show 2 ≤ 2; decide⟩
noncomputable def nice40n : List (Nat × CF th.R) := (40, lift (fnC d40 ofV40 f40n)) :: nice37n
theorem nok40n : NiceOk Try.prog th nice40n := ⟨lift_sound s40n, nok37n⟩
end Go.Sx.M

namespace Go.Sx.M
open Go Go.Sx Go.Proofs Go.RowKit
set_option maxRecDepth 100000
structure V35 where
def A35 (v : V35) : List SV := []
def H35 (v : V35) : List (HO th.R) := []
def toV35 (v : V35) : List (Vl th.R) := []
def ofV35 : List (Vl th.R) → Option V35
  | [] => some ⟨⟩
  | _ => none
def d35 : Ft := ⟨[], []⟩
noncomputable def f35_0 (v : V35) : (Prop) := ∀ (i : Nat), scpL (0:Nat) (rowEl (1 : Nat) (8 : Nat) (setMany (List.map (fun (i : Nat) => [SV.int IntKind.u64 (0 : Int), SV.int IntKind.i64 (0 : Int), SV.int IntKind.u64 (0 : Int), SV.int IntKind.i64 (0 : Int), SV.int IntKind.i64 (0 : Int), SV.int IntKind.i64 (0 : Int), SV.int IntKind.i64 (0 : Int), SV.int IntKind.u64 (0 : Int)].getD (i % (8 : Nat)) Inhabited.default) (List.range (8 : Nat))) (0:Nat) (SV.agg (setMany (setMany [SV.int IntKind.u64 (0 : Int), SV.int IntKind.i64 (0 : Int), SV.int IntKind.u64 (0 : Int), SV.int IntKind.i64 (0 : Int), SV.int IntKind.i64 (0 : Int), SV.int IntKind.i64 (0 : Int), SV.int IntKind.i64 (0 : Int), SV.int IntKind.u64 (0 : Int)] (0:Nat) (SV.int IntKind.u64 (352 : Int)).cells) (1 : Nat) (SV.agg (setMany (setMany (setMany (setMany (setMany [SV.int IntKind.i64 (0 : Int), SV.int IntKind.u64 (0 : Int), SV.int IntKind.i64 (0 : Int), SV.int IntKind.i64 (0 : Int), SV.int IntKind.i64 (0 : Int), SV.int IntKind.i64 (0 : Int), SV.int IntKind.u64 (0 : Int)] (0:Nat) (SV.int IntKind.i64 (2 : Int)).cells) (1 : Nat) (SV.int IntKind.u64 (512 : Int)).cells) (2 : Nat) (SV.int IntKind.i64 (3 : Int)).cells) (4 : Nat) (SV.int IntKind.i64 (1 : Int)).cells) (6 : Nat) (SV.int IntKind.u64 (1 : Int)).cells)).cells)).cells) i) = true
noncomputable def f35_1 (v : V35) : (Prop) := ∀ (i : Nat), i < (1 : Nat) → rowEl (1 : Nat) (8 : Nat) (setMany (List.map (fun (i : Nat) => [SV.int IntKind.u64 (0 : Int), SV.int IntKind.i64 (0 : Int), SV.int IntKind.u64 (0 : Int), SV.int IntKind.i64 (0 : Int), SV.int IntKind.i64 (0 : Int), SV.int IntKind.i64 (0 : Int), SV.int IntKind.i64 (0 : Int), SV.int IntKind.u64 (0 : Int)].getD (i % (8 : Nat)) Inhabited.default) (List.range (8 : Nat))) (0:Nat) (SV.agg (setMany (setMany [SV.int IntKind.u64 (0 : Int), SV.int IntKind.i64 (0 : Int), SV.int IntKind.u64 (0 : Int), SV.int IntKind.i64 (0 : Int), SV.int IntKind.i64 (0 : Int), SV.int IntKind.i64 (0 : Int), SV.int IntKind.i64 (0 : Int), SV.int IntKind.u64 (0 : Int)] (0:Nat) (SV.int IntKind.u64 (352 : Int)).cells) (1 : Nat) (SV.agg (setMany (setMany (setMany (setMany (setMany [SV.int IntKind.i64 (0 : Int), SV.int IntKind.u64 (0 : Int), SV.int IntKind.i64 (0 : Int), SV.int IntKind.i64 (0 : Int), SV.int IntKind.i64 (0 : Int), SV.int IntKind.i64 (0 : Int), SV.int IntKind.u64 (0 : Int)] (0:Nat) (SV.int IntKind.i64 (2 : Int)).cells) (1 : Nat) (SV.int IntKind.u64 (512 : Int)).cells) (2 : Nat) (SV.int IntKind.i64 (3 : Int)).cells) (4 : Nat) (SV.int IntKind.i64 (1 : Int)).cells) (6 : Nat) (SV.int IntKind.u64 (1 : Int)).cells)).cells)).cells) i = elC (rowEl (1 : Nat) (8 : Nat) (setMany (List.map (fun (i : Nat) => [SV.int IntKind.u64 (0 : Int), SV.int IntKind.i64 (0 : Int), SV.int IntKind.u64 (0 : Int), SV.int IntKind.i64 (0 : Int), SV.int IntKind.i64 (0 : Int), SV.int IntKind.i64 (0 : Int), SV.int IntKind.i64 (0 : Int), SV.int IntKind.u64 (0 : Int)].getD (i % (8 : Nat)) Inhabited.default) (List.range (8 : Nat))) (0:Nat) (SV.agg (setMany (setMany [SV.int IntKind.u64 (0 : Int), SV.int IntKind.i64 (0 : Int), SV.int IntKind.u64 (0 : Int), SV.int IntKind.i64 (0 : Int), SV.int IntKind.i64 (0 : Int), SV.int IntKind.i64 (0 : Int), SV.int IntKind.i64 (0 : Int), SV.int IntKind.u64 (0 : Int)] (0:Nat) (SV.int IntKind.u64 (352 : Int)).cells) (1 : Nat) (SV.agg (setMany (setMany (setMany (setMany (setMany [SV.int IntKind.i64 (0 : Int), SV.int IntKind.u64 (0 : Int), SV.int IntKind.i64 (0 : Int), SV.int IntKind.i64 (0 : Int), SV.int IntKind.i64 (0 : Int), SV.int IntKind.i64 (0 : Int), SV.int IntKind.u64 (0 : Int)] (0:Nat) (SV.int IntKind.i64 (2 : Int)).cells) (1 : Nat) (SV.int IntKind.u64 (512 : Int)).cells) (2 : Nat) (SV.int IntKind.i64 (3 : Int)).cells) (4 : Nat) (SV.int IntKind.i64 (1 : Int)).cells) (6 : Nat) (SV.int IntKind.u64 (1 : Int)).cells)).cells)).cells)) (0:Nat) [Ck.int IntKind.u64, Ck.int IntKind.i64, Ck.int IntKind.u64, Ck.int IntKind.i64, Ck.int IntKind.i64, Ck.int IntKind.i64, Ck.int IntKind.i64, Ck.int IntKind.u64] i
noncomputable def f35_2 (v : V35) : (Prop) := pre36r (V36r.mk (1 : Nat) (1 : Nat) (fun (j : Nat) => (352 : Int)) (fun (j : Nat) => (2 : Int)) (fun (j : Nat) => (512 : Int)) (fun (j : Nat) => (3 : Int)) (fun (j : Nat) => (0 : Int)) (fun (j : Nat) => (1 : Int)) (fun (j : Nat) => (0 : Int)) fun (j : Nat) => (1 : Int))
noncomputable def f35_3 (v : V35) : (Prop) := (∀ (i : Nat), scpL (0:Nat) (rowEl (1 : Nat) (8 : Nat) (setMany (List.map (fun (i : Nat) => [SV.int IntKind.u64 (0 : Int), SV.int IntKind.i64 (0 : Int), SV.int IntKind.u64 (0 : Int), SV.int IntKind.i64 (0 : Int), SV.int IntKind.i64 (0 : Int), SV.int IntKind.i64 (0 : Int), SV.int IntKind.i64 (0 : Int), SV.int IntKind.u64 (0 : Int)].getD (i % (8 : Nat)) Inhabited.default) (List.range (8 : Nat))) (0:Nat) (SV.agg (setMany (setMany [SV.int IntKind.u64 (0 : Int), SV.int IntKind.i64 (0 : Int), SV.int IntKind.u64 (0 : Int), SV.int IntKind.i64 (0 : Int), SV.int IntKind.i64 (0 : Int), SV.int IntKind.i64 (0 : Int), SV.int IntKind.i64 (0 : Int), SV.int IntKind.u64 (0 : Int)] (0:Nat) (SV.int IntKind.u64 (352 : Int)).cells) (1 : Nat) (SV.agg (setMany (setMany (setMany (setMany (setMany [SV.int IntKind.i64 (0 : Int), SV.int IntKind.u64 (0 : Int), SV.int IntKind.i64 (0 : Int), SV.int IntKind.i64 (0 : Int), SV.int IntKind.i64 (0 : Int), SV.int IntKind.i64 (0 : Int), SV.int IntKind.u64 (0 : Int)] (0:Nat) (SV.int IntKind.i64 (2 : Int)).cells) (1 : Nat) (SV.int IntKind.u64 (512 : Int)).cells) (2 : Nat) (SV.int IntKind.i64 (3 : Int)).cells) (4 : Nat) (SV.int IntKind.i64 (1 : Int)).cells) (6 : Nat) (SV.int IntKind.u64 (1 : Int)).cells)).cells)).cells) i) = true) ∧ ∀ (i : Nat), scpL (0:Nat) ((fun (j : Nat) => ndC (gN (opS (nds (ndf (fun (j : Nat) => (352 : Int)) (fun (j : Nat) => (2 : Int)) (fun (j : Nat) => (512 : Int)) (fun (j : Nat) => (3 : Int)) (fun (j : Nat) => (0 : Int)) (fun (j : Nat) => (1 : Int)) (fun (j : Nat) => (0 : Int)) (fun (j : Nat) => (1 : Int)) fun (j : Nat) => (0 : Int)) (1 : Nat))).snd j)) i) = true
noncomputable def f35_4 (v : V35) : (Prop) := false = false → pre40 (V40.mk (2 : Int) (256 : Int) (2 : Int) (0 : Int) (62 : Int) (0 : Int) (0 : Int) (3 : Int) (64 : Int) (352 : Int) (1 : Int) (opS (nds (ndf (fun (j : Nat) => (352 : Int)) (fun (j : Nat) => (2 : Int)) (fun (j : Nat) => (512 : Int)) (fun (j : Nat) => (3 : Int)) (fun (j : Nat) => (0 : Int)) (fun (j : Nat) => (1 : Int)) (fun (j : Nat) => (0 : Int)) (fun (j : Nat) => (1 : Int)) fun (j : Nat) => (0 : Int)) (1 : Nat))).fst.M)
noncomputable def f35_5 (v : V35) : (Prop) := false = false → pre40 (V40.mk (2 : Int) (256 : Int) (2 : Int) (0 : Int) (62 : Int) (0 : Int) (0 : Int) (3 : Int) (62 : Int) (352 : Int) (1 : Int) (opS (nds (ndf (fun (j : Nat) => (352 : Int)) (fun (j : Nat) => (2 : Int)) (fun (j : Nat) => (512 : Int)) (fun (j : Nat) => (3 : Int)) (fun (j : Nat) => (0 : Int)) (fun (j : Nat) => (1 : Int)) (fun (j : Nat) => (0 : Int)) (fun (j : Nat) => (1 : Int)) fun (j : Nat) => (0 : Int)) (1 : Nat))).fst.M)
noncomputable def f35_6 (v : V35) : (Prop) := false = false → pre37 (V37a.mk (2 : Int) (256 : Int) (2 : Int) (0 : Int) (0 : Int) (0 : Int) (0 : Int) (61 : Int) (6 : Int) (352 : Int) (1 : Int) (opS (nds (ndf (fun (j : Nat) => (352 : Int)) (fun (j : Nat) => (2 : Int)) (fun (j : Nat) => (512 : Int)) (fun (j : Nat) => (3 : Int)) (fun (j : Nat) => (0 : Int)) (fun (j : Nat) => (1 : Int)) (fun (j : Nat) => (0 : Int)) (fun (j : Nat) => (1 : Int)) fun (j : Nat) => (0 : Int)) (1 : Nat))).fst.M)
theorem n_f35_0 (v : V35) : f35_0 v := by
  unfold f35_0
  first
    | (intros; rfl)
    | (intro i; rfl)
    | (intro i _; rfl)
    | (intro _ i; rfl)
    | (intro _ i _; rfl)
    | (refine ⟨?_, ?_⟩ <;> intro i <;> rfl)
    | (refine ⟨?_, ?_, ?_⟩ <;> intro i <;> rfl)
    | (refine ⟨?_, ?_⟩ <;> intro i _ <;> rfl)
    | (repeat' apply And.intro) <;> first | (intro i; rfl) | (intro i _; rfl) | (intro i h; exact absurd h (Nat.not_lt_zero i)) | (intro i; exact scpL_rowSet (by rfl) (by rfl)) | (intro i; exact scpL_rowEl (by kernel_rfl) _)
    | (intros; (repeat' apply And.intro) <;> intros <;> first | rfl | (exact absurd (by assumption) (Nat.not_lt_zero _)))
    | omega
    | decide
theorem n_f35_1 (v : V35) : f35_1 v := by
  unfold f35_1
  first
    | (intros; rfl)
    | (intro i; rfl)
    | (intro i _; rfl)
    | (intro _ i; rfl)
    | (intro _ i _; rfl)
    | (refine ⟨?_, ?_⟩ <;> intro i <;> rfl)
    | (refine ⟨?_, ?_, ?_⟩ <;> intro i <;> rfl)
    | (refine ⟨?_, ?_⟩ <;> intro i _ <;> rfl)
    | (repeat' apply And.intro) <;> first | (intro i; rfl) | (intro i _; rfl) | (intro i h; exact absurd h (Nat.not_lt_zero i)) | (intro i; exact scpL_rowSet (by rfl) (by rfl)) | (intro i; exact scpL_rowEl (by kernel_rfl) _)
    | (intros; (repeat' apply And.intro) <;> intros <;> first | rfl | (exact absurd (by assumption) (Nat.not_lt_zero _)))
    | omega
    | decide
theorem n_f35_3 (v : V35) : f35_3 v := by
  unfold f35_3
  first
    | (intros; rfl)
    | (intro i; rfl)
    | (intro i _; rfl)
    | (intro _ i; rfl)
    | (intro _ i _; rfl)
    | (refine ⟨?_, ?_⟩ <;> intro i <;> rfl)
    | (refine ⟨?_, ?_, ?_⟩ <;> intro i <;> rfl)
    | (refine ⟨?_, ?_⟩ <;> intro i _ <;> rfl)
    | (repeat' apply And.intro) <;> first | (intro i; rfl) | (intro i _; rfl) | (intro i h; exact absurd h (Nat.not_lt_zero i)) | (intro i; exact scpL_rowSet (by rfl) (by rfl)) | (intro i; exact scpL_rowEl (by kernel_rfl) _)
    | (intros; (repeat' apply And.intro) <;> intros <;> first | rfl | (exact absurd (by assumption) (Nat.not_lt_zero _)))
    | omega
    | decide
noncomputable def ff35 (v : V35) : Tr (Fin th.R) := (Tr.need (f35_0 v) (Tr.need (f35_1 v) (Tr.need (f35_2 v) (Tr.need (f35_3 v) (Tr.need (f35_4 v) (Tr.need (f35_5 v) (Tr.need (f35_6 v) (Tr.leaf (Prod.mk (SV.bool (true)) (Prod.mk [] []))))))))))
noncomputable def f35 (v : V35) : Tr (Fin th.R) := (Tr.need (f35_2 v) (Tr.need (f35_4 v) (Tr.need (f35_5 v) (Tr.need (f35_6 v) (Tr.leaf (Prod.mk (SV.bool (true)) (Prod.mk [] ([]))))))))
noncomputable def C35 : CF th.R := fnC d35 ofV35 (f35 )
theorem q35 (v : V35) : (evFn th Try.prog (auto th Try.prog nice40n [] 20) (autoH [] [] [] [] : Hints th) 35) (A35 v) (H35 v) = some (ff35 v) := by kernel_rfl
theorem qg35 (v : V35) : ((ff35 v).map (setD [])).get = (f35 v).get := by kernel_rfl
theorem qd35 (v : V35) : allD 0 [] (ff35 v) = true := by kernel_rfl
theorem s35 : Sound Try.prog th 35 (C35 ) := fnC_sound (evFn_sound' (T := th) (P := Try.prog) (tbl := (auto th Try.prog nice40n [] 20)) (auto_sound (nice := nice40n) (us := []) nok40n 20) (H := (autoH [] [] [] [] : Hints th)) (k := 35) (fnLoops (LoopsOk_mem (fun _ => rfl) _ fun _ _ _ e => by cases e))) d35 A35 H35 toV35 (by kernel_rfl) (fun v => by kernel_rfl)
  (fun l v h => by
    unfold ofV35 at h
    split at h
    · cases h; rfl
    · cases h)
  [] (fun v => ⟨ff35 v, q35 v, fun h => by
    unfold f35 at h; unfold ff35
    simp only [Tr.ok, n_f35_0, n_f35_1, n_f35_3, true_and, and_true, forall_const, implies_true] at h ⊢
    try exact h, qg35 v, qd35 v⟩)
theorem qdd35 (v : V35) : (f35 v).get.2.2 = [] := by
  rw [← qg35, Tr.map_get]; rfl
end Go.Sx.M

namespace Go.Sx.M
open Go Go.Sx Go.Proofs Go.RowKit
set_option maxRecDepth 100000
def pre35 (v : V35) : Prop := True
theorem n35 (v : V35) (h : pre35 v) : (f35 v).ok ∧ (f35 v).get.1 = .bool true ∧ HOws (f35 v).get.2.1 [] := by
  have h0 : ∀ j, j < 1 → U64 352 ∧ SlR (slN (ndf (fun _ => 352) (fun _ => 2) (fun _ => 512) (fun _ => 3) (fun _ => 0) (fun _ => 1) (fun _ => 0) (fun _ => 1) (fun _ => 0) j)) := by
    intro j hj
    obtain rfl : j = 0 := by omega
    (repeat' first | intro _ | apply And.intro | apply SlR.mk) <;> first | trivial | decide
  have g0 := (opS_R (ndf (fun _ => 352) (fun _ => 2) (fun _ => 512) (fun _ => 3) (fun _ => 0) (fun _ => 1) (fun _ => 0) (fun _ => 1) (fun _ => 0)) 1 h0).1
  have c1 : SlR ⟨2, 256, 2, 0, 62, 0, 0, 0, 0, 0⟩ := by (repeat' first | apply SlR.mk | apply And.intro) <;> decide
  have c2 : SlR ⟨2, 256, 2, 0, 0, 0, 0, 0, 0, 0⟩ := by (repeat' first | apply SlR.mk | apply And.intro) <;> decide
  exact ⟨⟨⟨⟨rfl, by decide⟩, h0⟩, fun _ => ⟨c1, g0⟩, fun _ => ⟨c1, g0⟩, fun _ => ⟨c2, g0⟩, trivial⟩, rfl, .refl _⟩
noncomputable def f35n (v : V35) : Tr (Fin th.R) := .need (pre35 v) (.leaf (.bool true, [], []))
theorem s35n : Sound Try.prog th 35 (fnC d35 ofV35 f35n) := fnC_refine s35 fun v h => by
  obtain ⟨hp, _⟩ := h
  obtain ⟨a, b, c⟩ := n35 v hp
  exact ⟨a, b.symm, (qdd35 v).symm, c, by show 0 ≤ 0; decide⟩
noncomputable def nice35n : List (Nat × CF th.R) := (35, lift (fnC d35 ofV35 f35n)) :: nice40n
theorem nok35n : NiceOk Try.prog th nice35n := ⟨lift_sound s35n, nok40n⟩
end Go.Sx.M

namespace Go.Sx.M
open Go Go.Sx Go.Proofs Go.RowKit
set_option maxRecDepth 100000
structure V5 where
  L : Nat
  k : Int
  a : Int
  b : Int
  r : Int
  g : Int
  s : Int
  m : Int
  x : Int
  y : Int
  n : Int
  Q : Nat
  ob : Obj
  pt : Nat → Int
  pk : Nat → Int
  pa : Nat → Int
  pb : Nat → Int
  pr : Nat → Int
  pg : Nat → Int
  ps : Nat → Int
  pm : Nat → Int
def A5 (v : V5) : List SV := [.slc 0 8 0 v.L, .agg [.int .i64 v.k, .int .u64 v.a, .int .i64 v.b, .int .i64 v.r, .int .i64 v.g, .int .i64 v.s, .int .u64 v.m], .int .u64 v.x, .int .u64 v.y, .int .i64 v.n]
def H5 (v : V5) : List (HO th.R) := [.ro 117 8 v.Q (fun j => [.int .u64 (v.pt j), .int .i64 (v.pk j), .int .u64 (v.pa j), .int .i64 (v.pb j), .int .i64 (v.pr j), .int .i64 (v.pg j), .int .i64 (v.ps j), .int .u64 (v.pm j)]) v.ob]
def toV5 (v : V5) : List (Vl th.R) := [.n v.L, .i v.k, .i v.a, .i v.b, .i v.r, .i v.g, .i v.s, .i v.m, .i v.x, .i v.y, .i v.n, .n v.Q, .o v.ob, .c v.pt, .c v.pk, .c v.pa, .c v.pb, .c v.pr, .c v.pg, .c v.ps, .c v.pm]
def ofV5 : List (Vl th.R) → Option V5
  | [.n L, .i k, .i a, .i b, .i r, .i g, .i s, .i m, .i x, .i y, .i n, .n Q, .o ob, .c pt, .c pk, .c pa, .c pb, .c pr, .c pg, .c ps, .c pm] => some ⟨L, k, a, b, r, g, s, m, x, y, n, Q, ob, pt, pk, pa, pb, pr, pg, ps, pm⟩
  | _ => none
def d5 : Ft := ⟨[.slc0 0 8, .agg [.int .i64, .int .u64, .int .i64, .int .i64, .int .i64, .int .i64, .int .u64], .int .u64, .int .u64, .int .i64], [.roc 117 [.int .u64, .int .i64, .int .u64, .int .i64, .int .i64, .int .i64, .int .i64, .int .u64]]⟩
noncomputable def f5_9 (v : V5) : (Bool) := cnd (cnd (decide ((↑v.L : Int) > (40 : Int))) true (decide (v.n < (1 : Int)))) true (decide (v.n > (63 : Int)))
noncomputable def f5_10 (v : V5) : (Int) := (2 : Int) ^ Min.min v.n.toNat (64 : Nat)
noncomputable def f5_11 (v : V5) : (Int) := IntKind.u64.wrap ((1 : Int) * f5_10 v)
noncomputable def f5_12 (v : V5) : (TS) := (opS (nds (ndf v.pt v.pk v.pa v.pb v.pr v.pg v.ps v.pm fun (u : Nat) => (0 : Int)) v.L)).fst
noncomputable def f5_13 (v : V5) : (Int) := (f5_12 v).f
noncomputable def f5_14 (v : V5) : (Int) := (f5_12 v).c
noncomputable def f5_15 (v : V5) : (Mem) := (f5_12 v).M
noncomputable def f5_16 (v : V5) : (V37a) := V37a.mk v.k v.a v.b v.r v.g v.s v.m v.x v.n (f5_13 v) (f5_14 v) (f5_15 v)
noncomputable def f5_17 (v : V5) : (Int) := Go.bits Go.BinOp.or IntKind.u64 (v.x.tmod (f5_11 v)) (IntKind.u64.wrap (v.y.fdiv (f5_10 v) * f5_10 v))
noncomputable def f5_18 (v : V5) : (V37a) := V37a.mk v.k v.a v.b v.r v.g v.s v.m (f5_17 v) v.n (f5_13 v) (f5_14 v) (f5_15 v)
noncomputable def f5_19 (v : V5) : (Sl) := cp37 (f5_16 v)
noncomputable def f5_20 (v : V5) : (Sl) := cp37 (f5_18 v)
noncomputable def f5_0 (v : V5) : (Prop) := pre35 V35.mk
noncomputable def f5_1 (v : V5) : (Prop) := false = false → f5_9 v = false → ∀ (i : Nat), scpL (0:Nat) ((fun (j : Nat) => [SV.int IntKind.u64 (v.pt j), SV.int IntKind.i64 (v.pk j), SV.int IntKind.u64 (v.pa j), SV.int IntKind.i64 (v.pb j), SV.int IntKind.i64 (v.pr j), SV.int IntKind.i64 (v.pg j), SV.int IntKind.i64 (v.ps j), SV.int IntKind.u64 (v.pm j)]) i) = true
noncomputable def f5_2 (v : V5) : (Prop) := false = false → f5_9 v = false → ∀ (i : Nat), i < v.Q → (fun (j : Nat) => [SV.int IntKind.u64 (v.pt j), SV.int IntKind.i64 (v.pk j), SV.int IntKind.u64 (v.pa j), SV.int IntKind.i64 (v.pb j), SV.int IntKind.i64 (v.pr j), SV.int IntKind.i64 (v.pg j), SV.int IntKind.i64 (v.ps j), SV.int IntKind.u64 (v.pm j)]) i = elC (fun (j : Nat) => [SV.int IntKind.u64 (v.pt j), SV.int IntKind.i64 (v.pk j), SV.int IntKind.u64 (v.pa j), SV.int IntKind.i64 (v.pb j), SV.int IntKind.i64 (v.pr j), SV.int IntKind.i64 (v.pg j), SV.int IntKind.i64 (v.ps j), SV.int IntKind.u64 (v.pm j)]) (0:Nat) [Ck.int IntKind.u64, Ck.int IntKind.i64, Ck.int IntKind.u64, Ck.int IntKind.i64, Ck.int IntKind.i64, Ck.int IntKind.i64, Ck.int IntKind.i64, Ck.int IntKind.u64] i
noncomputable def f5_3 (v : V5) : (Prop) := false = false → f5_9 v = false → pre36 (V36.mk v.L v.Q v.ob v.pt v.pk v.pa v.pb v.pr v.pg v.ps v.pm)
noncomputable def f5_4 (v : V5) : (Prop) := false = false → f5_9 v = false → (∀ (i : Nat), scpL (0:Nat) ((fun (j : Nat) => [SV.int IntKind.u64 (v.pt j), SV.int IntKind.i64 (v.pk j), SV.int IntKind.u64 (v.pa j), SV.int IntKind.i64 (v.pb j), SV.int IntKind.i64 (v.pr j), SV.int IntKind.i64 (v.pg j), SV.int IntKind.i64 (v.ps j), SV.int IntKind.u64 (v.pm j)]) i) = true) ∧ ∀ (i : Nat), scpL (0:Nat) ((fun (j : Nat) => ndC (gN (opS (nds (ndf v.pt v.pk v.pa v.pb v.pr v.pg v.ps v.pm fun (u : Nat) => (0 : Int)) v.L)).snd j)) i) = true
noncomputable def f5_5 (v : V5) : (Prop) := false = false → f5_9 v = false → false = false → (true = true → (0 : Int) ≤ v.n) ∧ (true = true → f5_11 v ≠ (0 : Int)) ∧ (true = true → (0 : Int) ≤ v.n) ∧ (true = true → (0 : Int) ≤ v.n)
noncomputable def f5_6 (v : V5) : (Prop) := false = false → f5_9 v = false → false = false → pre37 (f5_16 v)
noncomputable def f5_7 (v : V5) : (Prop) := false = false → f5_9 v = false → false = false → pre37 (f5_18 v)
noncomputable def f5_8 (v : V5) : (Bool) := cnd (f5_9 v) true (cnd (cnd (wkA (f5_15 v) (f5_19 v) v.x v.n == wkA (f5_15 v) (f5_20 v) (f5_17 v) v.n) (wkB (f5_15 v) (f5_19 v) v.x v.n == wkB (f5_15 v) (f5_20 v) (f5_17 v) v.n) false) (wkE (f5_15 v) (f5_19 v) v.x v.n == wkE (f5_15 v) (f5_20 v) (f5_17 v) v.n) false)
theorem n_f5_1 (v : V5) : f5_1 v := by
  unfold f5_1
  first
    | (intros; rfl)
    | (intro i; rfl)
    | (intro i _; rfl)
    | (intro _ i; rfl)
    | (intro _ i _; rfl)
    | (refine ⟨?_, ?_⟩ <;> intro i <;> rfl)
    | (refine ⟨?_, ?_, ?_⟩ <;> intro i <;> rfl)
    | (refine ⟨?_, ?_⟩ <;> intro i _ <;> rfl)
    | (repeat' apply And.intro) <;> first | (intro i; rfl) | (intro i _; rfl) | (intro i h; exact absurd h (Nat.not_lt_zero i)) | (intro i; exact scpL_rowSet (by rfl) (by rfl)) | (intro i; exact scpL_rowEl (by kernel_rfl) _)
    | (intros; (repeat' apply And.intro) <;> intros <;> first | rfl | (exact absurd (by assumption) (Nat.not_lt_zero _)))
    | omega
    | decide
theorem n_f5_2 (v : V5) : f5_2 v := by
  unfold f5_2
  first
    | (intros; rfl)
    | (intro i; rfl)
    | (intro i _; rfl)
    | (intro _ i; rfl)
    | (intro _ i _; rfl)
    | (refine ⟨?_, ?_⟩ <;> intro i <;> rfl)
    | (refine ⟨?_, ?_, ?_⟩ <;> intro i <;> rfl)
    | (refine ⟨?_, ?_⟩ <;> intro i _ <;> rfl)
    | (repeat' apply And.intro) <;> first | (intro i; rfl) | (intro i _; rfl) | (intro i h; exact absurd h (Nat.not_lt_zero i)) | (intro i; exact scpL_rowSet (by rfl) (by rfl)) | (intro i; exact scpL_rowEl (by kernel_rfl) _)
    | (intros; (repeat' apply And.intro) <;> intros <;> first | rfl | (exact absurd (by assumption) (Nat.not_lt_zero _)))
    | omega
    | decide
theorem n_f5_4 (v : V5) : f5_4 v := by
  unfold f5_4
  first
    | (intros; rfl)
    | (intro i; rfl)
    | (intro i _; rfl)
    | (intro _ i; rfl)
    | (intro _ i _; rfl)
    | (refine ⟨?_, ?_⟩ <;> intro i <;> rfl)
    | (refine ⟨?_, ?_, ?_⟩ <;> intro i <;> rfl)
    | (refine ⟨?_, ?_⟩ <;> intro i _ <;> rfl)
    | (repeat' apply And.intro) <;> first | (intro i; rfl) | (intro i _; rfl) | (intro i h; exact absurd h (Nat.not_lt_zero i)) | (intro i; exact scpL_rowSet (by rfl) (by rfl)) | (intro i; exact scpL_rowEl (by kernel_rfl) _)
    | (intros; (repeat' apply And.intro) <;> intros <;> first | rfl | (exact absurd (by assumption) (Nat.not_lt_zero _)))
    | omega
    | decide
noncomputable def ff5 (v : V5) : Tr (Fin th.R) := (Tr.need (f5_0 v) (Tr.need (f5_1 v) (Tr.need (f5_2 v) (Tr.need (f5_3 v) (Tr.need (f5_4 v) (Tr.need (f5_5 v) (Tr.need (f5_6 v) (Tr.need (f5_7 v) (Tr.leaf (Prod.mk (SV.bool (f5_8 v)) (Prod.mk (List.cons (HO.ro ((117 : Nat)) ((8 : Nat)) (v.Q) (fun j => (List.cons (SV.int (IntKind.u64) (v.pt j)) (List.cons (SV.int (IntKind.i64) (v.pk j)) (List.cons (SV.int (IntKind.u64) (v.pa j)) (List.cons (SV.int (IntKind.i64) (v.pb j)) (List.cons (SV.int (IntKind.i64) (v.pr j)) (List.cons (SV.int (IntKind.i64) (v.pg j)) (List.cons (SV.int (IntKind.i64) (v.ps j)) (List.cons (SV.int (IntKind.u64) (v.pm j)) []))))))))) (v.ob)) []) [])))))))))))
noncomputable def f5 (v : V5) : Tr (Fin th.R) := (Tr.need (f5_0 v) (Tr.need (f5_3 v) (Tr.need (f5_5 v) (Tr.need (f5_6 v) (Tr.need (f5_7 v) (Tr.leaf (Prod.mk (SV.bool (f5_8 v)) (Prod.mk (List.cons (HO.ro ((117 : Nat)) ((8 : Nat)) (v.Q) (fun j => (List.cons (SV.int (IntKind.u64) (v.pt j)) (List.cons (SV.int (IntKind.i64) (v.pk j)) (List.cons (SV.int (IntKind.u64) (v.pa j)) (List.cons (SV.int (IntKind.i64) (v.pb j)) (List.cons (SV.int (IntKind.i64) (v.pr j)) (List.cons (SV.int (IntKind.i64) (v.pg j)) (List.cons (SV.int (IntKind.i64) (v.ps j)) (List.cons (SV.int (IntKind.u64) (v.pm j)) []))))))))) (v.ob)) []) ([])))))))))
noncomputable def C5 : CF th.R := fnC d5 ofV5 (f5 )
theorem q5 (v : V5) : (evFn th Try.prog (auto th Try.prog nice35n [] 20) (autoH [] [] [] [] : Hints th) 5) (A5 v) (H5 v) = some (ff5 v) := by kernel_rfl
theorem qg5 (v : V5) : ((ff5 v).map (setD [])).get = (f5 v).get := by kernel_rfl
theorem qd5 (v : V5) : allD 1 [] (ff5 v) = true := by kernel_rfl
theorem s5 : Sound Try.prog th 5 (C5 ) := fnC_sound (evFn_sound' (T := th) (P := Try.prog) (tbl := (auto th Try.prog nice35n [] 20)) (auto_sound (nice := nice35n) (us := []) nok35n 20) (H := (autoH [] [] [] [] : Hints th)) (k := 5) (fnLoops (LoopsOk_mem (fun _ => rfl) _ fun _ _ _ e => by cases e))) d5 A5 H5 toV5 (by kernel_rfl) (fun v => by kernel_rfl)
  (fun l v h => by
    unfold ofV5 at h
    split at h
    · cases h; rfl
    · cases h)
  [] (fun v => ⟨ff5 v, q5 v, fun h => by
    unfold f5 at h; unfold ff5
    simp only [Tr.ok, n_f5_1, n_f5_2, n_f5_4, true_and, and_true, forall_const, implies_true] at h ⊢
    try exact h, qg5 v, qd5 v⟩)
theorem qdd5 (v : V5) : (f5 v).get.2.2 = [] := by
  rw [← qg5, Tr.map_get]; rfl
end Go.Sx.M

namespace Go.Sx.M
open Go Go.Sx Go.Proofs Go.RowKit
theorem low_bits {w w' l n N : Nat} (h : w % 2 ^ N = w' % 2 ^ N) (hl : l + n ≤ N) : w / 2 ^ l % 2 ^ n = w' / 2 ^ l % 2 ^ n := by
  have key : ∀ u : Nat, u / 2 ^ l % 2 ^ n = (u % 2 ^ N) % (2 ^ l * 2 ^ n) / 2 ^ l := by
    intro u
    rw [Nat.mod_mod_of_dvd _ (by rw [← Nat.pow_add]; exact Nat.pow_dvd_pow 2 hl), Nat.mod_mul_right_div_self]
  rw [key w, key w', h]
theorem pT_low {w w' : Nat} {l n : Int} {N : Nat} (hw : w < 18446744073709551616) (hw' : w' < 18446744073709551616) (h : w % 2 ^ N = w' % 2 ^ N) (h0 : 0 ≤ l) (h1 : 0 ≤ n) (h2 : (l + n).toNat ≤ N) (h3 : N ≤ 63) : pT w l n = pT w' l n := by
  unfold pT
  by_cases hn : n = 0
  · subst hn; rfl
  · rw [beq_eq_false_iff_ne.2 hn]
    show f102_1 l n w = f102_1 l n w'
    cases hf : f165_0 l n with
    | true =>
      rw [field_get hw hf h0 (by omega) (by omega) (by omega), field_get hw' hf h0 (by omega) (by omega) (by omega)]
      rw [low_bits h (by omega)]
    | false =>
      simp only [f102_1, hf]
      rfl
/-- A walk sees a number's lowest bits alone. -/
theorem wkM_low {cf : Int → Sl} {w w' N : Nat} (hc : ∀ a, SlR (cf a)) (hw : w < 18446744073709551616) (hw' : w' < 18446744073709551616) (h : w % 2 ^ N = w' % 2 ^ N) (hN : N ≤ 63) :
    ∀ {n : Nat} {l c na nb ng nm : Int}, pnOk l nb ng → l.toNat ≤ N → wkM cf w n l c na nb ng nm = wkM cf w' n l c na nb ng nm
  | 0, _, _, _, _, _, _, _, _ => rfl
  | n + 1, l, c, na, nb, ng, nm, hp, hl => by
    have hp0 := hp
    obtain ⟨⟨l0, l1⟩, ⟨b0, b1⟩, ⟨g0, g1⟩⟩ := hp
    have eF : pF w l nb ng nm = pF w' l nb ng nm := by
      unfold pF
      cases hG : pG l nb ng with
      | true => rfl
      | false =>
        unfold pG at hG
        rw [wi (by omega) (by omega)] at hG
        have := of_decide_eq_false hG
        rw [wi (x := l - ng) (by omega) (by omega)]
        rw [pT_low hw hw' h (by omega) g0 (by omega) hN]
    have eL : pL w l nb ng nm = pL w' l nb ng nm := by unfold pL; rw [eF]
    have eS : pS w l na nb ng nm = pS w' l na nb ng nm := by
      unfold pS
      rw [← eF]
      cases hF : pF w l nb ng nm with
      | true => rfl
      | false =>
        obtain ⟨q1, q2, q3⟩ := pL_less hp0 hF
        have e1 : IntKind.i64.wrap (pL1 l nb ng - nb) = l - ng - nb := by
          have : pL w l nb ng nm = IntKind.i64.wrap (pL1 l nb ng - nb) := by unfold pL; rw [hF]; rfl
          rw [← this, q1]
        rw [e1, pT_low hw hw' h (by omega) (by omega) (by omega) hN]
    simp only [wkM]
    rw [← eF, ← eL, ← eS]
    split
    · rfl
    · rename_i hs
      split
      · rfl
      · rename_i ho
        have hf : pF w l nb ng nm = false := by
          cases hh : pF w l nb ng nm with
          | false => rfl
          | true => rw [hh] at hs; cases hs
        obtain ⟨_, q0, q1⟩ := pL_less hp0 hf
        have ho : pOk (cf (pS w l na nb ng nm)) = true := by simpa using ho
        obtain ⟨_, _, _, e2, e3, _, e5, e6⟩ := pOk_spec (hc _) ho
        refine wkM_low hc hw hw' h hN ?_ (by omega)
        rw [e2, e3]
        exact ⟨⟨q0, by omega⟩, e5, e6⟩
end Go.Sx.M

namespace Go.Sx.M
open Go Go.Sx Go.Proofs Go.RowKit
theorem wk_low {M : Mem} (hM : MemR M) {z : Sl} (hz : SlR z) {w w' : Nat} {l : Int} (hw : w < 18446744073709551616) (hw' : w' < 18446744073709551616) (h : w % 2 ^ l.toNat = w' % 2 ^ l.toNat) (hl : l ≤ 63) :
    wkA M z w l = wkA M z w' l ∧ wkB M z w l = wkB M z w' l ∧ wkE M z w l = wkE M z w' l := by
  unfold wkA wkB wkE
  by_cases hb : bgE z l = 0
  · obtain ⟨_, k2, k3, k4⟩ := bgE_ok hb
    obtain ⟨_, _, _, e2, e3, _, e5, e6⟩ := pOk_spec hz k2
    have e : wkW M z w l = wkW M z w' l := by
      unfold wkW
      refine wkM_low (N := l.toNat) (fun a => capS_R (ld_SlR hM a)) hw hw' h (by omega) ?_ (Nat.le_refl _)
      rw [e2, e3]
      exact ⟨⟨by omega, k4⟩, e5, e6⟩
    rw [e]
    exact ⟨rfl, rfl, rfl⟩
  · have : (bgE z l != 0) = true := bne_iff_ne.2 hb
    rw [this]
    exact ⟨rfl, rfl, rfl⟩
theorem pow_n {n : Int} (h0 : 1 ≤ n) (h1 : n ≤ 63) : (2 : Int) ^ Min.min n.toNat (64 : Nat) = ((2 ^ n.toNat : Nat) : Int) ∧ 0 < 2 ^ n.toNat ∧ 2 ^ n.toNat ≤ 9223372036854775808 := by
  have e : Min.min n.toNat 64 = n.toNat := by omega
  have h63 : (2 : Nat) ^ 63 = 9223372036854775808 := by decide
  refine ⟨by rw [e]; simp, Nat.pow_pos (by omega), ?_⟩
  rw [← h63]
  exact Nat.pow_le_pow_right (by omega) (by omega)
theorem higher_eq {x y : Nat} {n : Int} (hx : x < 18446744073709551616) (hy : y < 18446744073709551616) (h0 : 1 ≤ n) (h1 : n ≤ 63) :
    ∃ u : Nat, Go.bits Go.BinOp.or IntKind.u64 ((x : Int).tmod (IntKind.u64.wrap ((1 : Int) * (2 : Int) ^ Min.min n.toNat (64 : Nat)))) (IntKind.u64.wrap ((y : Int).fdiv ((2 : Int) ^ Min.min n.toNat (64 : Nat)) * (2 : Int) ^ Min.min n.toNat (64 : Nat))) = u ∧ u < 18446744073709551616 ∧ x % 2 ^ n.toNat = u % 2 ^ n.toNat := by
  obtain ⟨e1, e2, e3⟩ := pow_n h0 h1
  rw [e1]
  generalize hP : 2 ^ n.toNat = P at *
  have hle : y / P * P ≤ y := Nat.div_mul_le_self y P
  have hm : x % P < P := Nat.mod_lt _ e2
  have w1 : IntKind.u64.wrap ((1 : Int) * (P : Nat)) = (P : Nat) := by rw [Int.one_mul]; exact wrap_u64_id (by omega) (by omega)
  have d1 : ((y : Int)).fdiv ((P : Nat) : Int) = ((y / P : Nat) : Int) := by rw [Int.fdiv_eq_ediv_of_nonneg _ (by omega)]; simp
  have w2 : IntKind.u64.wrap (((y / P : Nat) : Int) * ((P : Nat) : Int)) = ((y / P * P : Nat) : Int) := by
    have : (((y / P : Nat) : Int) * ((P : Nat) : Int)) = ((y / P * P : Nat) : Int) := by simp
    rw [this]
    exact wrap_u64_id (by omega) (by omega)
  have m1 : ((x : Int)).tmod ((P : Nat) : Int) = ((x % P : Nat) : Int) := by rw [Int.tmod_eq_emod_of_nonneg (by omega)]; simp
  rw [w1, d1, w2, m1, u64_or_nat _ _ (by omega) (by omega)]
  have h64 : (2 : Nat) ^ 64 = 18446744073709551616 := by decide
  refine ⟨_, rfl, ?_, ?_⟩
  · rw [← h64]
    exact Nat.or_lt_two_pow (by rw [h64]; omega) (by rw [h64]; omega)
  · rw [← hP, Nat.or_mod_two_pow, hP, Nat.mul_mod_left, Nat.or_zero, Nat.mod_mod]
theorem law5_true (v : V5) (hQ : v.Q = v.L) (hp : ∀ j, j < v.L → U64 (v.pt j) ∧ SlR (slN (ndf v.pt v.pk v.pa v.pb v.pr v.pg v.ps v.pm (fun _ => 0) j))) (hc : SlR ⟨v.k, v.a, v.b, v.r, v.g, v.s, v.m, 0, 0, 0⟩) (hx : U64 v.x) (hy : U64 v.y) :
    (f5 v).ok ∧ f5_8 v = true := by
  have hd : f5_9 v = false → (v.L : Int) ≤ 40 ∧ 1 ≤ v.n ∧ v.n ≤ 63 := by
    intro h
    unfold f5_9 at h
    simp only [cnd_or, Bool.or_eq_false_iff, decide_eq_false_iff_not] at h
    omega
  have hM : MemR (f5_15 v) := (opS_R _ _ hp).1
  have hU : ∀ (k : V37a), cp37 k = ⟨v.k, v.a, v.b, v.r, v.g, v.s, v.m, 0, 0, 0⟩ → SlR (cp37 k) := fun k e => by rw [e]; exact hc
  refine ⟨⟨trivial, fun _ h => ?_, fun _ h _ => ?_, fun _ _ _ => ⟨hc, hM⟩, fun _ _ _ => ⟨hc, hM⟩, trivial⟩, ?_⟩
  · obtain ⟨q1, _, _⟩ := hd h
    exact ⟨⟨hQ, by show v.L ≤ 1000; omega⟩, hp⟩
  · obtain ⟨_, q2, q3⟩ := hd h
    obtain ⟨e1, e2, e3⟩ := pow_n q2 q3
    refine ⟨fun _ => by omega, fun _ => ?_, fun _ => by omega, fun _ => by omega⟩
    unfold f5_11 f5_10
    rw [e1, Int.one_mul, wrap_u64_id (by omega) (by omega)]
    omega
  · unfold f5_8
    cases h9 : f5_9 v with
    | true => rfl
    | false =>
      obtain ⟨_, q2, q3⟩ := hd h9
      have hx0 := hx.1
      have hx1 := hx.2
      have hy0 := hy.1
      have hy1 := hy.2
      obtain ⟨X, hX⟩ : ∃ X : Nat, v.x = X := ⟨v.x.toNat, by omega⟩
      obtain ⟨Y, hY⟩ : ∃ Y : Nat, v.y = Y := ⟨v.y.toNat, by omega⟩
      obtain ⟨u, u1, u2, u3⟩ := higher_eq (x := X) (y := Y) (n := v.n) (by omega) (by omega) q2 q3
      have e17 : f5_17 v = u := by
        unfold f5_17 f5_11 f5_10
        rw [hX, hY]
        exact u1
      obtain ⟨a1, a2, a3⟩ := wk_low hM (z := f5_19 v) hc (w := X) (w' := u) (l := v.n) (by omega) u2 u3 q3
      have e20 : f5_20 v = f5_19 v := rfl
      rw [e20, e17, hX, a1, a2, a3]
      simp [cnd]
end Go.Sx.M

namespace Go.Sx.M
open Go Go.Sx Go.Proofs Go.RowKit
set_option maxRecDepth 100000
def pre5 (v : V5) : Prop := v.Q = v.L ∧ (∀ j, j < v.L → U64 (v.pt j) ∧ SlR (slN (ndf v.pt v.pk v.pa v.pb v.pr v.pg v.ps v.pm (fun _ => 0) j))) ∧ SlR ⟨v.k, v.a, v.b, v.r, v.g, v.s, v.m, 0, 0, 0⟩ ∧ U64 v.x ∧ U64 v.y
theorem n5 (v : V5) (h : pre5 v) : (f5 v).ok ∧ (f5 v).get.1 = .bool true ∧ HOws (f5 v).get.2.1 [HO.ro 117 8 v.Q (fun j => [.int .u64 (v.pt j), .int .i64 (v.pk j), .int .u64 (v.pa j), .int .i64 (v.pb j), .int .i64 (v.pr j), .int .i64 (v.pg j), .int .i64 (v.ps j), .int .u64 (v.pm j)]) v.ob] := by
  obtain ⟨h1, h2, h3, h4, h5⟩ := h
  obtain ⟨k1, k2⟩ := law5_true v h1 h2 h3 h4 h5
  exact ⟨k1, congrArg SV.bool k2, .refl _⟩
noncomputable def f5n (v : V5) : Tr (Fin th.R) := .need (pre5 v) (.leaf (.bool true, [.ro 117 8 v.Q (fun j => [.int .u64 (v.pt j), .int .i64 (v.pk j), .int .u64 (v.pa j), .int .i64 (v.pb j), .int .i64 (v.pr j), .int .i64 (v.pg j), .int .i64 (v.ps j), .int .u64 (v.pm j)]) v.ob], []))
theorem s5n : Sound Try.prog th 5 (fnC d5 ofV5 f5n) := fnC_refine s5 fun v h => by
  obtain ⟨hp, _⟩ := h
  obtain ⟨a, b, c⟩ := n5 v hp
  exact ⟨a, b.symm, (qdd5 v).symm, c, by show 1 ≤ 1; decide⟩
theorem claw5 (v : V5) : fnC d5 ofV5 f5n (A5 v) (H5 v) = some (.need (∀ i, i < v.Q → (fun j => [.int .u64 (v.pt j), .int .i64 (v.pk j), .int .u64 (v.pa j), .int .i64 (v.pb j), .int .i64 (v.pr j), .int .i64 (v.pg j), .int .i64 (v.ps j), .int .u64 (v.pm j)] : Nat → List SV) i = elC (fun j => [.int .u64 (v.pt j), .int .i64 (v.pk j), .int .u64 (v.pa j), .int .i64 (v.pb j), .int .i64 (v.pr j), .int .i64 (v.pg j), .int .i64 (v.ps j), .int .u64 (v.pm j)] : Nat → List SV) 0 [.int .u64, .int .i64, .int .u64, .int .i64, .int .i64, .int .i64, .int .i64, .int .u64] i) ((f5n v).map (fixF (H5 v)))) := by kernel_rfl
noncomputable def nice5n : List (Nat × CF th.R) := (5, lift (fnC d5 ofV5 f5n)) :: nice35n
theorem nok5n : NiceOk Try.prog th nice5n := ⟨lift_sound s5n, nok35n⟩
end Go.Sx.M

