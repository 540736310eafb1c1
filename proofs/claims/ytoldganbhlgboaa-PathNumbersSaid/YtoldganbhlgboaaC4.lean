/- Contracts of the functions of this seat, each by the executor and the kernel; part 4. Their conditions stand in each. -/
import Derived.Test.YtoldganbhlgboaaC3
set_option linter.unusedVariables false
set_option linter.unusedSimpArgs false
namespace Go.Sx.M
open Go Go.Sx Go.Proofs Go.RowKit
set_option maxRecDepth 100000
structure V37a where
  k : Int
  a : Int
  b : Int
  r : Int
  g : Int
  s : Int
  m : Int
  w : Int
  l : Int
  f : Int
  c : Int
  M : th.R
def A37a (v : V37a) : List SV := [.ptr 0 0, .agg [.int .i64 v.k, .int .u64 v.a, .int .i64 v.b, .int .i64 v.r, .int .i64 v.g, .int .i64 v.s, .int .u64 v.m], .int .u64 v.w, .int .i64 v.l]
def H37a (v : V37a) : List (HO th.R) := [.cells 175 [.ptr 1 0, .int .u64 v.f, .int .i64 v.c], .res v.M]
def toV37a (v : V37a) : List (Vl th.R) := [.i v.k, .i v.a, .i v.b, .i v.r, .i v.g, .i v.s, .i v.m, .i v.w, .i v.l, .i v.f, .i v.c, .r v.M]
def ofV37a : List (Vl th.R) → Option V37a
  | [.i k, .i a, .i b, .i r, .i g, .i s, .i m, .i w, .i l, .i f, .i c, .r M] => some ⟨k, a, b, r, g, s, m, w, l, f, c, M⟩
  | _ => none
def d37a : Ft := ⟨[.ptr 0 0, .agg [.int .i64, .int .u64, .int .i64, .int .i64, .int .i64, .int .i64, .int .u64], .int .u64, .int .i64], [.cells 175 [.ptr 1 0, .int .u64, .int .i64], .res]⟩
noncomputable def f37a_0 (v : V37a) : (Prop) := pre111a (V111a.mk v.k v.a v.b v.r v.g v.s v.m v.w v.l v.f v.c v.M)
noncomputable def ff37a (v : V37a) : Tr (Fin th.R) := (Tr.need (f37a_0 v) (Tr.leaf (Prod.mk (SV.tup (List.cons (SV.int (IntKind.u64) ((0 : Int))) (List.cons (SV.int (IntKind.i64) ((0 : Int))) (List.cons (SV.int (IntKind.i64) ((12 : Int))) [])))) (Prod.mk (List.cons (HO.cells ((175 : Nat)) (List.cons (SV.ptr ((1 : Nat)) ((0:Nat))) (List.cons (SV.int (IntKind.u64) (v.f)) (List.cons (SV.int (IntKind.i64) (v.c)) [])))) (List.cons (HO.res (v.M)) [])) []))))
noncomputable def f37a (v : V37a) : Tr (Fin th.R) := (Tr.need (f37a_0 v) (Tr.leaf (Prod.mk (SV.tup (List.cons (SV.int (IntKind.u64) ((0 : Int))) (List.cons (SV.int (IntKind.i64) ((0 : Int))) (List.cons (SV.int (IntKind.i64) ((12 : Int))) [])))) (Prod.mk (List.cons (HO.cells ((175 : Nat)) (List.cons (SV.ptr ((1 : Nat)) ((0:Nat))) (List.cons (SV.int (IntKind.u64) (v.f)) (List.cons (SV.int (IntKind.i64) (v.c)) [])))) (List.cons (HO.res (v.M)) [])) ([])))))
noncomputable def C37a : CF th.R := fnC d37a ofV37a (f37a )
theorem q37a (v : V37a) : (evFn th Try.prog (auto th Try.prog nice111an [] 20) (autoH [] [] [24] [] : Hints th) 37) (A37a v) (H37a v) = some (ff37a v) := by kernel_rfl
theorem qg37a (v : V37a) : ((ff37a v).map (setD [])).get = (f37a v).get := by kernel_rfl
theorem qd37a (v : V37a) : allD 2 [] (ff37a v) = true := by kernel_rfl
theorem s37a : Sound Try.prog th 37 (C37a ) := fnC_sound (evFn_sound' (T := th) (P := Try.prog) (tbl := (auto th Try.prog nice111an [] 20)) (auto_sound (nice := nice111an) (us := []) nok111an 20) (H := (autoH [] [] [24] [] : Hints th)) (k := 37) (fnLoops (LoopsOk_mem (fun _ => rfl) _ fun _ _ _ e => by cases e))) d37a A37a H37a toV37a (by kernel_rfl) (fun v => by kernel_rfl)
  (fun l v h => by
    unfold ofV37a at h
    split at h
    · cases h; rfl
    · cases h)
  [] (fun v => ⟨ff37a v, q37a v, id, qg37a v, qd37a v⟩)
theorem qdd37a (v : V37a) : (f37a v).get.2.2 = [] := by
  rw [← qg37a, Tr.map_get]; rfl
end Go.Sx.M

namespace Go.Sx.M
open Go Go.Sx Go.Proofs Go.RowKit
set_option maxRecDepth 100000
structure V111b where
  k : Int
  a : Int
  b : Int
  r : Int
  g : Int
  s : Int
  m : Int
  w : Int
  l : Int
  f : Int
  c : Int
  M : th.R
def A111b (v : V111b) : List SV := [.ptr 0 0, .agg [.int .i64 v.k, .int .u64 v.a, .int .i64 v.b, .int .i64 v.r, .int .i64 v.g, .int .i64 v.s, .int .u64 v.m], .int .u64 v.w, .int .i64 v.l]
def H111b (v : V111b) : List (HO th.R) := [.cells 175 [.ptr 1 0, .int .u64 v.f, .int .i64 v.c], .res v.M]
def toV111b (v : V111b) : List (Vl th.R) := [.i v.k, .i v.a, .i v.b, .i v.r, .i v.g, .i v.s, .i v.m, .i v.w, .i v.l, .i v.f, .i v.c, .r v.M]
def ofV111b : List (Vl th.R) → Option V111b
  | [.i k, .i a, .i b, .i r, .i g, .i s, .i m, .i w, .i l, .i f, .i c, .r M] => some ⟨k, a, b, r, g, s, m, w, l, f, c, M⟩
  | _ => none
def d111b : Ft := ⟨[.ptr 0 0, .agg [.int .i64, .int .u64, .int .i64, .int .i64, .int .i64, .int .i64, .int .u64], .int .u64, .int .i64], [.cells 175 [.ptr 1 0, .int .u64, .int .i64], .res]⟩
noncomputable def f111b_7 (v : V111b) : (Bool) := cnd (decide (v.l < (1 : Int))) true (decide (v.l > (64 : Int)))
noncomputable def f111b_8 (v : V111b) : (Sl) := Sl.mk v.k v.a v.b v.r v.g v.s v.m (0 : Int) (0 : Int) (0 : Int)
noncomputable def f111b_0 (v : V111b) : (Prop) := f111b_7 v = false → pre124 (V124.mk v.k v.a v.b v.r v.g v.s v.m)
noncomputable def f111b_1 (v : V111b) : (Bool) := f111b_7 v
noncomputable def f111b_2 (v : V111b) : (Bool) := !pOk (f111b_8 v)
noncomputable def f111b_3 (v : V111b) : (Int) := pNa (f111b_8 v)
noncomputable def f111b_4 (v : V111b) : (Int) := pNb (f111b_8 v)
noncomputable def f111b_5 (v : V111b) : (Int) := pNg (f111b_8 v)
noncomputable def f111b_6 (v : V111b) : (Int) := pNm (f111b_8 v)
noncomputable def ff111b (v : V111b) : Tr (Fin th.R) := (Tr.need (f111b_0 v) (Tr.ite (f111b_1 v) (Tr.leaf (Prod.mk (SV.tup (List.cons (SV.nilp) (List.cons (SV.agg (List.cons (SV.int (IntKind.u64) ((0 : Int))) (List.cons (SV.int (IntKind.i64) ((0 : Int))) (List.cons (SV.int (IntKind.i64) ((0 : Int))) (List.cons (SV.int (IntKind.u64) ((0 : Int))) []))))) (List.cons (SV.int (IntKind.i64) ((12 : Int))) [])))) (Prod.mk (List.cons (HO.cells ((175 : Nat)) (List.cons (SV.ptr ((1 : Nat)) ((0:Nat))) (List.cons (SV.int (IntKind.u64) (v.f)) (List.cons (SV.int (IntKind.i64) (v.c)) [])))) (List.cons (HO.res (v.M)) [])) []))) (Tr.ite (f111b_2 v) (Tr.leaf (Prod.mk (SV.tup (List.cons (SV.nilp) (List.cons (SV.agg (List.cons (SV.int (IntKind.u64) (f111b_3 v)) (List.cons (SV.int (IntKind.i64) (f111b_4 v)) (List.cons (SV.int (IntKind.i64) (f111b_5 v)) (List.cons (SV.int (IntKind.u64) (f111b_6 v)) []))))) (List.cons (SV.int (IntKind.i64) ((20 : Int))) [])))) (Prod.mk (List.cons (HO.cells ((175 : Nat)) (List.cons (SV.ptr ((1 : Nat)) ((0:Nat))) (List.cons (SV.int (IntKind.u64) (v.f)) (List.cons (SV.int (IntKind.i64) (v.c)) [])))) (List.cons (HO.res (v.M)) [])) []))) (Tr.leaf (Prod.mk (SV.tup (List.cons (SV.ptr (5) ((0:Nat))) (List.cons (SV.agg (List.cons (SV.int (IntKind.u64) (f111b_3 v)) (List.cons (SV.int (IntKind.i64) (f111b_4 v)) (List.cons (SV.int (IntKind.i64) (f111b_5 v)) (List.cons (SV.int (IntKind.u64) (f111b_6 v)) []))))) (List.cons (SV.int (IntKind.i64) ((0 : Int))) [])))) (Prod.mk (List.cons (HO.cells ((175 : Nat)) (List.cons (SV.ptr ((1 : Nat)) ((0:Nat))) (List.cons (SV.int (IntKind.u64) (v.f)) (List.cons (SV.int (IntKind.i64) (v.c)) [])))) (List.cons (HO.res (v.M)) (List.cons (HO.cells ((38 : Nat)) (List.cons (SV.int (IntKind.i64) (v.k)) (List.cons (SV.int (IntKind.u64) (v.a)) (List.cons (SV.int (IntKind.i64) (v.b)) (List.cons (SV.int (IntKind.i64) (v.r)) (List.cons (SV.int (IntKind.i64) (v.g)) (List.cons (SV.int (IntKind.i64) (v.s)) (List.cons (SV.int (IntKind.u64) (v.m)) [])))))))) (List.cons (HO.cells ((158 : Nat)) (List.cons (SV.int (IntKind.u64) (f111b_3 v)) (List.cons (SV.int (IntKind.i64) (f111b_4 v)) (List.cons (SV.int (IntKind.i64) (f111b_5 v)) (List.cons (SV.int (IntKind.u64) (f111b_6 v)) []))))) (List.cons (HO.cells ((158 : Nat)) (List.cons (SV.int (IntKind.u64) (f111b_3 v)) (List.cons (SV.int (IntKind.i64) (f111b_4 v)) (List.cons (SV.int (IntKind.i64) (f111b_5 v)) (List.cons (SV.int (IntKind.u64) (f111b_6 v)) []))))) (List.cons (HO.cells ((163 : Nat)) (List.cons (SV.ptr ((0:Nat)) ((0:Nat))) (List.cons (SV.int (IntKind.u64) (v.w)) (List.cons (SV.int (IntKind.i64) (v.l)) (List.cons (SV.int (IntKind.i64) ((0 : Int))) []))))) [])))))) (List.cons (3) (List.cons (4) []))))))))
noncomputable def f111b (v : V111b) : Tr (Fin th.R) := (Tr.need (f111b_0 v) (Tr.ite (f111b_1 v) (Tr.leaf (Prod.mk (SV.tup (List.cons (SV.nilp) (List.cons (SV.agg (List.cons (SV.int (IntKind.u64) ((0 : Int))) (List.cons (SV.int (IntKind.i64) ((0 : Int))) (List.cons (SV.int (IntKind.i64) ((0 : Int))) (List.cons (SV.int (IntKind.u64) ((0 : Int))) []))))) (List.cons (SV.int (IntKind.i64) ((12 : Int))) [])))) (Prod.mk (List.cons (HO.cells ((175 : Nat)) (List.cons (SV.ptr ((1 : Nat)) ((0:Nat))) (List.cons (SV.int (IntKind.u64) (v.f)) (List.cons (SV.int (IntKind.i64) (v.c)) [])))) (List.cons (HO.res (v.M)) [])) ([])))) (Tr.ite (f111b_2 v) (Tr.leaf (Prod.mk (SV.tup (List.cons (SV.nilp) (List.cons (SV.agg (List.cons (SV.int (IntKind.u64) (f111b_3 v)) (List.cons (SV.int (IntKind.i64) (f111b_4 v)) (List.cons (SV.int (IntKind.i64) (f111b_5 v)) (List.cons (SV.int (IntKind.u64) (f111b_6 v)) []))))) (List.cons (SV.int (IntKind.i64) ((20 : Int))) [])))) (Prod.mk (List.cons (HO.cells ((175 : Nat)) (List.cons (SV.ptr ((1 : Nat)) ((0:Nat))) (List.cons (SV.int (IntKind.u64) (v.f)) (List.cons (SV.int (IntKind.i64) (v.c)) [])))) (List.cons (HO.res (v.M)) [])) ([])))) (Tr.leaf (Prod.mk (SV.tup (List.cons (SV.ptr (5) ((0:Nat))) (List.cons (SV.agg (List.cons (SV.int (IntKind.u64) (f111b_3 v)) (List.cons (SV.int (IntKind.i64) (f111b_4 v)) (List.cons (SV.int (IntKind.i64) (f111b_5 v)) (List.cons (SV.int (IntKind.u64) (f111b_6 v)) []))))) (List.cons (SV.int (IntKind.i64) ((0 : Int))) [])))) (Prod.mk (List.cons (HO.cells ((175 : Nat)) (List.cons (SV.ptr ((1 : Nat)) ((0:Nat))) (List.cons (SV.int (IntKind.u64) (v.f)) (List.cons (SV.int (IntKind.i64) (v.c)) [])))) (List.cons (HO.res (v.M)) (List.cons (HO.cells ((38 : Nat)) (List.cons (SV.int (IntKind.i64) (v.k)) (List.cons (SV.int (IntKind.u64) (v.a)) (List.cons (SV.int (IntKind.i64) (v.b)) (List.cons (SV.int (IntKind.i64) (v.r)) (List.cons (SV.int (IntKind.i64) (v.g)) (List.cons (SV.int (IntKind.i64) (v.s)) (List.cons (SV.int (IntKind.u64) (v.m)) [])))))))) (List.cons (HO.cells ((158 : Nat)) (List.cons (SV.int (IntKind.u64) (f111b_3 v)) (List.cons (SV.int (IntKind.i64) (f111b_4 v)) (List.cons (SV.int (IntKind.i64) (f111b_5 v)) (List.cons (SV.int (IntKind.u64) (f111b_6 v)) []))))) (List.cons (HO.cells ((158 : Nat)) (List.cons (SV.int (IntKind.u64) (f111b_3 v)) (List.cons (SV.int (IntKind.i64) (f111b_4 v)) (List.cons (SV.int (IntKind.i64) (f111b_5 v)) (List.cons (SV.int (IntKind.u64) (f111b_6 v)) []))))) (List.cons (HO.cells ((163 : Nat)) (List.cons (SV.ptr ((0:Nat)) ((0:Nat))) (List.cons (SV.int (IntKind.u64) (v.w)) (List.cons (SV.int (IntKind.i64) (v.l)) (List.cons (SV.int (IntKind.i64) ((0 : Int))) []))))) [])))))) ([])))))))
noncomputable def C111b : CF th.R := fnC d111b ofV111b (f111b )
theorem q111b (v : V111b) : (evFn th Try.prog (auto th Try.prog nice112n [] 20) (autoH [] [] [] [] : Hints th) 111) (A111b v) (H111b v) = some (ff111b v) := by kernel_rfl
theorem qg111b (v : V111b) : ((ff111b v).map (setD [])).get = (f111b v).get := by kernel_rfl
theorem qd111b (v : V111b) : allD 2 [] (ff111b v) = true := by kernel_rfl
theorem s111b : Sound Try.prog th 111 (C111b ) := fnC_sound (evFn_sound' (T := th) (P := Try.prog) (tbl := (auto th Try.prog nice112n [] 20)) (auto_sound (nice := nice112n) (us := []) nok112n 20) (H := (autoH [] [] [] [] : Hints th)) (k := 111) (fnLoops (LoopsOk_mem (fun _ => rfl) _ fun _ _ _ e => by cases e))) d111b A111b H111b toV111b (by kernel_rfl) (fun v => by kernel_rfl)
  (fun l v h => by
    unfold ofV111b at h
    split at h
    · cases h; rfl
    · cases h)
  [] (fun v => ⟨ff111b v, q111b v, id, qg111b v, qd111b v⟩)
theorem qdd111b (v : V111b) : (f111b v).get.2.2 = [] := by
  rw [← qg111b, Tr.map_get]; rfl
end Go.Sx.M

namespace Go.Sx.M
open Go Go.Sx Go.Proofs Go.RowKit
set_option maxRecDepth 100000
def pre111b (v : V111b) : Prop := lbad v.l = false ∧ pOk (Sl.mk v.k v.a v.b v.r v.g v.s v.m 0 0 0) = false
theorem n111b (v : V111b) (h : pre111b v) : (f111b v).ok ∧ (f111b v).get.1 = .tup [.nilp, .agg [.int .u64 (pNa (Sl.mk v.k v.a v.b v.r v.g v.s v.m 0 0 0)), .int .i64 (pNb (Sl.mk v.k v.a v.b v.r v.g v.s v.m 0 0 0)), .int .i64 (pNg (Sl.mk v.k v.a v.b v.r v.g v.s v.m 0 0 0)), .int .u64 (pNm (Sl.mk v.k v.a v.b v.r v.g v.s v.m 0 0 0))], .int .i64 20] ∧ HOws (f111b v).get.2.1 [HO.cells 175 [.ptr 1 0, .int .u64 (v.f), .int .i64 (v.c)], HO.res v.M] := by
  have e1 : f111b_1 v = lbad v.l := rfl
  have e2 : f111b_2 v = !pOk (Sl.mk v.k v.a v.b v.r v.g v.s v.m 0 0 0) := rfl
  obtain ⟨h1, h2⟩ := h
  simp only [f111b, Tr.ok, Tr.get, e1, e2, h1, h2]
  exact ⟨⟨fun _ => trivial, (fun e => by cases e), fun _ => ⟨fun _ => trivial, fun e => by cases e⟩⟩, rfl, .refl _⟩
noncomputable def f111bn (v : V111b) : Tr (Fin th.R) := .need (pre111b v) (.leaf (.tup [.nilp, .agg [.int .u64 (pNa (Sl.mk v.k v.a v.b v.r v.g v.s v.m 0 0 0)), .int .i64 (pNb (Sl.mk v.k v.a v.b v.r v.g v.s v.m 0 0 0)), .int .i64 (pNg (Sl.mk v.k v.a v.b v.r v.g v.s v.m 0 0 0)), .int .u64 (pNm (Sl.mk v.k v.a v.b v.r v.g v.s v.m 0 0 0))], .int .i64 20], [.cells 175 [.ptr 1 0, .int .u64 (v.f), .int .i64 (v.c)], .res v.M], []))
theorem s111bn : Sound Try.prog th 111 (fnC d111b ofV111b f111bn) := fnC_refine s111b fun v h => by
  obtain ⟨hp, _⟩ := h
  obtain ⟨a, b, c⟩ := n111b v hp
  exact ⟨a, b.symm, (qdd111b v).symm, c, by show 2 ≤ 2; decide⟩
noncomputable def nice111bn : List (Nat × CF th.R) := (111, lift (fnC d111b ofV111b f111bn)) :: nice112n
theorem nok111bn : NiceOk Try.prog th nice111bn := ⟨lift_sound s111bn, nok112n⟩
end Go.Sx.M

namespace Go.Sx.M
open Go Go.Sx Go.Proofs Go.RowKit
set_option maxRecDepth 100000
structure V37b where
  k : Int
  a : Int
  b : Int
  r : Int
  g : Int
  s : Int
  m : Int
  w : Int
  l : Int
  f : Int
  c : Int
  M : th.R
def A37b (v : V37b) : List SV := [.ptr 0 0, .agg [.int .i64 v.k, .int .u64 v.a, .int .i64 v.b, .int .i64 v.r, .int .i64 v.g, .int .i64 v.s, .int .u64 v.m], .int .u64 v.w, .int .i64 v.l]
def H37b (v : V37b) : List (HO th.R) := [.cells 175 [.ptr 1 0, .int .u64 v.f, .int .i64 v.c], .res v.M]
def toV37b (v : V37b) : List (Vl th.R) := [.i v.k, .i v.a, .i v.b, .i v.r, .i v.g, .i v.s, .i v.m, .i v.w, .i v.l, .i v.f, .i v.c, .r v.M]
def ofV37b : List (Vl th.R) → Option V37b
  | [.i k, .i a, .i b, .i r, .i g, .i s, .i m, .i w, .i l, .i f, .i c, .r M] => some ⟨k, a, b, r, g, s, m, w, l, f, c, M⟩
  | _ => none
def d37b : Ft := ⟨[.ptr 0 0, .agg [.int .i64, .int .u64, .int .i64, .int .i64, .int .i64, .int .i64, .int .u64], .int .u64, .int .i64], [.cells 175 [.ptr 1 0, .int .u64, .int .i64], .res]⟩
noncomputable def f37b_0 (v : V37b) : (Prop) := pre111b (V111b.mk v.k v.a v.b v.r v.g v.s v.m v.w v.l v.f v.c v.M)
noncomputable def ff37b (v : V37b) : Tr (Fin th.R) := (Tr.need (f37b_0 v) (Tr.leaf (Prod.mk (SV.tup (List.cons (SV.int (IntKind.u64) ((0 : Int))) (List.cons (SV.int (IntKind.i64) ((0 : Int))) (List.cons (SV.int (IntKind.i64) ((20 : Int))) [])))) (Prod.mk (List.cons (HO.cells ((175 : Nat)) (List.cons (SV.ptr ((1 : Nat)) ((0:Nat))) (List.cons (SV.int (IntKind.u64) (v.f)) (List.cons (SV.int (IntKind.i64) (v.c)) [])))) (List.cons (HO.res (v.M)) [])) []))))
noncomputable def f37b (v : V37b) : Tr (Fin th.R) := (Tr.need (f37b_0 v) (Tr.leaf (Prod.mk (SV.tup (List.cons (SV.int (IntKind.u64) ((0 : Int))) (List.cons (SV.int (IntKind.i64) ((0 : Int))) (List.cons (SV.int (IntKind.i64) ((20 : Int))) [])))) (Prod.mk (List.cons (HO.cells ((175 : Nat)) (List.cons (SV.ptr ((1 : Nat)) ((0:Nat))) (List.cons (SV.int (IntKind.u64) (v.f)) (List.cons (SV.int (IntKind.i64) (v.c)) [])))) (List.cons (HO.res (v.M)) [])) ([])))))
noncomputable def C37b : CF th.R := fnC d37b ofV37b (f37b )
theorem q37b (v : V37b) : (evFn th Try.prog (auto th Try.prog nice111bn [] 20) (autoH [] [] [24] [] : Hints th) 37) (A37b v) (H37b v) = some (ff37b v) := by kernel_rfl
theorem qg37b (v : V37b) : ((ff37b v).map (setD [])).get = (f37b v).get := by kernel_rfl
theorem qd37b (v : V37b) : allD 2 [] (ff37b v) = true := by kernel_rfl
theorem s37b : Sound Try.prog th 37 (C37b ) := fnC_sound (evFn_sound' (T := th) (P := Try.prog) (tbl := (auto th Try.prog nice111bn [] 20)) (auto_sound (nice := nice111bn) (us := []) nok111bn 20) (H := (autoH [] [] [24] [] : Hints th)) (k := 37) (fnLoops (LoopsOk_mem (fun _ => rfl) _ fun _ _ _ e => by cases e))) d37b A37b H37b toV37b (by kernel_rfl) (fun v => by kernel_rfl)
  (fun l v h => by
    unfold ofV37b at h
    split at h
    · cases h; rfl
    · cases h)
  [] (fun v => ⟨ff37b v, q37b v, id, qg37b v, qd37b v⟩)
theorem qdd37b (v : V37b) : (f37b v).get.2.2 = [] := by
  rw [← qg37b, Tr.map_get]; rfl
end Go.Sx.M

namespace Go.Sx.M
open Go Go.Sx Go.Proofs Go.RowKit
set_option maxRecDepth 100000
structure V111o where
  k : Int
  a : Int
  b : Int
  r : Int
  g : Int
  s : Int
  m : Int
  w : Int
  l : Int
  f : Int
  c : Int
  M : th.R
def A111o (v : V111o) : List SV := [.ptr 0 0, .agg [.int .i64 v.k, .int .u64 v.a, .int .i64 v.b, .int .i64 v.r, .int .i64 v.g, .int .i64 v.s, .int .u64 v.m], .int .u64 v.w, .int .i64 v.l]
def H111o (v : V111o) : List (HO th.R) := [.cells 175 [.ptr 1 0, .int .u64 v.f, .int .i64 v.c], .res v.M]
def toV111o (v : V111o) : List (Vl th.R) := [.i v.k, .i v.a, .i v.b, .i v.r, .i v.g, .i v.s, .i v.m, .i v.w, .i v.l, .i v.f, .i v.c, .r v.M]
def ofV111o : List (Vl th.R) → Option V111o
  | [.i k, .i a, .i b, .i r, .i g, .i s, .i m, .i w, .i l, .i f, .i c, .r M] => some ⟨k, a, b, r, g, s, m, w, l, f, c, M⟩
  | _ => none
def d111o : Ft := ⟨[.ptr 0 0, .agg [.int .i64, .int .u64, .int .i64, .int .i64, .int .i64, .int .i64, .int .u64], .int .u64, .int .i64], [.cells 175 [.ptr 1 0, .int .u64, .int .i64], .res]⟩
noncomputable def f111o_7 (v : V111o) : (Bool) := cnd (decide (v.l < (1 : Int))) true (decide (v.l > (64 : Int)))
noncomputable def f111o_8 (v : V111o) : (Sl) := Sl.mk v.k v.a v.b v.r v.g v.s v.m (0 : Int) (0 : Int) (0 : Int)
noncomputable def f111o_0 (v : V111o) : (Prop) := f111o_7 v = false → pre124 (V124.mk v.k v.a v.b v.r v.g v.s v.m)
noncomputable def f111o_1 (v : V111o) : (Bool) := f111o_7 v
noncomputable def f111o_2 (v : V111o) : (Bool) := !pOk (f111o_8 v)
noncomputable def f111o_3 (v : V111o) : (Int) := pNa (f111o_8 v)
noncomputable def f111o_4 (v : V111o) : (Int) := pNb (f111o_8 v)
noncomputable def f111o_5 (v : V111o) : (Int) := pNg (f111o_8 v)
noncomputable def f111o_6 (v : V111o) : (Int) := pNm (f111o_8 v)
noncomputable def ff111o (v : V111o) : Tr (Fin th.R) := (Tr.need (f111o_0 v) (Tr.ite (f111o_1 v) (Tr.leaf (Prod.mk (SV.tup (List.cons (SV.nilp) (List.cons (SV.agg (List.cons (SV.int (IntKind.u64) ((0 : Int))) (List.cons (SV.int (IntKind.i64) ((0 : Int))) (List.cons (SV.int (IntKind.i64) ((0 : Int))) (List.cons (SV.int (IntKind.u64) ((0 : Int))) []))))) (List.cons (SV.int (IntKind.i64) ((12 : Int))) [])))) (Prod.mk (List.cons (HO.cells ((175 : Nat)) (List.cons (SV.ptr ((1 : Nat)) ((0:Nat))) (List.cons (SV.int (IntKind.u64) (v.f)) (List.cons (SV.int (IntKind.i64) (v.c)) [])))) (List.cons (HO.res (v.M)) [])) []))) (Tr.ite (f111o_2 v) (Tr.leaf (Prod.mk (SV.tup (List.cons (SV.nilp) (List.cons (SV.agg (List.cons (SV.int (IntKind.u64) (f111o_3 v)) (List.cons (SV.int (IntKind.i64) (f111o_4 v)) (List.cons (SV.int (IntKind.i64) (f111o_5 v)) (List.cons (SV.int (IntKind.u64) (f111o_6 v)) []))))) (List.cons (SV.int (IntKind.i64) ((20 : Int))) [])))) (Prod.mk (List.cons (HO.cells ((175 : Nat)) (List.cons (SV.ptr ((1 : Nat)) ((0:Nat))) (List.cons (SV.int (IntKind.u64) (v.f)) (List.cons (SV.int (IntKind.i64) (v.c)) [])))) (List.cons (HO.res (v.M)) [])) []))) (Tr.leaf (Prod.mk (SV.tup (List.cons (SV.ptr (5) ((0:Nat))) (List.cons (SV.agg (List.cons (SV.int (IntKind.u64) (f111o_3 v)) (List.cons (SV.int (IntKind.i64) (f111o_4 v)) (List.cons (SV.int (IntKind.i64) (f111o_5 v)) (List.cons (SV.int (IntKind.u64) (f111o_6 v)) []))))) (List.cons (SV.int (IntKind.i64) ((0 : Int))) [])))) (Prod.mk (List.cons (HO.cells ((175 : Nat)) (List.cons (SV.ptr ((1 : Nat)) ((0:Nat))) (List.cons (SV.int (IntKind.u64) (v.f)) (List.cons (SV.int (IntKind.i64) (v.c)) [])))) (List.cons (HO.res (v.M)) (List.cons (HO.cells ((38 : Nat)) (List.cons (SV.int (IntKind.i64) (v.k)) (List.cons (SV.int (IntKind.u64) (v.a)) (List.cons (SV.int (IntKind.i64) (v.b)) (List.cons (SV.int (IntKind.i64) (v.r)) (List.cons (SV.int (IntKind.i64) (v.g)) (List.cons (SV.int (IntKind.i64) (v.s)) (List.cons (SV.int (IntKind.u64) (v.m)) [])))))))) (List.cons (HO.cells ((158 : Nat)) (List.cons (SV.int (IntKind.u64) (f111o_3 v)) (List.cons (SV.int (IntKind.i64) (f111o_4 v)) (List.cons (SV.int (IntKind.i64) (f111o_5 v)) (List.cons (SV.int (IntKind.u64) (f111o_6 v)) []))))) (List.cons (HO.cells ((158 : Nat)) (List.cons (SV.int (IntKind.u64) (f111o_3 v)) (List.cons (SV.int (IntKind.i64) (f111o_4 v)) (List.cons (SV.int (IntKind.i64) (f111o_5 v)) (List.cons (SV.int (IntKind.u64) (f111o_6 v)) []))))) (List.cons (HO.cells ((163 : Nat)) (List.cons (SV.ptr ((0:Nat)) ((0:Nat))) (List.cons (SV.int (IntKind.u64) (v.w)) (List.cons (SV.int (IntKind.i64) (v.l)) (List.cons (SV.int (IntKind.i64) ((0 : Int))) []))))) [])))))) (List.cons (3) (List.cons (4) []))))))))
noncomputable def f111o (v : V111o) : Tr (Fin th.R) := (Tr.need (f111o_0 v) (Tr.ite (f111o_1 v) (Tr.leaf (Prod.mk (SV.tup (List.cons (SV.nilp) (List.cons (SV.agg (List.cons (SV.int (IntKind.u64) ((0 : Int))) (List.cons (SV.int (IntKind.i64) ((0 : Int))) (List.cons (SV.int (IntKind.i64) ((0 : Int))) (List.cons (SV.int (IntKind.u64) ((0 : Int))) []))))) (List.cons (SV.int (IntKind.i64) ((12 : Int))) [])))) (Prod.mk (List.cons (HO.cells ((175 : Nat)) (List.cons (SV.ptr ((1 : Nat)) ((0:Nat))) (List.cons (SV.int (IntKind.u64) (v.f)) (List.cons (SV.int (IntKind.i64) (v.c)) [])))) (List.cons (HO.res (v.M)) [])) ([])))) (Tr.ite (f111o_2 v) (Tr.leaf (Prod.mk (SV.tup (List.cons (SV.nilp) (List.cons (SV.agg (List.cons (SV.int (IntKind.u64) (f111o_3 v)) (List.cons (SV.int (IntKind.i64) (f111o_4 v)) (List.cons (SV.int (IntKind.i64) (f111o_5 v)) (List.cons (SV.int (IntKind.u64) (f111o_6 v)) []))))) (List.cons (SV.int (IntKind.i64) ((20 : Int))) [])))) (Prod.mk (List.cons (HO.cells ((175 : Nat)) (List.cons (SV.ptr ((1 : Nat)) ((0:Nat))) (List.cons (SV.int (IntKind.u64) (v.f)) (List.cons (SV.int (IntKind.i64) (v.c)) [])))) (List.cons (HO.res (v.M)) [])) ([])))) (Tr.leaf (Prod.mk (SV.tup (List.cons (SV.ptr (5) ((0:Nat))) (List.cons (SV.agg (List.cons (SV.int (IntKind.u64) (f111o_3 v)) (List.cons (SV.int (IntKind.i64) (f111o_4 v)) (List.cons (SV.int (IntKind.i64) (f111o_5 v)) (List.cons (SV.int (IntKind.u64) (f111o_6 v)) []))))) (List.cons (SV.int (IntKind.i64) ((0 : Int))) [])))) (Prod.mk (List.cons (HO.cells ((175 : Nat)) (List.cons (SV.ptr ((1 : Nat)) ((0:Nat))) (List.cons (SV.int (IntKind.u64) (v.f)) (List.cons (SV.int (IntKind.i64) (v.c)) [])))) (List.cons (HO.res (v.M)) (List.cons (HO.cells ((38 : Nat)) (List.cons (SV.int (IntKind.i64) (v.k)) (List.cons (SV.int (IntKind.u64) (v.a)) (List.cons (SV.int (IntKind.i64) (v.b)) (List.cons (SV.int (IntKind.i64) (v.r)) (List.cons (SV.int (IntKind.i64) (v.g)) (List.cons (SV.int (IntKind.i64) (v.s)) (List.cons (SV.int (IntKind.u64) (v.m)) [])))))))) (List.cons (HO.cells ((158 : Nat)) (List.cons (SV.int (IntKind.u64) (f111o_3 v)) (List.cons (SV.int (IntKind.i64) (f111o_4 v)) (List.cons (SV.int (IntKind.i64) (f111o_5 v)) (List.cons (SV.int (IntKind.u64) (f111o_6 v)) []))))) (List.cons (HO.cells ((158 : Nat)) (List.cons (SV.int (IntKind.u64) (f111o_3 v)) (List.cons (SV.int (IntKind.i64) (f111o_4 v)) (List.cons (SV.int (IntKind.i64) (f111o_5 v)) (List.cons (SV.int (IntKind.u64) (f111o_6 v)) []))))) (List.cons (HO.cells ((163 : Nat)) (List.cons (SV.ptr ((0:Nat)) ((0:Nat))) (List.cons (SV.int (IntKind.u64) (v.w)) (List.cons (SV.int (IntKind.i64) (v.l)) (List.cons (SV.int (IntKind.i64) ((0 : Int))) []))))) [])))))) ([])))))))
noncomputable def C111o : CF th.R := fnC d111o ofV111o (f111o )
theorem q111o (v : V111o) : (evFn th Try.prog (auto th Try.prog nice112n [] 20) (autoH [] [] [] [] : Hints th) 111) (A111o v) (H111o v) = some (ff111o v) := by kernel_rfl
theorem qg111o (v : V111o) : ((ff111o v).map (setD [])).get = (f111o v).get := by kernel_rfl
theorem qd111o (v : V111o) : allD 2 [] (ff111o v) = true := by kernel_rfl
theorem s111o : Sound Try.prog th 111 (C111o ) := fnC_sound (evFn_sound' (T := th) (P := Try.prog) (tbl := (auto th Try.prog nice112n [] 20)) (auto_sound (nice := nice112n) (us := []) nok112n 20) (H := (autoH [] [] [] [] : Hints th)) (k := 111) (fnLoops (LoopsOk_mem (fun _ => rfl) _ fun _ _ _ e => by cases e))) d111o A111o H111o toV111o (by kernel_rfl) (fun v => by kernel_rfl)
  (fun l v h => by
    unfold ofV111o at h
    split at h
    · cases h; rfl
    · cases h)
  [] (fun v => ⟨ff111o v, q111o v, id, qg111o v, qd111o v⟩)
theorem qdd111o (v : V111o) : (f111o v).get.2.2 = [] := by
  rw [← qg111o, Tr.map_get]; rfl
end Go.Sx.M

namespace Go.Sx.M
open Go Go.Sx Go.Proofs Go.RowKit
set_option maxRecDepth 100000
def pre111o (v : V111o) : Prop := bgE (Sl.mk v.k v.a v.b v.r v.g v.s v.m 0 0 0) v.l = 0
theorem n111o (v : V111o) (h : pre111o v) : (f111o v).ok ∧ (f111o v).get.1 = .tup [.ptr 5 0, .agg [.int .u64 (pNa (Sl.mk v.k v.a v.b v.r v.g v.s v.m 0 0 0)), .int .i64 (pNb (Sl.mk v.k v.a v.b v.r v.g v.s v.m 0 0 0)), .int .i64 (pNg (Sl.mk v.k v.a v.b v.r v.g v.s v.m 0 0 0)), .int .u64 (pNm (Sl.mk v.k v.a v.b v.r v.g v.s v.m 0 0 0))], .int .i64 0] ∧ HOws (f111o v).get.2.1 [HO.cells 175 [.ptr 1 0, .int .u64 (v.f), .int .i64 (v.c)], HO.res v.M, HO.gone, HO.gone, HO.gone, HO.cells 163 [.ptr 0 0, .int .u64 v.w, .int .i64 v.l, .int .i64 0]] := by
  have e1 : f111o_1 v = lbad v.l := rfl
  have e2 : f111o_2 v = !pOk (Sl.mk v.k v.a v.b v.r v.g v.s v.m 0 0 0) := rfl
  obtain ⟨k1, k2, _⟩ := bgE_ok h
  simp only [f111o, Tr.ok, Tr.get, e1, e2, k1, k2]
  refine ⟨⟨fun _ => trivial, (fun e => by cases e), fun _ => ⟨(fun e => by cases e), fun _ => trivial⟩⟩, rfl, ?_⟩
  exact .cons (.inl rfl) (.cons (.inl rfl) (.cons (.inr (.inl rfl)) (.cons (.inr (.inl rfl)) (.cons (.inr (.inl rfl)) (.cons (.inl rfl) .nil)))))
noncomputable def f111on (v : V111o) : Tr (Fin th.R) := .need (pre111o v) (.leaf (.tup [.ptr 5 0, .agg [.int .u64 (pNa (Sl.mk v.k v.a v.b v.r v.g v.s v.m 0 0 0)), .int .i64 (pNb (Sl.mk v.k v.a v.b v.r v.g v.s v.m 0 0 0)), .int .i64 (pNg (Sl.mk v.k v.a v.b v.r v.g v.s v.m 0 0 0)), .int .u64 (pNm (Sl.mk v.k v.a v.b v.r v.g v.s v.m 0 0 0))], .int .i64 0], [.cells 175 [.ptr 1 0, .int .u64 (v.f), .int .i64 (v.c)], .res v.M, .gone, .gone, .gone, .cells 163 [.ptr 0 0, .int .u64 v.w, .int .i64 v.l, .int .i64 0]], []))
theorem s111on : Sound Try.prog th 111 (fnC d111o ofV111o f111on) := fnC_refine s111o fun v h => by
  obtain ⟨hp, _⟩ := h
  obtain ⟨a, b, c⟩ := n111o v hp
  exact ⟨a, b.symm, (qdd111o v).symm, c, by show 2 ≤ 6; decide⟩
noncomputable def nice111on : List (Nat × CF th.R) := (111, lift (fnC d111o ofV111o f111on)) :: nice112n
theorem nok111on : NiceOk Try.prog th nice111on := ⟨lift_sound s111on, nok112n⟩
end Go.Sx.M

namespace Go.Sx.M
open Go Go.Sx Go.Proofs Go.RowKit
set_option maxRecDepth 100000
structure V37o where
  k : Int
  a : Int
  b : Int
  r : Int
  g : Int
  s : Int
  m : Int
  w : Int
  l : Int
  f : Int
  c : Int
  M : th.R
def A37o (v : V37o) : List SV := [.ptr 0 0, .agg [.int .i64 v.k, .int .u64 v.a, .int .i64 v.b, .int .i64 v.r, .int .i64 v.g, .int .i64 v.s, .int .u64 v.m], .int .u64 v.w, .int .i64 v.l]
def H37o (v : V37o) : List (HO th.R) := [.cells 175 [.ptr 1 0, .int .u64 v.f, .int .i64 v.c], .res v.M]
def toV37o (v : V37o) : List (Vl th.R) := [.i v.k, .i v.a, .i v.b, .i v.r, .i v.g, .i v.s, .i v.m, .i v.w, .i v.l, .i v.f, .i v.c, .r v.M]
def ofV37o : List (Vl th.R) → Option V37o
  | [.i k, .i a, .i b, .i r, .i g, .i s, .i m, .i w, .i l, .i f, .i c, .r M] => some ⟨k, a, b, r, g, s, m, w, l, f, c, M⟩
  | _ => none
def d37o : Ft := ⟨[.ptr 0 0, .agg [.int .i64, .int .u64, .int .i64, .int .i64, .int .i64, .int .i64, .int .u64], .int .u64, .int .i64], [.cells 175 [.ptr 1 0, .int .u64, .int .i64], .res]⟩
noncomputable def f37o_5 (v : V37o) : (Sl) := Sl.mk v.k v.a v.b v.r v.g v.s v.m (0 : Int) (0 : Int) (0 : Int)
noncomputable def f37o_6 (v : V37o) : (Int) := pNa (f37o_5 v)
noncomputable def f37o_7 (v : V37o) : (Int) := pNb (f37o_5 v)
noncomputable def f37o_8 (v : V37o) : (Int) := pNg (f37o_5 v)
noncomputable def f37o_9 (v : V37o) : (Int) := pNm (f37o_5 v)
noncomputable def f37o_10 (v : V37o) : (Wr) := wkM (fun (a : Int) => capS (ld v.M a)) v.w (v.l.toNat + (1 : Nat)) v.l (0 : Int) (f37o_6 v) (f37o_7 v) (f37o_8 v) (f37o_9 v)
noncomputable def f37o_0 (v : V37o) : (Prop) := pre111o (V111o.mk v.k v.a v.b v.r v.g v.s v.m v.w v.l v.f v.c v.M)
noncomputable def f37o_1 (v : V37o) : (Prop) := pre112 (V112.mk (f37o_6 v) (f37o_7 v) (f37o_8 v) (f37o_9 v) v.w v.l (0 : Int) v.f v.c v.M)
noncomputable def f37o_2 (v : V37o) : (Int) := cnd (!(f37o_10 v).ok) (0 : Int) (f37o_10 v).s
noncomputable def f37o_3 (v : V37o) : (Int) := cnd (!(f37o_10 v).ok) (0 : Int) (f37o_10 v).l
noncomputable def f37o_4 (v : V37o) : (Int) := cnd (!(f37o_10 v).ok) (23 : Int) (0 : Int)
noncomputable def ff37o (v : V37o) : Tr (Fin th.R) := (Tr.need (f37o_0 v) (Tr.need (f37o_1 v) (Tr.leaf (Prod.mk (SV.tup (List.cons (SV.int (IntKind.u64) (f37o_2 v)) (List.cons (SV.int (IntKind.i64) (f37o_3 v)) (List.cons (SV.int (IntKind.i64) (f37o_4 v)) [])))) (Prod.mk (List.cons (HO.cells ((175 : Nat)) (List.cons (SV.ptr ((1 : Nat)) ((0:Nat))) (List.cons (SV.int (IntKind.u64) (v.f)) (List.cons (SV.int (IntKind.i64) (v.c)) [])))) (List.cons (HO.res (v.M)) [])) [])))))
noncomputable def f37o (v : V37o) : Tr (Fin th.R) := (Tr.need (f37o_0 v) (Tr.need (f37o_1 v) (Tr.leaf (Prod.mk (SV.tup (List.cons (SV.int (IntKind.u64) (f37o_2 v)) (List.cons (SV.int (IntKind.i64) (f37o_3 v)) (List.cons (SV.int (IntKind.i64) (f37o_4 v)) [])))) (Prod.mk (List.cons (HO.cells ((175 : Nat)) (List.cons (SV.ptr ((1 : Nat)) ((0:Nat))) (List.cons (SV.int (IntKind.u64) (v.f)) (List.cons (SV.int (IntKind.i64) (v.c)) [])))) (List.cons (HO.res (v.M)) [])) ([]))))))
noncomputable def C37o : CF th.R := fnC d37o ofV37o (f37o )
theorem q37o (v : V37o) : (evFn th Try.prog (auto th Try.prog nice111on [] 20) (autoH [] [] [24] [] : Hints th) 37) (A37o v) (H37o v) = some (ff37o v) := by kernel_rfl
theorem qg37o (v : V37o) : ((ff37o v).map (setD [])).get = (f37o v).get := by kernel_rfl
theorem qd37o (v : V37o) : allD 2 [] (ff37o v) = true := by kernel_rfl
theorem s37o : Sound Try.prog th 37 (C37o ) := fnC_sound (evFn_sound' (T := th) (P := Try.prog) (tbl := (auto th Try.prog nice111on [] 20)) (auto_sound (nice := nice111on) (us := []) nok111on 20) (H := (autoH [] [] [24] [] : Hints th)) (k := 37) (fnLoops (LoopsOk_mem (fun _ => rfl) _ fun _ _ _ e => by cases e))) d37o A37o H37o toV37o (by kernel_rfl) (fun v => by kernel_rfl)
  (fun l v h => by
    unfold ofV37o at h
    split at h
    · cases h; rfl
    · cases h)
  [] (fun v => ⟨ff37o v, q37o v, id, qg37o v, qd37o v⟩)
theorem qdd37o (v : V37o) : (f37o v).get.2.2 = [] := by
  rw [← qg37o, Tr.map_get]; rfl
end Go.Sx.M

namespace Go.Sx.M
open Go Go.Sx Go.Proofs Go.RowKit
set_option maxRecDepth 100000
/-- A walk in a tree, from any capability: the slot, what is left, its error. -/
noncomputable def wkW (M : Mem) (z : Sl) (w l : Int) : Wr := wkM (fun a => capS (ld M a)) w (l.toNat + 1) l 0 (pNa z) (pNb z) (pNg z) (pNm z)
noncomputable def wkA (M : Mem) (z : Sl) (w l : Int) : Int := cnd (bgE z l != 0) 0 (cnd (!(wkW M z w l).ok) 0 (wkW M z w l).s)
noncomputable def wkB (M : Mem) (z : Sl) (w l : Int) : Int := cnd (bgE z l != 0) 0 (cnd (!(wkW M z w l).ok) 0 (wkW M z w l).l)
noncomputable def wkE (M : Mem) (z : Sl) (w l : Int) : Int := cnd (bgE z l != 0) (bgE z l) (cnd (!(wkW M z w l).ok) 23 0)
abbrev V37 := V37a
abbrev d37 := d37a
abbrev ofV37 := ofV37a
def cp37 (v : V37) : Sl := ⟨v.k, v.a, v.b, v.r, v.g, v.s, v.m, 0, 0, 0⟩
noncomputable def lf37 (v : V37) : Tr (Fin th.R) := .leaf (.tup [.int .u64 (wkA v.M (cp37 v) v.w v.l), .int .i64 (wkB v.M (cp37 v) v.w v.l), .int .i64 (wkE v.M (cp37 v) v.w v.l)], [.cells 175 [.ptr 1 0, .int .u64 v.f, .int .i64 v.c], .res v.M], [])
def cb37 (v : V37) : V37b := ⟨v.k, v.a, v.b, v.r, v.g, v.s, v.m, v.w, v.l, v.f, v.c, v.M⟩
def co37 (v : V37) : V37o := ⟨v.k, v.a, v.b, v.r, v.g, v.s, v.m, v.w, v.l, v.f, v.c, v.M⟩
theorem hb37 (l : List (Vl th.R)) : ofV37b l = (ofV37 l).map cb37 := by
  unfold ofV37b ofV37 ofV37a
  split
  · rfl
  · rename_i hn
    first
    | rfl
    | (split
       · exact absurd rfl (hn _ _ _ _ _ _ _ _ _ _ _ _)
       · rfl)
theorem ho37 (l : List (Vl th.R)) : ofV37o l = (ofV37 l).map co37 := by
  unfold ofV37o ofV37 ofV37a
  split
  · rfl
  · rename_i hn
    first
    | rfl
    | (split
       · exact absurd rfl (hn _ _ _ _ _ _ _ _ _ _ _ _)
       · rfl)
theorem sb37 : Sound Try.prog th 37 (fnC d37 ofV37 (fun v => f37b (cb37 v))) := by
  have := s37b
  unfold C37b at this
  rw [fnC_conv (d := d37b) (ofV := ofV37) hb37] at this
  exact this
theorem so37 : Sound Try.prog th 37 (fnC d37 ofV37 (fun v => f37o (co37 v))) := by
  have := s37o
  unfold C37o at this
  rw [fnC_conv (d := d37o) (ofV := ofV37) ho37] at this
  exact this
theorem ra37 : Sound Try.prog th 37 (fnC d37 ofV37 (fun v => .need (lbad v.l = true) (lf37 v))) := fnC_refine s37a fun v h => by
  obtain ⟨h, _⟩ := h
  have e : bgE (cp37 v) v.l = 12 := by unfold bgE; rw [h]; rfl
  refine ⟨⟨h, trivial⟩, ?_, rfl, .refl _, by show 2 ≤ 2; decide⟩
  show SV.tup [.int .u64 (wkA v.M (cp37 v) v.w v.l), .int .i64 (wkB v.M (cp37 v) v.w v.l), .int .i64 (wkE v.M (cp37 v) v.w v.l)] = _
  unfold wkA wkB wkE
  rw [e]
  rfl
theorem rb37 : Sound Try.prog th 37 (fnC d37 ofV37 (fun v => .need (lbad v.l = false ∧ pOk (cp37 v) = false) (lf37 v))) := fnC_refine sb37 fun v h => by
  obtain ⟨⟨h1, h2⟩, _⟩ := h
  have e : bgE (cp37 v) v.l = 20 := by unfold bgE; rw [h1, h2]; rfl
  refine ⟨⟨⟨h1, h2⟩, trivial⟩, ?_, rfl, .refl _, by show 2 ≤ 2; decide⟩
  show SV.tup [.int .u64 (wkA v.M (cp37 v) v.w v.l), .int .i64 (wkB v.M (cp37 v) v.w v.l), .int .i64 (wkE v.M (cp37 v) v.w v.l)] = _
  unfold wkA wkB wkE
  rw [e]
  rfl
theorem ro37 : Sound Try.prog th 37 (fnC d37 ofV37 (fun v => .need (bgE (cp37 v) v.l = 0 ∧ SlR (cp37 v) ∧ MemR v.M) (lf37 v))) := fnC_refine so37 fun v h => by
  obtain ⟨⟨h1, h2, h3⟩, _⟩ := h
  obtain ⟨k1, k2, k3, k4⟩ := bgE_ok h1
  obtain ⟨_, _, _, e2, e3, _, e5, e6⟩ := pOk_spec h2 k2
  have hp : pnOk v.l (pNb (cp37 v)) (pNg (cp37 v)) := by rw [e2, e3]; exact ⟨⟨by omega, k4⟩, e5, e6⟩
  refine ⟨⟨h1, ⟨hp, h3⟩, trivial⟩, ?_, rfl, .refl _, by show 2 ≤ 2; decide⟩
  show SV.tup [.int .u64 (wkA v.M (cp37 v) v.w v.l), .int .i64 (wkB v.M (cp37 v) v.w v.l), .int .i64 (wkE v.M (cp37 v) v.w v.l)] = _
  unfold wkA wkB wkE
  rw [h1]
  rfl
def pre37 (v : V37) : Prop := SlR (cp37 v) ∧ MemR v.M
noncomputable def f37n (v : V37) : Tr (Fin th.R) := .need (pre37 v) (lf37 v)
theorem s37n : Sound Try.prog th 37 (fnC d37 ofV37 f37n) := by
  have h1 : Sound Try.prog th 37 (fnC d37 ofV37 (fun v => .need (bgE (cp37 v) v.l ≠ 0) (lf37 v))) := fnC_two ra37 rb37 fun v h => by
    obtain ⟨h, _⟩ := h
    cases hl : lbad v.l with
    | true => exact .inl ⟨⟨rfl, trivial⟩, rfl⟩
    | false =>
      refine .inr ⟨⟨⟨rfl, ?_⟩, trivial⟩, rfl⟩
      cases hp : pOk (cp37 v) with
      | false => rfl
      | true => exact absurd (by unfold bgE; rw [hl, hp]; rfl) h
  exact fnC_two h1 ro37 fun v h => by
    obtain ⟨⟨h2, h3⟩, _⟩ := h
    by_cases h : bgE (cp37 v) v.l = 0
    · exact .inr ⟨⟨⟨h, h2, h3⟩, trivial⟩, rfl⟩
    · exact .inl ⟨⟨h, trivial⟩, rfl⟩
noncomputable def nice37n : List (Nat × CF th.R) := (37, lift (fnC d37 ofV37 f37n)) :: nice112n
theorem nok37n : NiceOk Try.prog th nice37n := ⟨lift_sound s37n, nok112n⟩
end Go.Sx.M

namespace Go.Sx.M
open Go Go.Sx Go.Proofs Go.RowKit
set_option maxRecDepth 100000
structure V40 where
  k : Int
  a : Int
  b : Int
  r : Int
  g : Int
  s : Int
  m : Int
  w : Int
  l : Int
  f : Int
  c : Int
  M : th.R
def A40 (v : V40) : List SV := [.ptr 0 0, .agg [.int .i64 v.k, .int .u64 v.a, .int .i64 v.b, .int .i64 v.r, .int .i64 v.g, .int .i64 v.s, .int .u64 v.m], .int .u64 v.w, .int .i64 v.l]
def H40 (v : V40) : List (HO th.R) := [.cells 175 [.ptr 1 0, .int .u64 v.f, .int .i64 v.c], .res v.M]
def toV40 (v : V40) : List (Vl th.R) := [.i v.k, .i v.a, .i v.b, .i v.r, .i v.g, .i v.s, .i v.m, .i v.w, .i v.l, .i v.f, .i v.c, .r v.M]
def ofV40 : List (Vl th.R) → Option V40
  | [.i k, .i a, .i b, .i r, .i g, .i s, .i m, .i w, .i l, .i f, .i c, .r M] => some ⟨k, a, b, r, g, s, m, w, l, f, c, M⟩
  | _ => none
def d40 : Ft := ⟨[.ptr 0 0, .agg [.int .i64, .int .u64, .int .i64, .int .i64, .int .i64, .int .i64, .int .u64], .int .u64, .int .i64], [.cells 175 [.ptr 1 0, .int .u64, .int .i64], .res]⟩
noncomputable def f40_3 (v : V40) : (V37a) := V37a.mk v.k v.a v.b v.r v.g v.s v.m v.w v.l v.f v.c v.M
noncomputable def f40_4 (v : V40) : (Sl) := cp37 (f40_3 v)
noncomputable def f40_5 (v : V40) : (Int) := wkE v.M (f40_4 v) v.w v.l
noncomputable def f40_0 (v : V40) : (Prop) := pre37 (f40_3 v)
noncomputable def f40_1 (v : V40) : (Int) := cnd (f40_5 v != (0 : Int)) (0 : Int) (cnd (wkB v.M (f40_4 v) v.w v.l != (0 : Int)) (0 : Int) (wkA v.M (f40_4 v) v.w v.l))
noncomputable def f40_2 (v : V40) : (Int) := cnd (f40_5 v != (0 : Int)) (f40_5 v) (cnd (wkB v.M (f40_4 v) v.w v.l != (0 : Int)) (23 : Int) (0 : Int))
noncomputable def ff40 (v : V40) : Tr (Fin th.R) := (Tr.need (f40_0 v) (Tr.leaf (Prod.mk (SV.tup (List.cons (SV.int (IntKind.u64) (f40_1 v)) (List.cons (SV.int (IntKind.i64) (f40_2 v)) []))) (Prod.mk (List.cons (HO.cells ((175 : Nat)) (List.cons (SV.ptr ((1 : Nat)) ((0:Nat))) (List.cons (SV.int (IntKind.u64) (v.f)) (List.cons (SV.int (IntKind.i64) (v.c)) [])))) (List.cons (HO.res (v.M)) [])) []))))
noncomputable def f40 (v : V40) : Tr (Fin th.R) := (Tr.need (f40_0 v) (Tr.leaf (Prod.mk (SV.tup (List.cons (SV.int (IntKind.u64) (f40_1 v)) (List.cons (SV.int (IntKind.i64) (f40_2 v)) []))) (Prod.mk (List.cons (HO.cells ((175 : Nat)) (List.cons (SV.ptr ((1 : Nat)) ((0:Nat))) (List.cons (SV.int (IntKind.u64) (v.f)) (List.cons (SV.int (IntKind.i64) (v.c)) [])))) (List.cons (HO.res (v.M)) [])) ([])))))
noncomputable def C40 : CF th.R := fnC d40 ofV40 (f40 )
theorem q40 (v : V40) : (evFn th Try.prog (auto th Try.prog nice37n [] 20) (autoH [] [] [] [] : Hints th) 40) (A40 v) (H40 v) = some (ff40 v) := by kernel_rfl
theorem qg40 (v : V40) : ((ff40 v).map (setD [])).get = (f40 v).get := by kernel_rfl
theorem qd40 (v : V40) : allD 2 [] (ff40 v) = true := by kernel_rfl
theorem s40 : Sound Try.prog th 40 (C40 ) := fnC_sound (evFn_sound' (T := th) (P := Try.prog) (tbl := (auto th Try.prog nice37n [] 20)) (auto_sound (nice := nice37n) (us := []) nok37n 20) (H := (autoH [] [] [] [] : Hints th)) (k := 40) (fnLoops (LoopsOk_mem (fun _ => rfl) _ fun _ _ _ e => by cases e))) d40 A40 H40 toV40 (by kernel_rfl) (fun v => by kernel_rfl)
  (fun l v h => by
    unfold ofV40 at h
    split at h
    · cases h; rfl
    · cases h)
  [] (fun v => ⟨ff40 v, q40 v, id, qg40 v, qd40 v⟩)
theorem qdd40 (v : V40) : (f40 v).get.2.2 = [] := by
  rw [← qg40, Tr.map_get]; rfl
end Go.Sx.M

namespace Go.Sx.M
open Go Go.Sx Go.Proofs Go.RowKit
set_option maxRecDepth 100000
noncomputable def fdA (M : Mem) (z : Sl) (w l : Int) : Int := cnd (wkE M z w l != 0) 0 (cnd (wkB M z w l != 0) 0 (wkA M z w l))
noncomputable def fdE (M : Mem) (z : Sl) (w l : Int) : Int := cnd (wkE M z w l != 0) (wkE M z w l) (cnd (wkB M z w l != 0) 23 0)
def pre40 (v : V40) : Prop := SlR (Sl.mk v.k v.a v.b v.r v.g v.s v.m 0 0 0) ∧ MemR v.M
theorem n40 (v : V40) (h : pre40 v) : (f40 v).ok ∧ (f40 v).get.1 = .tup [.int .u64 (fdA v.M (Sl.mk v.k v.a v.b v.r v.g v.s v.m 0 0 0) v.w v.l), .int .i64 (fdE v.M (Sl.mk v.k v.a v.b v.r v.g v.s v.m 0 0 0) v.w v.l)] ∧ HOws (f40 v).get.2.1 [HO.cells 175 [.ptr 1 0, .int .u64 (v.f), .int .i64 (v.c)], HO.res v.M] := by
  exact ⟨⟨h, trivial⟩, rfl, .refl _⟩
noncomputable def f40n (v : V40) : Tr (Fin th.R) := .need (pre40 v) (.leaf (.tup [.int .u64 (fdA v.M (Sl.mk v.k v.a v.b v.r v.g v.s v.m 0 0 0) v.w v.l), .int .i64 (fdE v.M (Sl.mk v.k v.a v.b v.r v.g v.s v.m 0 0 0) v.w v.l)], [.cells 175 [.ptr 1 0, .int .u64 (v.f), .int .i64 (v.c)], .res v.M], []))
theorem s40n : Sound Try.prog th 40 (fnC d40 ofV40 f40n) := fnC_refine s40 fun v h => by
  obtain ⟨hp, _⟩ := h
  obtain ⟨a, b, c⟩ := n40 v hp
  exact ⟨a, b.symm, (qdd40 v).symm, c, by show 2 ≤ 2; decide⟩
noncomputable def nice40n : List (Nat × CF th.R) := (40, lift (fnC d40 ofV40 f40n)) :: nice37n
theorem nok40n : NiceOk Try.prog th nice40n := ⟨lift_sound s40n, nok37n⟩
end Go.Sx.M

namespace Go.Sx.M
open Go Go.Sx Go.Proofs Go.RowKit
set_option maxRecDepth 100000
structure V35 where
def A35 (v : V35) : List SV := []
def H35 (v : V35) : List (HO th.R) := []
def toV35 (v : V35) : List (Vl th.R) := []
def ofV35 : List (Vl th.R) → Option V35
  | [] => some ⟨⟩
  | _ => none
def d35 : Ft := ⟨[], []⟩
noncomputable def f35_0 (v : V35) : (Prop) := ∀ (i : Nat), scpL (0:Nat) (rowEl (1 : Nat) (8 : Nat) (setMany (List.map (fun (i : Nat) => [SV.int IntKind.u64 (0 : Int), SV.int IntKind.i64 (0 : Int), SV.int IntKind.u64 (0 : Int), SV.int IntKind.i64 (0 : Int), SV.int IntKind.i64 (0 : Int), SV.int IntKind.i64 (0 : Int), SV.int IntKind.i64 (0 : Int), SV.int IntKind.u64 (0 : Int)].getD (i % (8 : Nat)) Inhabited.default) (List.range (8 : Nat))) (0:Nat) (SV.agg (setMany (setMany [SV.int IntKind.u64 (0 : Int), SV.int IntKind.i64 (0 : Int), SV.int IntKind.u64 (0 : Int), SV.int IntKind.i64 (0 : Int), SV.int IntKind.i64 (0 : Int), SV.int IntKind.i64 (0 : Int), SV.int IntKind.i64 (0 : Int), SV.int IntKind.u64 (0 : Int)] (0:Nat) (SV.int IntKind.u64 (352 : Int)).cells) (1 : Nat) (SV.agg (setMany (setMany (setMany (setMany (setMany [SV.int IntKind.i64 (0 : Int), SV.int IntKind.u64 (0 : Int), SV.int IntKind.i64 (0 : Int), SV.int IntKind.i64 (0 : Int), SV.int IntKind.i64 (0 : Int), SV.int IntKind.i64 (0 : Int), SV.int IntKind.u64 (0 : Int)] (0:Nat) (SV.int IntKind.i64 (2 : Int)).cells) (1 : Nat) (SV.int IntKind.u64 (512 : Int)).cells) (2 : Nat) (SV.int IntKind.i64 (3 : Int)).cells) (4 : Nat) (SV.int IntKind.i64 (1 : Int)).cells) (6 : Nat) (SV.int IntKind.u64 (1 : Int)).cells)).cells)).cells) i) = true
noncomputable def f35_1 (v : V35) : (Prop) := ∀ (i : Nat), i < (1 : Nat) → rowEl (1 : Nat) (8 : Nat) (setMany (List.map (fun (i : Nat) => [SV.int IntKind.u64 (0 : Int), SV.int IntKind.i64 (0 : Int), SV.int IntKind.u64 (0 : Int), SV.int IntKind.i64 (0 : Int), SV.int IntKind.i64 (0 : Int), SV.int IntKind.i64 (0 : Int), SV.int IntKind.i64 (0 : Int), SV.int IntKind.u64 (0 : Int)].getD (i % (8 : Nat)) Inhabited.default) (List.range (8 : Nat))) (0:Nat) (SV.agg (setMany (setMany [SV.int IntKind.u64 (0 : Int), SV.int IntKind.i64 (0 : Int), SV.int IntKind.u64 (0 : Int), SV.int IntKind.i64 (0 : Int), SV.int IntKind.i64 (0 : Int), SV.int IntKind.i64 (0 : Int), SV.int IntKind.i64 (0 : Int), SV.int IntKind.u64 (0 : Int)] (0:Nat) (SV.int IntKind.u64 (352 : Int)).cells) (1 : Nat) (SV.agg (setMany (setMany (setMany (setMany (setMany [SV.int IntKind.i64 (0 : Int), SV.int IntKind.u64 (0 : Int), SV.int IntKind.i64 (0 : Int), SV.int IntKind.i64 (0 : Int), SV.int IntKind.i64 (0 : Int), SV.int IntKind.i64 (0 : Int), SV.int IntKind.u64 (0 : Int)] (0:Nat) (SV.int IntKind.i64 (2 : Int)).cells) (1 : Nat) (SV.int IntKind.u64 (512 : Int)).cells) (2 : Nat) (SV.int IntKind.i64 (3 : Int)).cells) (4 : Nat) (SV.int IntKind.i64 (1 : Int)).cells) (6 : Nat) (SV.int IntKind.u64 (1 : Int)).cells)).cells)).cells) i = elC (rowEl (1 : Nat) (8 : Nat) (setMany (List.map (fun (i : Nat) => [SV.int IntKind.u64 (0 : Int), SV.int IntKind.i64 (0 : Int), SV.int IntKind.u64 (0 : Int), SV.int IntKind.i64 (0 : Int), SV.int IntKind.i64 (0 : Int), SV.int IntKind.i64 (0 : Int), SV.int IntKind.i64 (0 : Int), SV.int IntKind.u64 (0 : Int)].getD (i % (8 : Nat)) Inhabited.default) (List.range (8 : Nat))) (0:Nat) (SV.agg (setMany (setMany [SV.int IntKind.u64 (0 : Int), SV.int IntKind.i64 (0 : Int), SV.int IntKind.u64 (0 : Int), SV.int IntKind.i64 (0 : Int), SV.int IntKind.i64 (0 : Int), SV.int IntKind.i64 (0 : Int), SV.int IntKind.i64 (0 : Int), SV.int IntKind.u64 (0 : Int)] (0:Nat) (SV.int IntKind.u64 (352 : Int)).cells) (1 : Nat) (SV.agg (setMany (setMany (setMany (setMany (setMany [SV.int IntKind.i64 (0 : Int), SV.int IntKind.u64 (0 : Int), SV.int IntKind.i64 (0 : Int), SV.int IntKind.i64 (0 : Int), SV.int IntKind.i64 (0 : Int), SV.int IntKind.i64 (0 : Int), SV.int IntKind.u64 (0 : Int)] (0:Nat) (SV.int IntKind.i64 (2 : Int)).cells) (1 : Nat) (SV.int IntKind.u64 (512 : Int)).cells) (2 : Nat) (SV.int IntKind.i64 (3 : Int)).cells) (4 : Nat) (SV.int IntKind.i64 (1 : Int)).cells) (6 : Nat) (SV.int IntKind.u64 (1 : Int)).cells)).cells)).cells)) (0:Nat) [Ck.int IntKind.u64, Ck.int IntKind.i64, Ck.int IntKind.u64, Ck.int IntKind.i64, Ck.int IntKind.i64, Ck.int IntKind.i64, Ck.int IntKind.i64, Ck.int IntKind.u64] i
noncomputable def f35_2 (v : V35) : (Prop) := pre36r (V36r.mk (1 : Nat) (1 : Nat) (fun (j : Nat) => (352 : Int)) (fun (j : Nat) => (2 : Int)) (fun (j : Nat) => (512 : Int)) (fun (j : Nat) => (3 : Int)) (fun (j : Nat) => (0 : Int)) (fun (j : Nat) => (1 : Int)) (fun (j : Nat) => (0 : Int)) fun (j : Nat) => (1 : Int))
noncomputable def f35_3 (v : V35) : (Prop) := (∀ (i : Nat), scpL (0:Nat) (rowEl (1 : Nat) (8 : Nat) (setMany (List.map (fun (i : Nat) => [SV.int IntKind.u64 (0 : Int), SV.int IntKind.i64 (0 : Int), SV.int IntKind.u64 (0 : Int), SV.int IntKind.i64 (0 : Int), SV.int IntKind.i64 (0 : Int), SV.int IntKind.i64 (0 : Int), SV.int IntKind.i64 (0 : Int), SV.int IntKind.u64 (0 : Int)].getD (i % (8 : Nat)) Inhabited.default) (List.range (8 : Nat))) (0:Nat) (SV.agg (setMany (setMany [SV.int IntKind.u64 (0 : Int), SV.int IntKind.i64 (0 : Int), SV.int IntKind.u64 (0 : Int), SV.int IntKind.i64 (0 : Int), SV.int IntKind.i64 (0 : Int), SV.int IntKind.i64 (0 : Int), SV.int IntKind.i64 (0 : Int), SV.int IntKind.u64 (0 : Int)] (0:Nat) (SV.int IntKind.u64 (352 : Int)).cells) (1 : Nat) (SV.agg (setMany (setMany (setMany (setMany (setMany [SV.int IntKind.i64 (0 : Int), SV.int IntKind.u64 (0 : Int), SV.int IntKind.i64 (0 : Int), SV.int IntKind.i64 (0 : Int), SV.int IntKind.i64 (0 : Int), SV.int IntKind.i64 (0 : Int), SV.int IntKind.u64 (0 : Int)] (0:Nat) (SV.int IntKind.i64 (2 : Int)).cells) (1 : Nat) (SV.int IntKind.u64 (512 : Int)).cells) (2 : Nat) (SV.int IntKind.i64 (3 : Int)).cells) (4 : Nat) (SV.int IntKind.i64 (1 : Int)).cells) (6 : Nat) (SV.int IntKind.u64 (1 : Int)).cells)).cells)).cells) i) = true) ∧ ∀ (i : Nat), scpL (0:Nat) ((fun (j : Nat) => ndC (gN (opS (nds (ndf (fun (j : Nat) => (352 : Int)) (fun (j : Nat) => (2 : Int)) (fun (j : Nat) => (512 : Int)) (fun (j : Nat) => (3 : Int)) (fun (j : Nat) => (0 : Int)) (fun (j : Nat) => (1 : Int)) (fun (j : Nat) => (0 : Int)) (fun (j : Nat) => (1 : Int)) fun (j : Nat) => (0 : Int)) (1 : Nat))).snd j)) i) = true
noncomputable def f35_4 (v : V35) : (Prop) := false = false → pre40 (V40.mk (2 : Int) (256 : Int) (2 : Int) (0 : Int) (62 : Int) (0 : Int) (0 : Int) (3 : Int) (64 : Int) (352 : Int) (1 : Int) (opS (nds (ndf (fun (j : Nat) => (352 : Int)) (fun (j : Nat) => (2 : Int)) (fun (j : Nat) => (512 : Int)) (fun (j : Nat) => (3 : Int)) (fun (j : Nat) => (0 : Int)) (fun (j : Nat) => (1 : Int)) (fun (j : Nat) => (0 : Int)) (fun (j : Nat) => (1 : Int)) fun (j : Nat) => (0 : Int)) (1 : Nat))).fst.M)
noncomputable def f35_5 (v : V35) : (Prop) := false = false → pre40 (V40.mk (2 : Int) (256 : Int) (2 : Int) (0 : Int) (62 : Int) (0 : Int) (0 : Int) (3 : Int) (62 : Int) (352 : Int) (1 : Int) (opS (nds (ndf (fun (j : Nat) => (352 : Int)) (fun (j : Nat) => (2 : Int)) (fun (j : Nat) => (512 : Int)) (fun (j : Nat) => (3 : Int)) (fun (j : Nat) => (0 : Int)) (fun (j : Nat) => (1 : Int)) (fun (j : Nat) => (0 : Int)) (fun (j : Nat) => (1 : Int)) fun (j : Nat) => (0 : Int)) (1 : Nat))).fst.M)
noncomputable def f35_6 (v : V35) : (Prop) := false = false → pre37 (V37a.mk (2 : Int) (256 : Int) (2 : Int) (0 : Int) (0 : Int) (0 : Int) (0 : Int) (61 : Int) (6 : Int) (352 : Int) (1 : Int) (opS (nds (ndf (fun (j : Nat) => (352 : Int)) (fun (j : Nat) => (2 : Int)) (fun (j : Nat) => (512 : Int)) (fun (j : Nat) => (3 : Int)) (fun (j : Nat) => (0 : Int)) (fun (j : Nat) => (1 : Int)) (fun (j : Nat) => (0 : Int)) (fun (j : Nat) => (1 : Int)) fun (j : Nat) => (0 : Int)) (1 : Nat))).fst.M)
theorem n_f35_0 (v : V35) : f35_0 v := by
  unfold f35_0
  first
    | (intros; rfl)
    | (intro i; rfl)
    | (intro i _; rfl)
    | (intro _ i; rfl)
    | (intro _ i _; rfl)
    | (refine ⟨?_, ?_⟩ <;> intro i <;> rfl)
    | (refine ⟨?_, ?_, ?_⟩ <;> intro i <;> rfl)
    | (refine ⟨?_, ?_⟩ <;> intro i _ <;> rfl)
    | (repeat' apply And.intro) <;> first | (intro i; rfl) | (intro i _; rfl) | (intro i h; exact absurd h (Nat.not_lt_zero i)) | (intro i; exact scpL_rowSet (by rfl) (by rfl)) | (intro i; exact scpL_rowEl (by kernel_rfl) _)
    | (intros; (repeat' apply And.intro) <;> intros <;> first | rfl | (exact absurd (by assumption) (Nat.not_lt_zero _)))
    | omega
    | decide
theorem n_f35_1 (v : V35) : f35_1 v := by
  unfold f35_1
  first
    | (intros; rfl)
    | (intro i; rfl)
    | (intro i _; rfl)
    | (intro _ i; rfl)
    | (intro _ i _; rfl)
    | (refine ⟨?_, ?_⟩ <;> intro i <;> rfl)
    | (refine ⟨?_, ?_, ?_⟩ <;> intro i <;> rfl)
    | (refine ⟨?_, ?_⟩ <;> intro i _ <;> rfl)
    | (repeat' apply And.intro) <;> first | (intro i; rfl) | (intro i _; rfl) | (intro i h; exact absurd h (Nat.not_lt_zero i)) | (intro i; exact scpL_rowSet (by rfl) (by rfl)) | (intro i; exact scpL_rowEl (by kernel_rfl) _)
    | (intros; (repeat' apply And.intro) <;> intros <;> first | rfl | (exact absurd (by assumption) (Nat.not_lt_zero _)))
    | omega
    | decide
theorem n_f35_3 (v : V35) : f35_3 v := by
  unfold f35_3
  first
    | (intros; rfl)
    | (intro i; rfl)
    | (intro i _; rfl)
    | (intro _ i; rfl)
    | (intro _ i _; rfl)
    | (refine ⟨?_, ?_⟩ <;> intro i <;> rfl)
    | (refine ⟨?_, ?_, ?_⟩ <;> intro i <;> rfl)
    | (refine ⟨?_, ?_⟩ <;> intro i _ <;> rfl)
    | (repeat' apply And.intro) <;> first | (intro i; rfl) | (intro i _; rfl) | (intro i h; exact absurd h (Nat.not_lt_zero i)) | (intro i; exact scpL_rowSet (by rfl) (by rfl)) | (intro i; exact scpL_rowEl (by kernel_rfl) _)
    | (intros; (repeat' apply And.intro) <;> intros <;> first | rfl | (exact absurd (by assumption) (Nat.not_lt_zero _)))
    | omega
    | decide
noncomputable def ff35 (v : V35) : Tr (Fin th.R) := (Tr.need (f35_0 v) (Tr.need (f35_1 v) (Tr.need (f35_2 v) (Tr.need (f35_3 v) (Tr.need (f35_4 v) (Tr.need (f35_5 v) (Tr.need (f35_6 v) (Tr.leaf (Prod.mk (SV.bool (true)) (Prod.mk [] []))))))))))
noncomputable def f35 (v : V35) : Tr (Fin th.R) := (Tr.need (f35_2 v) (Tr.need (f35_4 v) (Tr.need (f35_5 v) (Tr.need (f35_6 v) (Tr.leaf (Prod.mk (SV.bool (true)) (Prod.mk [] ([]))))))))
noncomputable def C35 : CF th.R := fnC d35 ofV35 (f35 )
theorem q35 (v : V35) : (evFn th Try.prog (auto th Try.prog nice40n [] 20) (autoH [] [] [] [] : Hints th) 35) (A35 v) (H35 v) = some (ff35 v) := by kernel_rfl
theorem qg35 (v : V35) : ((ff35 v).map (setD [])).get = (f35 v).get := by kernel_rfl
theorem qd35 (v : V35) : allD 0 [] (ff35 v) = true := by kernel_rfl
theorem s35 : Sound Try.prog th 35 (C35 ) := fnC_sound (evFn_sound' (T := th) (P := Try.prog) (tbl := (auto th Try.prog nice40n [] 20)) (auto_sound (nice := nice40n) (us := []) nok40n 20) (H := (autoH [] [] [] [] : Hints th)) (k := 35) (fnLoops (LoopsOk_mem (fun _ => rfl) _ fun _ _ _ e => by cases e))) d35 A35 H35 toV35 (by kernel_rfl) (fun v => by kernel_rfl)
  (fun l v h => by
    unfold ofV35 at h
    split at h
    · cases h; rfl
    · cases h)
  [] (fun v => ⟨ff35 v, q35 v, fun h => by
    unfold f35 at h; unfold ff35
    simp only [Tr.ok, n_f35_0, n_f35_1, n_f35_3, true_and, and_true, forall_const, implies_true] at h ⊢
    try exact h, qg35 v, qd35 v⟩)
theorem qdd35 (v : V35) : (f35 v).get.2.2 = [] := by
  rw [← qg35, Tr.map_get]; rfl
end Go.Sx.M

namespace Go.Sx.M
open Go Go.Sx Go.Proofs Go.RowKit
set_option maxRecDepth 100000
def pre35 (v : V35) : Prop := True
theorem n35 (v : V35) (h : pre35 v) : (f35 v).ok ∧ (f35 v).get.1 = .bool true ∧ HOws (f35 v).get.2.1 [] := by
  have h0 : ∀ j, j < 1 → U64 352 ∧ SlR (slN (ndf (fun _ => 352) (fun _ => 2) (fun _ => 512) (fun _ => 3) (fun _ => 0) (fun _ => 1) (fun _ => 0) (fun _ => 1) (fun _ => 0) j)) := by
    intro j hj
    obtain rfl : j = 0 := by omega
    (repeat' first | intro _ | apply And.intro | apply SlR.mk) <;> first | trivial | decide
  have g0 := (opS_R (ndf (fun _ => 352) (fun _ => 2) (fun _ => 512) (fun _ => 3) (fun _ => 0) (fun _ => 1) (fun _ => 0) (fun _ => 1) (fun _ => 0)) 1 h0).1
  have c1 : SlR ⟨2, 256, 2, 0, 62, 0, 0, 0, 0, 0⟩ := by (repeat' first | apply SlR.mk | apply And.intro) <;> decide
  have c2 : SlR ⟨2, 256, 2, 0, 0, 0, 0, 0, 0, 0⟩ := by (repeat' first | apply SlR.mk | apply And.intro) <;> decide
  exact ⟨⟨⟨⟨rfl, by decide⟩, h0⟩, fun _ => ⟨c1, g0⟩, fun _ => ⟨c1, g0⟩, fun _ => ⟨c2, g0⟩, trivial⟩, rfl, .refl _⟩
noncomputable def f35n (v : V35) : Tr (Fin th.R) := .need (pre35 v) (.leaf (.bool true, [], []))
theorem s35n : Sound Try.prog th 35 (fnC d35 ofV35 f35n) := fnC_refine s35 fun v h => by
  obtain ⟨hp, _⟩ := h
  obtain ⟨a, b, c⟩ := n35 v hp
  exact ⟨a, b.symm, (qdd35 v).symm, c, by show 0 ≤ 0; decide⟩
noncomputable def nice35n : List (Nat × CF th.R) := (35, lift (fnC d35 ofV35 f35n)) :: nice40n
theorem nok35n : NiceOk Try.prog th nice35n := ⟨lift_sound s35n, nok40n⟩
end Go.Sx.M

namespace Go.Sx.M
open Go Go.Sx Go.Proofs Go.RowKit
set_option maxRecDepth 100000
structure V36z where
def A36z (v : V36z) : List SV := [.nils]
def H36z (v : V36z) : List (HO th.R) := []
def toV36z (v : V36z) : List (Vl th.R) := []
def ofV36z : List (Vl th.R) → Option V36z
  | [] => some ⟨⟩
  | _ => none
def d36z : Ft := ⟨[.nils], []⟩
theorem ok36z : LoopsOk th Try.prog (autoH [] [(7, 2)] [27] [] : Hints th) (bodyOf Try.prog 36) := autoH_ok (bs := [lpAt Try.prog 36 0]) (by kernel_rfl) fun b hb L hL => by
  simp only [List.mem_cons, List.not_mem_nil, or_false] at hb
  rcases hb with rfl
  · have e : lookL [] (firstReg (lpAt Try.prog 36 0)) = (none : Option (St th.R → Out th)) := by kernel_rfl
    rw [e] at hL; cases hL
noncomputable def f36z_0 (v : V36z) : (Mem) := newM (65536 : Int)
noncomputable def ff36z (v : V36z) : Tr (Fin th.R) := (Tr.ite (false) (Tr.leaf (Prod.mk (SV.tup (List.cons (SV.nilp) (List.cons (SV.agg (List.cons (SV.int (IntKind.u64) ((65536 : Int))) (List.cons (SV.nils) []))) []))) (Prod.mk [] []))) (Tr.leaf (Prod.mk (SV.tup (List.cons (SV.ptr (3) ((0:Nat))) (List.cons (SV.agg (List.cons (SV.int (IntKind.u64) ((65536 : Int))) (List.cons (SV.nils) []))) []))) (Prod.mk (List.cons (HO.cells ((55 : Nat)) (List.cons (SV.int (IntKind.u64) ((65536 : Int))) (List.cons (SV.nils) []))) (List.cons (HO.res (f36z_0 v)) (List.cons (HO.cells ((55 : Nat)) (List.cons (SV.int (IntKind.u64) ((65536 : Int))) (List.cons (SV.nils) []))) (List.cons (HO.cells ((175 : Nat)) (List.cons (SV.ptr (1) ((0:Nat))) (List.cons (SV.int (IntKind.u64) ((0 : Int))) (List.cons (SV.int (IntKind.i64) ((0 : Int))) [])))) [])))) (List.cons (0) (List.cons (2) []))))))
noncomputable def f36z (v : V36z) : Tr (Fin th.R) := (Tr.ite (false) (Tr.leaf (Prod.mk (SV.tup (List.cons (SV.nilp) (List.cons (SV.agg (List.cons (SV.int (IntKind.u64) ((65536 : Int))) (List.cons (SV.nils) []))) []))) (Prod.mk [] ([])))) (Tr.leaf (Prod.mk (SV.tup (List.cons (SV.ptr (3) ((0:Nat))) (List.cons (SV.agg (List.cons (SV.int (IntKind.u64) ((65536 : Int))) (List.cons (SV.nils) []))) []))) (Prod.mk (List.cons (HO.cells ((55 : Nat)) (List.cons (SV.int (IntKind.u64) ((65536 : Int))) (List.cons (SV.nils) []))) (List.cons (HO.res (f36z_0 v)) (List.cons (HO.cells ((55 : Nat)) (List.cons (SV.int (IntKind.u64) ((65536 : Int))) (List.cons (SV.nils) []))) (List.cons (HO.cells ((175 : Nat)) (List.cons (SV.ptr (1) ((0:Nat))) (List.cons (SV.int (IntKind.u64) ((0 : Int))) (List.cons (SV.int (IntKind.i64) ((0 : Int))) [])))) [])))) ([])))))
noncomputable def C36z : CF th.R := fnC d36z ofV36z (f36z )
theorem q36z (v : V36z) : (evFn th Try.prog (auto th Try.prog nice35n [] 20) (autoH [] [(7, 2)] [27] [] : Hints th) 36) (A36z v) (H36z v) = some (ff36z v) := by kernel_rfl
theorem qg36z (v : V36z) : ((ff36z v).map (setD [])).get = (f36z v).get := by kernel_rfl
theorem qd36z (v : V36z) : allD 0 [] (ff36z v) = true := by kernel_rfl
theorem s36z : Sound Try.prog th 36 (C36z ) := fnC_sound (evFn_sound' (T := th) (P := Try.prog) (tbl := (auto th Try.prog nice35n [] 20)) (auto_sound (nice := nice35n) (us := []) nok35n 20) (H := (autoH [] [(7, 2)] [27] [] : Hints th)) (k := 36) (fnLoops ok36z)) d36z A36z H36z toV36z (by kernel_rfl) (fun v => by kernel_rfl)
  (fun l v h => by
    unfold ofV36z at h
    split at h
    · cases h; rfl
    · cases h)
  [] (fun v => ⟨ff36z v, q36z v, id, qg36z v, qd36z v⟩)
theorem qdd36z (v : V36z) : (f36z v).get.2.2 = [] := by
  rw [← qg36z, Tr.map_get]; rfl
end Go.Sx.M

namespace Go.Sx.M
open Go Go.Sx Go.Proofs Go.RowKit
set_option maxRecDepth 100000
def pre36z (v : V36z) : Prop := True
theorem n36z (v : V36z) (h : pre36z v) : (f36z v).ok ∧ (f36z v).get.1 = .tup [.ptr 3 0, .agg [.int .u64 65536, .nils]] ∧ HOws (f36z v).get.2.1 [HO.gone, HO.res op0.1.M, HO.gone, HO.cells 175 [.ptr 1 0, .int .u64 0, .int .i64 0]] := by
  refine ⟨⟨(fun e => by cases e), fun _ => trivial⟩, rfl, ?_⟩
  exact .cons (.inr (.inl rfl)) (.cons (.inl rfl) (.cons (.inr (.inl rfl)) (.cons (.inl rfl) .nil)))
noncomputable def f36zn (v : V36z) : Tr (Fin th.R) := .need (pre36z v) (.leaf (.tup [.ptr 3 0, .agg [.int .u64 65536, .nils]], [.gone, .res op0.1.M, .gone, .cells 175 [.ptr 1 0, .int .u64 0, .int .i64 0]], []))
theorem s36zn : Sound Try.prog th 36 (fnC d36z ofV36z f36zn) := fnC_refine s36z fun v h => by
  obtain ⟨hp, _⟩ := h
  obtain ⟨a, b, c⟩ := n36z v hp
  exact ⟨a, b.symm, (qdd36z v).symm, c, by show 0 ≤ 4; decide⟩
noncomputable def D36z : CF th.R := fnC d36z ofV36z f36zn
noncomputable def nice36zn : List (Nat × CF th.R) := (36, lift (orC (orC D36 D36r) D36z)) :: nice35n
theorem nok36zn : NiceOk Try.prog th nice36zn := ⟨lift_sound (orC_sound (orC_sound s36n s36rn) s36zn), nok35n⟩
end Go.Sx.M

namespace Go.Sx.M
open Go Go.Sx Go.Proofs Go.RowKit
set_option maxRecDepth 100000
structure V51 where
  k : Int
  a : Int
  b : Int
  r : Int
  g : Int
  s : Int
  m : Int
  n : Int
def A51 (v : V51) : List SV := [.agg [.int .i64 v.k, .int .u64 v.a, .int .i64 v.b, .int .i64 v.r, .int .i64 v.g, .int .i64 v.s, .int .u64 v.m], .int .i64 v.n]
def H51 (v : V51) : List (HO th.R) := []
def toV51 (v : V51) : List (Vl th.R) := [.i v.k, .i v.a, .i v.b, .i v.r, .i v.g, .i v.s, .i v.m, .i v.n]
def ofV51 : List (Vl th.R) → Option V51
  | [.i k, .i a, .i b, .i r, .i g, .i s, .i m, .i n] => some ⟨k, a, b, r, g, s, m, n⟩
  | _ => none
def d51 : Ft := ⟨[.agg [.int .i64, .int .u64, .int .i64, .int .i64, .int .i64, .int .i64, .int .u64], .int .i64], []⟩
noncomputable def f51_3 (v : V51) : (Sl) := Sl.mk v.k v.a v.b v.r v.g v.s v.m (0 : Int) (0 : Int) (0 : Int)
noncomputable def f51_4 (v : V51) : (Int) := f129_1 v.k v.a v.b v.r v.g v.s v.m
noncomputable def f51_0 (v : V51) : (Prop) := pre124 (V124.mk v.k v.a v.b v.r v.g v.s v.m)
noncomputable def f51_1 (v : V51) : (Int) := cnd (!pOk (f51_3 v)) (0 : Int) (cnd (cnd (decide (v.n < (0 : Int))) true (decide (v.n ≥ f51_4 v))) (0 : Int) (IntKind.u64.wrap (pNa (f51_3 v) + IntKind.u64.wrap (IntKind.u64.wrap v.n * (32 : Int)))))
noncomputable def f51_2 (v : V51) : (Int) := cnd (!pOk (f51_3 v)) (20 : Int) (cnd (cnd (decide (v.n < (0 : Int))) true (decide (v.n ≥ f51_4 v))) (12 : Int) (0 : Int))
noncomputable def ff51 (v : V51) : Tr (Fin th.R) := (Tr.need (f51_0 v) (Tr.leaf (Prod.mk (SV.tup (List.cons (SV.int (IntKind.u64) (f51_1 v)) (List.cons (SV.int (IntKind.i64) (f51_2 v)) []))) (Prod.mk [] []))))
noncomputable def f51 (v : V51) : Tr (Fin th.R) := (Tr.need (f51_0 v) (Tr.leaf (Prod.mk (SV.tup (List.cons (SV.int (IntKind.u64) (f51_1 v)) (List.cons (SV.int (IntKind.i64) (f51_2 v)) []))) (Prod.mk [] ([])))))
noncomputable def C51 : CF th.R := fnC d51 ofV51 (f51 )
theorem q51 (v : V51) : (evFn th Try.prog (auto th Try.prog nice36zn [] 20) (autoH [] [] [] [] : Hints th) 51) (A51 v) (H51 v) = some (ff51 v) := by kernel_rfl
theorem qg51 (v : V51) : ((ff51 v).map (setD [])).get = (f51 v).get := by kernel_rfl
theorem qd51 (v : V51) : allD 0 [] (ff51 v) = true := by kernel_rfl
theorem s51 : Sound Try.prog th 51 (C51 ) := fnC_sound (evFn_sound' (T := th) (P := Try.prog) (tbl := (auto th Try.prog nice36zn [] 20)) (auto_sound (nice := nice36zn) (us := []) nok36zn 20) (H := (autoH [] [] [] [] : Hints th)) (k := 51) (fnLoops (LoopsOk_mem (fun _ => rfl) _ fun _ _ _ e => by cases e))) d51 A51 H51 toV51 (by kernel_rfl) (fun v => by kernel_rfl)
  (fun l v h => by
    unfold ofV51 at h
    split at h
    · cases h; rfl
    · cases h)
  [] (fun v => ⟨ff51 v, q51 v, id, qg51 v, qd51 v⟩)
theorem qdd51 (v : V51) : (f51 v).get.2.2 = [] := by
  rw [← qg51, Tr.map_get]; rfl
noncomputable def nice51 : List (Nat × CF th.R) := (51, lift C51) :: nice36zn
theorem nok51 : NiceOk Try.prog th nice51 := ⟨lift_sound s51, nok36zn⟩
end Go.Sx.M

namespace Go.Sx.M
open Go Go.Sx Go.Proofs Go.RowKit
set_option maxRecDepth 100000
structure V49 where
  k : Int
  a : Int
  b : Int
  r : Int
  g : Int
  s : Int
  m : Int
  at_ : Int
def A49 (v : V49) : List SV := [.agg [.int .i64 v.k, .int .u64 v.a, .int .i64 v.b, .int .i64 v.r, .int .i64 v.g, .int .i64 v.s, .int .u64 v.m], .int .u64 v.at_]
def H49 (v : V49) : List (HO th.R) := []
def toV49 (v : V49) : List (Vl th.R) := [.i v.k, .i v.a, .i v.b, .i v.r, .i v.g, .i v.s, .i v.m, .i v.at_]
def ofV49 : List (Vl th.R) → Option V49
  | [.i k, .i a, .i b, .i r, .i g, .i s, .i m, .i at_] => some ⟨k, a, b, r, g, s, m, at_⟩
  | _ => none
def d49 : Ft := ⟨[.agg [.int .i64, .int .u64, .int .i64, .int .i64, .int .i64, .int .i64, .int .u64], .int .u64], []⟩
noncomputable def f49_5 (v : V49) : (Sl) := Sl.mk v.k v.a v.b v.r v.g v.s v.m (0 : Int) (0 : Int) (0 : Int)
noncomputable def f49_6 (v : V49) : (Bool) := !pOk (f49_5 v)
noncomputable def f49_7 (v : V49) : (Int) := pNa (f49_5 v)
noncomputable def f49_8 (v : V49) : (Int) := f126_0 v.k v.a v.b v.r v.g v.s v.m
noncomputable def f49_9 (v : V49) : (Bool) := cnd (decide (v.at_ < f49_7 v)) true (decide (v.at_ ≥ f49_8 v))
noncomputable def f49_10 (v : V49) : (Int) := pNb (f49_5 v)
noncomputable def f49_0 (v : V49) : (Prop) := pre124 (V124.mk v.k v.a v.b v.r v.g v.s v.m)
noncomputable def f49_1 (v : V49) : (Prop) := f49_6 v = false → (!f125_0 v.at_ (5 : Int)) = false → f49_9 v = false → (true = true → (0 : Int) ≤ f49_10 v) ∧ (true = true → (32 : Int) ≠ (0 : Int))
noncomputable def f49_2 (v : V49) : (Int) := cnd (f49_6 v) (0 : Int) (cnd (!f125_0 v.at_ (5 : Int)) (0 : Int) (cnd (f49_9 v) (0 : Int) (Go.bits Go.BinOp.or IntKind.u64 (IntKind.u64.wrap (pNm (f49_5 v) * (2 : Int) ^ Min.min (f49_10 v).toNat (64 : Nat))) (IntKind.u64.wrap ((IntKind.u64.wrap (v.at_ - f49_7 v)).tdiv (32 : Int))))))
noncomputable def f49_3 (v : V49) : (Int) := cnd (f49_6 v) (0 : Int) (cnd (!f125_0 v.at_ (5 : Int)) (0 : Int) (cnd (f49_9 v) (0 : Int) (IntKind.i64.wrap (pNg (f49_5 v) + f49_10 v))))
noncomputable def f49_4 (v : V49) : (Int) := cnd (f49_6 v) (20 : Int) (cnd (!f125_0 v.at_ (5 : Int)) (13 : Int) (cnd (f49_9 v) (12 : Int) (0 : Int)))
noncomputable def ff49 (v : V49) : Tr (Fin th.R) := (Tr.need (f49_0 v) (Tr.need (f49_1 v) (Tr.leaf (Prod.mk (SV.tup (List.cons (SV.int (IntKind.u64) (f49_2 v)) (List.cons (SV.int (IntKind.i64) (f49_3 v)) (List.cons (SV.int (IntKind.i64) (f49_4 v)) [])))) (Prod.mk [] [])))))
noncomputable def f49 (v : V49) : Tr (Fin th.R) := (Tr.need (f49_0 v) (Tr.need (f49_1 v) (Tr.leaf (Prod.mk (SV.tup (List.cons (SV.int (IntKind.u64) (f49_2 v)) (List.cons (SV.int (IntKind.i64) (f49_3 v)) (List.cons (SV.int (IntKind.i64) (f49_4 v)) [])))) (Prod.mk [] ([]))))))
noncomputable def C49 : CF th.R := fnC d49 ofV49 (f49 )
theorem q49 (v : V49) : (evFn th Try.prog (auto th Try.prog nice51 [] 20) (autoH [] [] [] [] : Hints th) 49) (A49 v) (H49 v) = some (ff49 v) := by kernel_rfl
theorem qg49 (v : V49) : ((ff49 v).map (setD [])).get = (f49 v).get := by kernel_rfl
theorem qd49 (v : V49) : allD 0 [] (ff49 v) = true := by kernel_rfl
theorem s49 : Sound Try.prog th 49 (C49 ) := fnC_sound (evFn_sound' (T := th) (P := Try.prog) (tbl := (auto th Try.prog nice51 [] 20)) (auto_sound (nice := nice51) (us := []) nok51 20) (H := (autoH [] [] [] [] : Hints th)) (k := 49) (fnLoops (LoopsOk_mem (fun _ => rfl) _ fun _ _ _ e => by cases e))) d49 A49 H49 toV49 (by kernel_rfl) (fun v => by kernel_rfl)
  (fun l v h => by
    unfold ofV49 at h
    split at h
    · cases h; rfl
    · cases h)
  [] (fun v => ⟨ff49 v, q49 v, id, qg49 v, qd49 v⟩)
theorem qdd49 (v : V49) : (f49 v).get.2.2 = [] := by
  rw [← qg49, Tr.map_get]; rfl
noncomputable def nice49 : List (Nat × CF th.R) := (49, lift C49) :: nice51
theorem nok49 : NiceOk Try.prog th nice49 := ⟨lift_sound s49, nok51⟩
end Go.Sx.M

namespace Go.Sx.M
open Go Go.Sx Go.Proofs Go.RowKit
set_option maxRecDepth 100000
structure V77 where
  k : Int
  a : Int
  b : Int
  r : Int
  g : Int
  s : Int
  m : Int
  at_ : Int
  kq : Int
  aq : Int
  bq : Int
  rq : Int
  gq : Int
  sq : Int
  mq : Int
  x : Int
def A77 (v : V77) : List SV := [.agg [.int .i64 v.k, .int .u64 v.a, .int .i64 v.b, .int .i64 v.r, .int .i64 v.g, .int .i64 v.s, .int .u64 v.m], .int .u64 v.at_, .agg [.int .i64 v.kq, .int .u64 v.aq, .int .i64 v.bq, .int .i64 v.rq, .int .i64 v.gq, .int .i64 v.sq, .int .u64 v.mq], .int .u64 v.x]
def H77 (v : V77) : List (HO th.R) := []
def toV77 (v : V77) : List (Vl th.R) := [.i v.k, .i v.a, .i v.b, .i v.r, .i v.g, .i v.s, .i v.m, .i v.at_, .i v.kq, .i v.aq, .i v.bq, .i v.rq, .i v.gq, .i v.sq, .i v.mq, .i v.x]
def ofV77 : List (Vl th.R) → Option V77
  | [.i k, .i a, .i b, .i r, .i g, .i s, .i m, .i at_, .i kq, .i aq, .i bq, .i rq, .i gq, .i sq, .i mq, .i x] => some ⟨k, a, b, r, g, s, m, at_, kq, aq, bq, rq, gq, sq, mq, x⟩
  | _ => none
def d77 : Ft := ⟨[.agg [.int .i64, .int .u64, .int .i64, .int .i64, .int .i64, .int .i64, .int .u64], .int .u64, .agg [.int .i64, .int .u64, .int .i64, .int .i64, .int .i64, .int .i64, .int .u64], .int .u64], []⟩
noncomputable def f77_8 (v : V77) : (V49) := V49.mk v.k v.a v.b v.r v.g v.s v.m v.at_
noncomputable def f77_9 (v : V77) : (Int) := f49_4 (f77_8 v)
noncomputable def f77_10 (v : V77) : (Bool) := f77_9 v != (0 : Int)
noncomputable def f77_11 (v : V77) : (V49) := V49.mk v.kq v.aq v.bq v.rq v.gq v.sq v.mq v.x
noncomputable def f77_12 (v : V77) : (Int) := f49_4 (f77_11 v)
noncomputable def f77_13 (v : V77) : (Bool) := f77_12 v != (0 : Int)
noncomputable def f77_14 (v : V77) : (Int) := f49_3 (f77_11 v)
noncomputable def f77_15 (v : V77) : (Int) := IntKind.i64.wrap (f49_3 (f77_8 v) + f77_14 v)
noncomputable def f77_16 (v : V77) : (Bool) := decide (f77_15 v > (64 : Int))
noncomputable def f77_0 (v : V77) : (Prop) := f49_0 (f77_8 v)
noncomputable def f77_1 (v : V77) : (Prop) := f49_1 (f77_8 v)
noncomputable def f77_2 (v : V77) : (Prop) := f77_10 v = false → f49_0 (f77_11 v)
noncomputable def f77_3 (v : V77) : (Prop) := f77_10 v = false → f49_1 (f77_11 v)
noncomputable def f77_4 (v : V77) : (Prop) := f77_10 v = false → f77_13 v = false → f77_16 v = false → (0 : Int) ≤ f77_14 v
noncomputable def f77_5 (v : V77) : (Int) := cnd (f77_10 v) (0 : Int) (cnd (f77_13 v) (0 : Int) (cnd (f77_16 v) (0 : Int) (Go.bits Go.BinOp.or IntKind.u64 (IntKind.u64.wrap (f49_2 (f77_8 v) * (2 : Int) ^ Min.min (f77_14 v).toNat (64 : Nat))) (f49_2 (f77_11 v)))))
noncomputable def f77_6 (v : V77) : (Int) := cnd (f77_10 v) (0 : Int) (cnd (f77_13 v) (0 : Int) (cnd (f77_16 v) (0 : Int) (f77_15 v)))
noncomputable def f77_7 (v : V77) : (Int) := cnd (f77_10 v) (f77_9 v) (cnd (f77_13 v) (f77_12 v) (cnd (f77_16 v) (11 : Int) (0 : Int)))
noncomputable def ff77 (v : V77) : Tr (Fin th.R) := (Tr.need (f77_0 v) (Tr.need (f77_1 v) (Tr.need (f77_2 v) (Tr.need (f77_3 v) (Tr.need (f77_4 v) (Tr.leaf (Prod.mk (SV.tup (List.cons (SV.int (IntKind.u64) (f77_5 v)) (List.cons (SV.int (IntKind.i64) (f77_6 v)) (List.cons (SV.int (IntKind.i64) (f77_7 v)) [])))) (Prod.mk [] []))))))))
noncomputable def f77 (v : V77) : Tr (Fin th.R) := (Tr.need (f77_0 v) (Tr.need (f77_1 v) (Tr.need (f77_2 v) (Tr.need (f77_3 v) (Tr.need (f77_4 v) (Tr.leaf (Prod.mk (SV.tup (List.cons (SV.int (IntKind.u64) (f77_5 v)) (List.cons (SV.int (IntKind.i64) (f77_6 v)) (List.cons (SV.int (IntKind.i64) (f77_7 v)) [])))) (Prod.mk [] ([])))))))))
noncomputable def C77 : CF th.R := fnC d77 ofV77 (f77 )
theorem q77 (v : V77) : (evFn th Try.prog (auto th Try.prog nice49 [] 20) (autoH [] [] [] [] : Hints th) 77) (A77 v) (H77 v) = some (ff77 v) := by kernel_rfl
theorem qg77 (v : V77) : ((ff77 v).map (setD [])).get = (f77 v).get := by kernel_rfl
theorem qd77 (v : V77) : allD 0 [] (ff77 v) = true := by kernel_rfl
theorem s77 : Sound Try.prog th 77 (C77 ) := fnC_sound (evFn_sound' (T := th) (P := Try.prog) (tbl := (auto th Try.prog nice49 [] 20)) (auto_sound (nice := nice49) (us := []) nok49 20) (H := (autoH [] [] [] [] : Hints th)) (k := 77) (fnLoops (LoopsOk_mem (fun _ => rfl) _ fun _ _ _ e => by cases e))) d77 A77 H77 toV77 (by kernel_rfl) (fun v => by kernel_rfl)
  (fun l v h => by
    unfold ofV77 at h
    split at h
    · cases h; rfl
    · cases h)
  [] (fun v => ⟨ff77 v, q77 v, id, qg77 v, qd77 v⟩)
theorem qdd77 (v : V77) : (f77 v).get.2.2 = [] := by
  rw [← qg77, Tr.map_get]; rfl
noncomputable def nice77 : List (Nat × CF th.R) := (77, lift C77) :: nice49
theorem nok77 : NiceOk Try.prog th nice77 := ⟨lift_sound s77, nok49⟩
end Go.Sx.M

namespace Go.Sx.M
open Go Go.Sx Go.Proofs Go.RowKit
set_option maxRecDepth 100000
structure V9 where
  k : Int
  a : Int
  b : Int
  r : Int
  g : Int
  s : Int
  m : Int
  x : Int
def A9 (v : V9) : List SV := [.agg [.int .i64 v.k, .int .u64 v.a, .int .i64 v.b, .int .i64 v.r, .int .i64 v.g, .int .i64 v.s, .int .u64 v.m], .int .u64 v.x]
def H9 (v : V9) : List (HO th.R) := []
def toV9 (v : V9) : List (Vl th.R) := [.i v.k, .i v.a, .i v.b, .i v.r, .i v.g, .i v.s, .i v.m, .i v.x]
def ofV9 : List (Vl th.R) → Option V9
  | [.i k, .i a, .i b, .i r, .i g, .i s, .i m, .i x] => some ⟨k, a, b, r, g, s, m, x⟩
  | _ => none
def d9 : Ft := ⟨[.agg [.int .i64, .int .u64, .int .i64, .int .i64, .int .i64, .int .i64, .int .u64], .int .u64], []⟩
noncomputable def f9_8 (v : V9) : (V49) := V49.mk v.k v.a v.b v.r v.g v.s v.m v.x
noncomputable def f9_9 (v : V9) : (Bool) := cnd (v.k != (2 : Int)) true !f50_2 v.k v.a v.b v.r v.g v.s v.m
noncomputable def f9_10 (v : V9) : (Bool) := v.x.tmod (32 : Int) != (0 : Int)
noncomputable def f9_11 (v : V9) : (Bool) := decide (v.x < v.a)
noncomputable def f9_12 (v : V9) : (Int) := IntKind.u64.wrap (v.x - v.a)
noncomputable def f9_13 (v : V9) : (Int) := IntKind.u64.wrap (p26 v.b.toNat * (32 : Int))
noncomputable def f9_14 (v : V9) : (Bool) := cnd (f9_11 v) true (decide (f9_12 v ≥ f9_13 v))
noncomputable def f9_15 (v : V9) : (Int) := f49_2 (f9_8 v)
noncomputable def f9_16 (v : V9) : (Int) := f49_3 (f9_8 v)
noncomputable def f9_17 (v : V9) : (Bool) := f9_15 v == (0 : Int)
noncomputable def f9_18 (v : V9) : (Sl) := Sl.mk v.k v.a v.b v.r v.g v.s v.m (0 : Int) (0 : Int) (0 : Int)
noncomputable def f9_0 (v : V9) : (Prop) := pre35 V35.mk
noncomputable def f9_1 (v : V9) : (Prop) := false = false → pre36z V36z.mk
noncomputable def f9_2 (v : V9) : (Prop) := false = false → false = false → f49_0 (f9_8 v)
noncomputable def f9_3 (v : V9) : (Prop) := false = false → false = false → f49_1 (f9_8 v)
noncomputable def f9_4 (v : V9) : (Prop) := false = false → false = false → f9_9 v = false → (32 : Int) ≠ (0 : Int)
noncomputable def f9_5 (v : V9) : (Prop) := false = false → false = false → f9_9 v = false → f9_10 v = false → cnd (!f9_11 v) true false = true → v.b ≤ (4611686018427387904 : Int)
noncomputable def f9_6 (v : V9) : (Prop) := false = false → false = false → f9_9 v = false → f9_10 v = false → f9_14 v = false → pre40 (V40.mk v.k v.a v.b v.r v.g v.s v.m (f9_15 v) (f9_16 v) (0 : Int) (0 : Int) op0.fst.M)
noncomputable def f9_7 (v : V9) : (Bool) := cnd (f9_9 v) (cnd (cnd (f49_4 (f9_8 v) == (20 : Int)) (f9_17 v) false) (f9_16 v == (0 : Int)) false) (cnd (f9_10 v) (cnd (f49_4 (f9_8 v) == (13 : Int)) (f9_17 v) false) (cnd (f9_14 v) (cnd (f49_4 (f9_8 v) == (12 : Int)) (f9_17 v) false) (cnd (cnd (cnd (f49_4 (f9_8 v) == (0 : Int)) (f9_16 v == IntKind.i64.wrap (v.g + v.b)) false) (fdE op0.fst.M (f9_18 v) (f9_15 v) (f9_16 v) == (0 : Int)) false) (fdA op0.fst.M (f9_18 v) (f9_15 v) (f9_16 v) == v.x) false)))
theorem n_f9_4 (v : V9) : f9_4 v := by
  unfold f9_4
  first
    | (intros; rfl)
    | (intro i; rfl)
    | (intro i _; rfl)
    | (intro _ i; rfl)
    | (intro _ i _; rfl)
    | (refine ⟨?_, ?_⟩ <;> intro i <;> rfl)
    | (refine ⟨?_, ?_, ?_⟩ <;> intro i <;> rfl)
    | (refine ⟨?_, ?_⟩ <;> intro i _ <;> rfl)
    | (repeat' apply And.intro) <;> first | (intro i; rfl) | (intro i _; rfl) | (intro i h; exact absurd h (Nat.not_lt_zero i)) | (intro i; exact scpL_rowSet (by rfl) (by rfl)) | (intro i; exact scpL_rowEl (by kernel_rfl) _)
    | (intros; (repeat' apply And.intro) <;> intros <;> first | rfl | (exact absurd (by assumption) (Nat.not_lt_zero _)))
    | omega
    | decide
noncomputable def ff9 (v : V9) : Tr (Fin th.R) := (Tr.need (f9_0 v) (Tr.need (f9_1 v) (Tr.need (f9_2 v) (Tr.need (f9_3 v) (Tr.need (f9_4 v) (Tr.need (f9_5 v) (Tr.need (f9_6 v) (Tr.leaf (Prod.mk (SV.bool (f9_7 v)) (Prod.mk [] []))))))))))
noncomputable def f9 (v : V9) : Tr (Fin th.R) := (Tr.need (f9_0 v) (Tr.need (f9_1 v) (Tr.need (f9_2 v) (Tr.need (f9_3 v) (Tr.need (f9_5 v) (Tr.need (f9_6 v) (Tr.leaf (Prod.mk (SV.bool (f9_7 v)) (Prod.mk [] ([]))))))))))
noncomputable def C9 : CF th.R := fnC d9 ofV9 (f9 )
theorem q9 (v : V9) : (evFn th Try.prog (auto th Try.prog nice77 [] 20) (autoH [] [] [] [] : Hints th) 9) (A9 v) (H9 v) = some (ff9 v) := by kernel_rfl
theorem qg9 (v : V9) : ((ff9 v).map (setD [])).get = (f9 v).get := by kernel_rfl
theorem qd9 (v : V9) : allD 0 [] (ff9 v) = true := by kernel_rfl
theorem s9 : Sound Try.prog th 9 (C9 ) := fnC_sound (evFn_sound' (T := th) (P := Try.prog) (tbl := (auto th Try.prog nice77 [] 20)) (auto_sound (nice := nice77) (us := []) nok77 20) (H := (autoH [] [] [] [] : Hints th)) (k := 9) (fnLoops (LoopsOk_mem (fun _ => rfl) _ fun _ _ _ e => by cases e))) d9 A9 H9 toV9 (by kernel_rfl) (fun v => by kernel_rfl)
  (fun l v h => by
    unfold ofV9 at h
    split at h
    · cases h; rfl
    · cases h)
  [] (fun v => ⟨ff9 v, q9 v, fun h => by
    unfold f9 at h; unfold ff9
    simp only [Tr.ok, n_f9_4, true_and, and_true, forall_const, implies_true] at h ⊢
    try exact h, qg9 v, qd9 v⟩)
theorem qdd9 (v : V9) : (f9 v).get.2.2 = [] := by
  rw [← qg9, Tr.map_get]; rfl
end Go.Sx.M

namespace Go.Sx.M
open Go Go.Sx Go.Proofs Go.RowKit
set_option maxRecDepth 100000
structure V10 where
  k : Int
  a : Int
  b : Int
  r : Int
  g : Int
  s : Int
  m : Int
  n : Int
  x : Int
def A10 (v : V10) : List SV := [.agg [.int .i64 v.k, .int .u64 v.a, .int .i64 v.b, .int .i64 v.r, .int .i64 v.g, .int .i64 v.s, .int .u64 v.m], .int .i64 v.n, .int .u64 v.x]
def H10 (v : V10) : List (HO th.R) := []
def toV10 (v : V10) : List (Vl th.R) := [.i v.k, .i v.a, .i v.b, .i v.r, .i v.g, .i v.s, .i v.m, .i v.n, .i v.x]
def ofV10 : List (Vl th.R) → Option V10
  | [.i k, .i a, .i b, .i r, .i g, .i s, .i m, .i n, .i x] => some ⟨k, a, b, r, g, s, m, n, x⟩
  | _ => none
def d10 : Ft := ⟨[.agg [.int .i64, .int .u64, .int .i64, .int .i64, .int .i64, .int .i64, .int .u64], .int .i64, .int .u64], []⟩
noncomputable def f10_10 (v : V10) : (V51) := V51.mk v.k v.a v.b v.r v.g v.s v.m v.n
noncomputable def f10_11 (v : V10) : (Bool) := cnd (v.k != (2 : Int)) true !f50_2 v.k v.a v.b v.r v.g v.s v.m
noncomputable def f10_12 (v : V10) : (Bool) := decide (v.n < (0 : Int))
noncomputable def f10_13 (v : V10) : (Int) := (2 : Int) ^ Min.min v.b.toNat (64 : Nat)
noncomputable def f10_14 (v : V10) : (Int) := IntKind.i64.wrap ((1 : Int) * f10_13 v)
noncomputable def f10_15 (v : V10) : (Bool) := cnd (f10_12 v) true (decide (v.n ≥ f10_14 v))
noncomputable def f10_16 (v : V10) : (Int) := f51_2 (f10_10 v)
noncomputable def f10_17 (v : V10) : (Int) := f51_1 (f10_10 v)
noncomputable def f10_18 (v : V10) : (Bool) := cnd (f10_16 v != (0 : Int)) true (f10_17 v != IntKind.u64.wrap (v.a + IntKind.u64.wrap (IntKind.u64.wrap v.n * (32 : Int))))
noncomputable def f10_19 (v : V10) : (Int) := Go.bits Go.BinOp.or IntKind.u64 (IntKind.u64.wrap (v.m * f10_13 v)) (IntKind.u64.wrap v.n)
noncomputable def f10_20 (v : V10) : (Int) := IntKind.i64.wrap (v.g + v.b)
noncomputable def f10_21 (v : V10) : (Bool) := decide (f10_20 v < (64 : Int))
noncomputable def f10_22 (v : V10) : (Int) := IntKind.u64.wrap ((1 : Int) * (2 : Int) ^ Min.min (f10_20 v).toNat (64 : Nat))
noncomputable def f10_23 (v : V10) : (Bool) := f10_17 v == (0 : Int)
noncomputable def f10_24 (v : V10) : (Sl) := Sl.mk v.k v.a v.b v.r v.g v.s v.m (0 : Int) (0 : Int) (0 : Int)
noncomputable def f10_0 (v : V10) : (Prop) := pre35 V35.mk
noncomputable def f10_1 (v : V10) : (Prop) := false = false → pre36z V36z.mk
noncomputable def f10_2 (v : V10) : (Prop) := false = false → false = false → f51_0 (f10_10 v)
noncomputable def f10_3 (v : V10) : (Prop) := false = false → false = false → f10_11 v = false → cnd (!f10_12 v) true false = true → (0 : Int) ≤ v.b
noncomputable def f10_4 (v : V10) : (Prop) := false = false → false = false → f10_11 v = false → f10_15 v = false → f10_18 v = false → (0 : Int) ≤ v.b
noncomputable def f10_5 (v : V10) : (Prop) := false = false → false = false → f10_11 v = false → f10_15 v = false → f10_18 v = false → pre40 (V40.mk v.k v.a v.b v.r v.g v.s v.m (f10_19 v) (f10_20 v) (0 : Int) (0 : Int) op0.fst.M)
noncomputable def f10_6 (v : V10) : (Prop) := false = false → false = false → f10_11 v = false → f10_15 v = false → f10_18 v = false → pre40 (V40.mk v.k v.a v.b v.r v.g v.s v.m v.x (f10_20 v) (0 : Int) (0 : Int) op0.fst.M)
noncomputable def f10_7 (v : V10) : (Prop) := false = false → false = false → f10_11 v = false → f10_15 v = false → f10_18 v = false → f10_21 v = true → (0 : Int) ≤ f10_20 v
noncomputable def f10_8 (v : V10) : (Prop) := false = false → false = false → f10_11 v = false → f10_15 v = false → f10_18 v = false → f10_21 v = true → f10_22 v ≠ (0 : Int)
noncomputable def f10_9 (v : V10) : (Bool) := cnd (f10_11 v) (cnd (f10_16 v == (20 : Int)) (f10_23 v) false) (cnd (f10_15 v) (cnd (f10_16 v == (12 : Int)) (f10_23 v) false) (cnd (f10_18 v) false (cnd (cnd (fdE op0.fst.M (f10_24 v) (f10_19 v) (f10_20 v) == (0 : Int)) (fdA op0.fst.M (f10_24 v) (f10_19 v) (f10_20 v) == f10_17 v) false) (cnd (fdE op0.fst.M (f10_24 v) v.x (f10_20 v) == (0 : Int)) (fdA op0.fst.M (f10_24 v) v.x (f10_20 v) == f10_17 v) false == (cnd (f10_21 v) (v.x.tmod (f10_22 v)) v.x == f10_19 v)) false)))
noncomputable def ff10 (v : V10) : Tr (Fin th.R) := (Tr.need (f10_0 v) (Tr.need (f10_1 v) (Tr.need (f10_2 v) (Tr.need (f10_3 v) (Tr.need (f10_4 v) (Tr.need (f10_5 v) (Tr.need (f10_6 v) (Tr.need (f10_7 v) (Tr.need (f10_8 v) (Tr.leaf (Prod.mk (SV.bool (f10_9 v)) (Prod.mk [] []))))))))))))
noncomputable def f10 (v : V10) : Tr (Fin th.R) := (Tr.need (f10_0 v) (Tr.need (f10_1 v) (Tr.need (f10_2 v) (Tr.need (f10_3 v) (Tr.need (f10_4 v) (Tr.need (f10_5 v) (Tr.need (f10_6 v) (Tr.need (f10_7 v) (Tr.need (f10_8 v) (Tr.leaf (Prod.mk (SV.bool (f10_9 v)) (Prod.mk [] ([])))))))))))))
noncomputable def C10 : CF th.R := fnC d10 ofV10 (f10 )
theorem q10 (v : V10) : (evFn th Try.prog (auto th Try.prog nice77 [] 20) (autoH [] [] [] [] : Hints th) 10) (A10 v) (H10 v) = some (ff10 v) := by kernel_rfl
theorem qg10 (v : V10) : ((ff10 v).map (setD [])).get = (f10 v).get := by kernel_rfl
theorem qd10 (v : V10) : allD 0 [] (ff10 v) = true := by kernel_rfl
theorem s10 : Sound Try.prog th 10 (C10 ) := fnC_sound (evFn_sound' (T := th) (P := Try.prog) (tbl := (auto th Try.prog nice77 [] 20)) (auto_sound (nice := nice77) (us := []) nok77 20) (H := (autoH [] [] [] [] : Hints th)) (k := 10) (fnLoops (LoopsOk_mem (fun _ => rfl) _ fun _ _ _ e => by cases e))) d10 A10 H10 toV10 (by kernel_rfl) (fun v => by kernel_rfl)
  (fun l v h => by
    unfold ofV10 at h
    split at h
    · cases h; rfl
    · cases h)
  [] (fun v => ⟨ff10 v, q10 v, id, qg10 v, qd10 v⟩)
theorem qdd10 (v : V10) : (f10 v).get.2.2 = [] := by
  rw [← qg10, Tr.map_get]; rfl
end Go.Sx.M

namespace Go.Sx.M
open Go Go.Sx Go.Proofs Go.RowKit
theorem low_bits {w w' l n N : Nat} (h : w % 2 ^ N = w' % 2 ^ N) (hl : l + n ≤ N) : w / 2 ^ l % 2 ^ n = w' / 2 ^ l % 2 ^ n := by
  have key : ∀ u : Nat, u / 2 ^ l % 2 ^ n = (u % 2 ^ N) % (2 ^ l * 2 ^ n) / 2 ^ l := by
    intro u
    rw [Nat.mod_mod_of_dvd _ (by rw [← Nat.pow_add]; exact Nat.pow_dvd_pow 2 hl), Nat.mod_mul_right_div_self]
  rw [key w, key w', h]
theorem pT_low {w w' : Nat} {l n : Int} {N : Nat} (hw : w < 18446744073709551616) (hw' : w' < 18446744073709551616) (h : w % 2 ^ N = w' % 2 ^ N) (h0 : 0 ≤ l) (h1 : 0 ≤ n) (h2 : (l + n).toNat ≤ N) (h3 : N ≤ 63) : pT w l n = pT w' l n := by
  unfold pT
  by_cases hn : n = 0
  · subst hn; rfl
  · rw [beq_eq_false_iff_ne.2 hn]
    show f102_1 l n w = f102_1 l n w'
    cases hf : f165_0 l n with
    | true =>
      rw [field_get hw hf h0 (by omega) (by omega) (by omega), field_get hw' hf h0 (by omega) (by omega) (by omega)]
      rw [low_bits h (by omega)]
    | false =>
      simp only [f102_1, hf]
      rfl
/-- A walk sees a number's lowest bits alone. -/
theorem wkM_low {cf : Int → Sl} {w w' N : Nat} (hc : ∀ a, SlR (cf a)) (hw : w < 18446744073709551616) (hw' : w' < 18446744073709551616) (h : w % 2 ^ N = w' % 2 ^ N) (hN : N ≤ 63) :
    ∀ {n : Nat} {l c na nb ng nm : Int}, pnOk l nb ng → l.toNat ≤ N → wkM cf w n l c na nb ng nm = wkM cf w' n l c na nb ng nm
  | 0, _, _, _, _, _, _, _, _ => rfl
  | n + 1, l, c, na, nb, ng, nm, hp, hl => by
    have hp0 := hp
    obtain ⟨⟨l0, l1⟩, ⟨b0, b1⟩, ⟨g0, g1⟩⟩ := hp
    have eF : pF w l nb ng nm = pF w' l nb ng nm := by
      unfold pF
      cases hG : pG l nb ng with
      | true => rfl
      | false =>
        unfold pG at hG
        rw [wi (by omega) (by omega)] at hG
        have := of_decide_eq_false hG
        rw [wi (x := l - ng) (by omega) (by omega)]
        rw [pT_low hw hw' h (by omega) g0 (by omega) hN]
    have eL : pL w l nb ng nm = pL w' l nb ng nm := by unfold pL; rw [eF]
    have eS : pS w l na nb ng nm = pS w' l na nb ng nm := by
      unfold pS
      rw [← eF]
      cases hF : pF w l nb ng nm with
      | true => rfl
      | false =>
        obtain ⟨q1, q2, q3⟩ := pL_less hp0 hF
        have e1 : IntKind.i64.wrap (pL1 l nb ng - nb) = l - ng - nb := by
          have : pL w l nb ng nm = IntKind.i64.wrap (pL1 l nb ng - nb) := by unfold pL; rw [hF]; rfl
          rw [← this, q1]
        rw [e1, pT_low hw hw' h (by omega) (by omega) (by omega) hN]
    simp only [wkM]
    rw [← eF, ← eL, ← eS]
    split
    · rfl
    · rename_i hs
      split
      · rfl
      · rename_i ho
        have hf : pF w l nb ng nm = false := by
          cases hh : pF w l nb ng nm with
          | false => rfl
          | true => rw [hh] at hs; cases hs
        obtain ⟨_, q0, q1⟩ := pL_less hp0 hf
        have ho : pOk (cf (pS w l na nb ng nm)) = true := by simpa using ho
        obtain ⟨_, _, _, e2, e3, _, e5, e6⟩ := pOk_spec (hc _) ho
        refine wkM_low hc hw hw' h hN ?_ (by omega)
        rw [e2, e3]
        exact ⟨⟨q0, by omega⟩, e5, e6⟩
end Go.Sx.M

namespace Go.Sx.M
open Go Go.Sx
/-- What four words say, unasked. -/
def rawS (w0 w1 w2 w3 : Int) : Sl := ⟨IntKind.i64.wrap (f102_1 0 4 w0), IntKind.u64.wrap (f102_1 35 27 w0 * 32), IntKind.i64.wrap (f102_1 4 6 w0), IntKind.i64.wrap (f102_1 10 3 w0), IntKind.i64.wrap (f102_1 13 6 w0), IntKind.i64.wrap (f102_1 19 16 w0), w1,
  IntKind.u64.wrap (f102_1 0 27 w2 * 32), IntKind.u64.wrap (f102_1 32 27 w2 * 32), cnd (decide (w3 ≤ 4096)) (IntKind.i64.wrap w3) 0⟩
theorem rawS_R {w0 w1 w2 w3 : Int} (h : U64 w1) : SlR (rawS w0 w1 w2 w3) := ⟨wrapI _, wrapR _, wrapI _, wrapI _, wrapI _, wrapI _, h, wrapR _, wrapR _, cnd_ind (wrapI _) i0⟩
/-- They are a slot's. -/
def okW (w0 w1 w2 w3 : Int) : Prop := rightS (rawS w0 w1 w2 w3) = true ∧ wd0 (rawS w0 w1 w2 w3) = w0 ∧ wd1 (rawS w0 w1 w2 w3) = w1 ∧ wd2 (rawS w0 w1 w2 w3) = w2 ∧ wd3 (rawS w0 w1 w2 w3) = w3
theorem rightS_rgt {z : Sl} (h : rightS z = true) : rgt z = true := by
  unfold rightS f34_0 at h
  unfold rgt
  cases hh : f45_1 z.k z.a z.b z.r z.g z.s z.m with
  | true => rfl
  | false => rw [hh] at h; simp [cnd] at h
theorem read_ok {w0 w1 w2 w3 : Int} (hr : rgt (rawS w0 w1 w2 w3) = true) (h0 : wd0 (rawS w0 w1 w2 w3) = w0) : f100_10 w0 w1 = 0 ∧ f100_3 w0 w1 = (rawS w0 w1 w2 w3).k ∧ f100_4 w0 w1 = (rawS w0 w1 w2 w3).a ∧ f100_5 w0 w1 = (rawS w0 w1 w2 w3).b ∧
    f100_6 w0 w1 = (rawS w0 w1 w2 w3).r ∧ f100_7 w0 w1 = (rawS w0 w1 w2 w3).g ∧ f100_8 w0 w1 = (rawS w0 w1 w2 w3).s ∧ f100_9 w0 w1 = (rawS w0 w1 w2 w3).m := by
  have hr : f45_1 (IntKind.i64.wrap (f102_1 0 4 w0)) (IntKind.u64.wrap (f102_1 35 27 w0 * 32)) (IntKind.i64.wrap (f102_1 4 6 w0)) (IntKind.i64.wrap (f102_1 10 3 w0)) (IntKind.i64.wrap (f102_1 13 6 w0)) (IntKind.i64.wrap (f102_1 19 16 w0)) w1 = true := hr
  have h0 : f164_14 (IntKind.i64.wrap (f102_1 0 4 w0)) (IntKind.u64.wrap (f102_1 35 27 w0 * 32)) (IntKind.i64.wrap (f102_1 4 6 w0)) (IntKind.i64.wrap (f102_1 10 3 w0)) (IntKind.i64.wrap (f102_1 13 6 w0)) (IntKind.i64.wrap (f102_1 19 16 w0)) w1 = w0 := h0
  have h2 := (words_at hr).2
  simp only [f100_3, f100_4, f100_5, f100_6, f100_7, f100_8, f100_9, f100_10, h2, h0]
  simp [cnd, rawS]
theorem read_bad {w0 w1 w2 w3 : Int} (h : ¬ (rgt (rawS w0 w1 w2 w3) = true ∧ wd0 (rawS w0 w1 w2 w3) = w0)) : f100_10 w0 w1 = 10 := by
  simp only [f100_10]
  cases hr : f45_1 (IntKind.i64.wrap (f102_1 0 4 w0)) (IntKind.u64.wrap (f102_1 35 27 w0 * 32)) (IntKind.i64.wrap (f102_1 4 6 w0)) (IntKind.i64.wrap (f102_1 10 3 w0)) (IntKind.i64.wrap (f102_1 13 6 w0)) (IntKind.i64.wrap (f102_1 19 16 w0)) w1 with
  | false => rw [(words_no hr).2.2]; rfl
  | true =>
    rw [(words_at hr).2]
    have : f164_14 (IntKind.i64.wrap (f102_1 0 4 w0)) (IntKind.u64.wrap (f102_1 35 27 w0 * 32)) (IntKind.i64.wrap (f102_1 4 6 w0)) (IntKind.i64.wrap (f102_1 10 3 w0)) (IntKind.i64.wrap (f102_1 13 6 w0)) (IntKind.i64.wrap (f102_1 19 16 w0)) w1 ≠ w0 := fun e => h ⟨hr, e⟩
    rw [bne_iff_ne.2 this]
    rfl
/-- What is loaded from where a slot may lie. -/
theorem ld_raw {M : Mem} {a : Int} (he : f99_0 ⟨a, M⟩ = 0) {w0 w1 w2 w3 : Int} (e0 : M.W (IntKind.u64.wrap (a + 0)) = w0) (e1 : M.W (IntKind.u64.wrap (a + 8)) = w1) (e2 : M.W (IntKind.u64.wrap (a + 16)) = w2) (e3 : M.W (IntKind.u64.wrap (a + 24)) = w3) :
    (okW w0 w1 w2 w3 → ld M a = rawS w0 w1 w2 w3 ∧ ldE M a = 0) ∧ (¬ okW w0 w1 w2 w3 → ld M a = sl0 ∧ ldE M a = 10) := by
  have q0 : f29_30 ⟨a, M⟩ = w0 := e0
  have q1 : f29_31 ⟨a, M⟩ = w1 := e1
  have q2 : f29_32 ⟨a, M⟩ = w2 := e2
  have q3 : f29_33 ⟨a, M⟩ = w3 := e3
  have r0 : f29_36 ⟨a, M⟩ = w0 := e0
  have r1 : f29_37 ⟨a, M⟩ = w1 := e1
  have r2 : f29_52 ⟨a, M⟩ = w2 := e2
  have r3 : f29_34 ⟨a, M⟩ = w3 := e3
  have hd : f29_25 ⟨a, M⟩ = false := by simp [f29_25, he]
  have c35 : f29_35 ⟨a, M⟩ = decide (w3 ≤ 4096) := by simp only [f29_35, r3]
  have d0 : f29_57 ⟨a, M⟩ = (rawS w0 w1 w2 w3).d := by simp only [f29_57, c35, r3, rawS]
  have d1 : f29_54 ⟨a, M⟩ = (rawS w0 w1 w2 w3).x := by simp only [f29_54, cnd_same, f29_53, r2, rawS]
  have d2 : f29_56 ⟨a, M⟩ = (rawS w0 w1 w2 w3).p := by simp only [f29_56, cnd_same, f29_55, r2, rawS]
  simp only [ld, ldE, f29_14, f29_15, f29_16, f29_17, f29_18, f29_19, f29_20, f29_21, f29_22, f29_23, f29_24, hd, d0, d1, d2, f29_39, f29_41, f29_43, f29_45, f29_47, f29_49, f29_51, cnd_same, f29_38, f29_40, f29_42, f29_44, f29_46, f29_48, f29_50, r0, r1, q0, q1, q2, q3]
  by_cases hg : rgt (rawS w0 w1 w2 w3) = true ∧ wd0 (rawS w0 w1 w2 w3) = w0
  · obtain ⟨g1, g2, g3, g4, g5, g6, g7, g8⟩ := read_ok hg.1 hg.2
    rw [g1, g2, g3, g4, g5, g6, g7, g8]
    unfold okW rightS wd0 wd1 wd2 wd3
    generalize rawS w0 w1 w2 w3 = z
    constructor
    · rintro ⟨k1, k2, k3, k4, k5⟩
      rw [k1, k2, k3, k4, k5]
      simp [cnd]
    · intro hn
      have hbad : cnd (cnd ((0 : Int) != 0) true (!f34_0 z.k z.a z.b z.r z.g z.s z.m z.x z.p z.d)) true (!(f104_2 z.k z.a z.b z.r z.g z.s z.m z.x z.p z.d == w0 && (f104_3 z.k z.a z.b z.r z.g z.s z.m z.x z.p z.d == w1 &&
            (f104_4 z.k z.a z.b z.r z.g z.s z.m z.x z.p z.d == w2 && (f104_5 z.k z.a z.b z.r z.g z.s z.m z.x z.p z.d == w3 && true))))) = true := by
        cases hc : cnd _ true _ with
        | true => rfl
        | false =>
          refine absurd ?_ hn
          revert hc
          cases f34_0 z.k z.a z.b z.r z.g z.s z.m z.x z.p z.d <;> simp [cnd]
      rw [hbad]
      exact ⟨rfl, rfl⟩
  · have hb := read_bad hg
    rw [hb]
    constructor
    · intro hk
      exact absurd ⟨rightS_rgt hk.1, hk.2.1⟩ hg
    · intro _
      exact ⟨rfl, rfl⟩
end Go.Sx.M

namespace Go.Sx.M
open Go Go.Sx
theorem ld_bad {M : Mem} {a : Int} (he : f99_0 ⟨a, M⟩ ≠ 0) : ld M a = sl0 ∧ ldE M a = f99_0 ⟨a, M⟩ := by
  have hd : f29_25 ⟨a, M⟩ = true := by simp [f29_25, he]
  simp only [ld, ldE, f29_14, f29_15, f29_16, f29_17, f29_18, f29_19, f29_20, f29_21, f29_22, f29_23, f29_24, hd]
  exact ⟨rfl, rfl⟩
/-- Why a slot may not lie there. -/
def errS (n a : Int) : Int := if a % 32 = 0 then if n ≤ a then 12 else 0 else 13
theorem errS_eq {M : Mem} {a : Int} (h : U64 a) : f99_0 ⟨a, M⟩ = errS M.size a := by
  have e : f125_0 a 5 = decide (a % 32 = 0) := by
    have := aligned_eq (a := a) (n := 5) h.1 h.2 (by omega) (by omega)
    rw [this]
    have : p26 (Int.toNat 5) = 32 := by decide +kernel
    rw [this]
    by_cases hh : a % 32 = 0 <;> simp [hh]
  have e2 : szM M = M.size := rfl
  simp only [f99_0, e, e2, errS]
  by_cases h1 : a % 32 = 0
  · by_cases h2 : M.size ≤ a <;> simp [cnd, h1, h2]
  · simp [cnd, h1]
theorem errS_ok {n a : Int} (h : errS n a = 0) : a % 32 = 0 ∧ a < n := by
  unfold errS at h
  split at h
  · split at h
    · omega
    · omega
  · omega
theorem errS_mk {n a : Int} (h1 : a % 32 = 0) (h2 : a < n) : errS n a = 0 := by
  unfold errS; rw [if_pos h1, if_neg (by omega)]
theorem wr_same {M : Mem} {a x : Int} (h : errI M.size a = 0) : (wrM M a x).W a = x := by
  show cnd (decide (errI M.size a = 0)) (upd M.W a x) M.W a = x
  rw [decide_eq_true h]; exact upd_same ..
theorem wr_other {M : Mem} {a x i : Int} (h : i ≠ a) : (wrM M a x).W i = M.W i := by
  show cnd (decide (errI M.size a = 0)) (upd M.W a x) M.W i = M.W i
  cases decide (errI M.size a = 0)
  · rfl
  · exact upd_other h
theorem wr_size (M : Mem) (a x : Int) : (wrM M a x).size = M.size := rfl
/-- Four words, one behind the other. -/
theorem four {M : Mem} {a w0 w1 w2 w3 : Int} (h0 : 0 ≤ a) (h1 : a % 32 = 0) (h2 : a < M.size) (h3 : M.size % 32 = 0) (h4 : M.size ≤ 4294967296) :
    let N := wrM (wrM (wrM (wrM M (IntKind.u64.wrap (a + 0)) w0) (IntKind.u64.wrap (a + 8)) w1) (IntKind.u64.wrap (a + 16)) w2) (IntKind.u64.wrap (a + 24)) w3
    N.W a = w0 ∧ N.W (a + 8) = w1 ∧ N.W (a + 16) = w2 ∧ N.W (a + 24) = w3 ∧ ∀ i, i ≠ a → i ≠ a + 8 → i ≠ a + 16 → i ≠ a + 24 → N.W i = M.W i := by
  intro N
  have e0 : IntKind.u64.wrap (a + 0) = a := by rw [wrap_u64_id (by omega) (by omega)]; omega
  have e8 : IntKind.u64.wrap (a + 8) = a + 8 := wrap_u64_id (by omega) (by omega)
  have e16 : IntKind.u64.wrap (a + 16) = a + 16 := wrap_u64_id (by omega) (by omega)
  have e24 : IntKind.u64.wrap (a + 24) = a + 24 := wrap_u64_id (by omega) (by omega)
  have k0 : errI M.size a = 0 := errI_ok (by omega) (by omega)
  have k8 : errI M.size (a + 8) = 0 := errI_ok (by omega) (by omega)
  have k16 : errI M.size (a + 16) = 0 := errI_ok (by omega) (by omega)
  have k24 : errI M.size (a + 24) = 0 := errI_ok (by omega) (by omega)
  have hN : N = wrM (wrM (wrM (wrM M a w0) (a + 8) w1) (a + 16) w2) (a + 24) w3 := by show wrM _ _ _ = _; rw [e0, e8, e16, e24]
  rw [hN]
  refine ⟨?_, ?_, ?_, ?_, fun i i0 i1 i2 i3 => ?_⟩
  · rw [wr_other (by omega), wr_other (by omega), wr_other (by omega)]; exact wr_same k0
  · rw [wr_other (by omega), wr_other (by omega)]; exact wr_same k8
  · rw [wr_other (by omega)]; exact wr_same k16
  · exact wr_same k24
  · rw [wr_other i3, wr_other i2, wr_other i1, wr_other i0]
end Go.Sx.M

namespace Go.Sx.M
open Go Go.Sx
/-- The words of a slot are read as it was. -/
theorem raw_wd {z : Sl} (h : SlR z) (hs : rightS z = true) : rawS (wd0 z) (wd1 z) (wd2 z) (wd3 z) = z := by
  obtain ⟨hr, ⟨x1, x2⟩, ⟨p1, p2⟩, d1, d2⟩ := (rightS_iff h).1 hs
  have hr2 := rgt2 h hr
  have e3 : wd3 z = z.d := by
    have : wd3 z = IntKind.u64.wrap z.d := rfl
    rw [this, wrap_u64_id (by omega) (by omega)]
  have x0 := h.x.1
  have p0 := h.p.1
  obtain ⟨x, hx⟩ : ∃ n : Nat, z.x / 32 = n := ⟨(z.x / 32).toNat, by omega⟩
  obtain ⟨q, hq⟩ : ∃ n : Nat, z.p / 32 = n := ⟨(z.p / 32).toNat, by omega⟩
  have e2 : wd2 z = ((x + q * 4294967296 : Nat) : Int) := by rw [wd2_eq h x1 p1, hx, hq]; simp
  obtain ⟨l1, l2⟩ := links_back (x := x) (q := q) (by omega) (by omega)
  have hr' : f45_1 z.k z.a z.b z.r z.g z.s z.m = true := hr
  obtain ⟨w1, w2⟩ := word_right h.a.1 h.a.2 hr2 hr'
  obtain ⟨hk, hb, hrr, hg, hss, hal, hmod⟩ := right_ranges h.a.1 h.a.2 hr2 hr'
  obtain ⟨m1, m2⟩ := words_at hr'
  have ha := h.a.1
  obtain ⟨g1, g2, g3, g4, g5, g6⟩ := word_get (k := z.k.toNat) (b := z.b.toNat) (r := z.r.toNat) (g := z.g.toNat) (s := z.s.toNat) (q := (z.a / 32).toNat) (by omega) (by omega) (by omega) (by omega) (by omega) (by omega)
  have c1 : IntKind.i64.wrap ((z.k.toNat : Nat) : Int) = z.k := by rw [wrap_i64 (by omega) (by omega)]; omega
  have c2 : IntKind.i64.wrap ((z.b.toNat : Nat) : Int) = z.b := by rw [wrap_i64 (by omega) (by omega)]; omega
  have c3 : IntKind.i64.wrap ((z.r.toNat : Nat) : Int) = z.r := by rw [wrap_i64 (by omega) (by omega)]; omega
  have c4 : IntKind.i64.wrap ((z.g.toNat : Nat) : Int) = z.g := by rw [wrap_i64 (by omega) (by omega)]; omega
  have c5 : IntKind.i64.wrap ((z.s.toNat : Nat) : Int) = z.s := by rw [wrap_i64 (by omega) (by omega)]; omega
  have c6 : IntKind.u64.wrap ((((z.a / 32).toNat : Nat) : Int) * 32) = z.a := by rw [wrap_u64_id (by omega) (by omega)]; omega
  have c7 : IntKind.u64.wrap (((x : Nat) : Int) * 32) = z.x := by rw [wrap_u64_id (by omega) (by omega)]; omega
  have c8 : IntKind.u64.wrap (((q : Nat) : Int) * 32) = z.p := by rw [wrap_u64_id (by omega) (by omega)]; omega
  have e0 : wd0 z = wordN z.k.toNat z.b.toNat z.r.toNat z.g.toNat z.s.toNat (z.a / 32).toNat := w1
  have e1 := wd1_eq hr
  have d3 : IntKind.i64.wrap z.d = z.d := wrap_i64 (by omega) (by omega)
  rw [e0, e1, e2, e3]
  simp only [rawS, g1, g2, g3, g4, g5, g6, l1, l2, c1, c2, c3, c4, c5, c6, c7, c8, d3, decide_eq_true d2, cnd]
theorem okW_wd {z : Sl} (h : SlR z) (hs : rightS z = true) : okW (wd0 z) (wd1 z) (wd2 z) (wd3 z) := by
  unfold okW
  rw [raw_wd h hs]
  exact ⟨hs, rfl, rfl, rfl, rfl⟩
/-- Where a slot may lie. -/
def slOK (n a : Int) : Prop := 0 ≤ a ∧ a % 32 = 0 ∧ a < n
/-- A memory that is one slot behind the other. -/
structure Enc (M : Mem) (σ : Int → Sl) : Prop where
  s0 : M.size % 32 = 0
  s1 : 0 < M.size
  s2 : M.size ≤ 4294967296
  ok : ∀ a, slOK M.size a → SlR (σ a) ∧ rightS (σ a) = true
  w : ∀ a, slOK M.size a → M.W a = wd0 (σ a) ∧ M.W (a + 8) = wd1 (σ a) ∧ M.W (a + 16) = wd2 (σ a) ∧ M.W (a + 24) = wd3 (σ a)
def setA (σ : Int → Sl) (a : Int) (z : Sl) : Int → Sl := fun i => if i = a then z else σ i
theorem setA_same {σ : Int → Sl} {a : Int} {z : Sl} : setA σ a z a = z := if_pos rfl
theorem setA_other {σ : Int → Sl} {a i : Int} {z : Sl} (h : i ≠ a) : setA σ a z i = σ i := if_neg h
theorem Enc.ld {M : Mem} {σ : Int → Sl} (E : Enc M σ) {a : Int} (h : slOK M.size a) : ld M a = σ a ∧ ldE M a = 0 := by
  obtain ⟨h0, h1, h2⟩ := h
  have hn := E.s2
  have e0 : IntKind.u64.wrap (a + 0) = a := by rw [wrap_u64_id (by omega) (by omega)]; omega
  have e8 : IntKind.u64.wrap (a + 8) = a + 8 := wrap_u64_id (by omega) (by omega)
  have e16 : IntKind.u64.wrap (a + 16) = a + 16 := wrap_u64_id (by omega) (by omega)
  have e24 : IntKind.u64.wrap (a + 24) = a + 24 := wrap_u64_id (by omega) (by omega)
  obtain ⟨k1, k2⟩ := E.ok a ⟨h0, h1, h2⟩
  obtain ⟨w0, w1, w2, w3⟩ := E.w a ⟨h0, h1, h2⟩
  have he : f99_0 ⟨a, M⟩ = 0 := by rw [errS_eq ⟨h0, by omega⟩]; exact errS_mk h1 h2
  obtain ⟨g1, g2⟩ := (ld_raw he (by rw [e0]; exact w0) (by rw [e8]; exact w1) (by rw [e16]; exact w2) (by rw [e24]; exact w3)).1 (okW_wd k1 k2)
  rw [raw_wd k1 k2] at g1
  exact ⟨g1, g2⟩
theorem ld_not {M : Mem} {a : Int} (hu : U64 a) (h : ¬ slOK M.size a) : ld M a = sl0 ∧ ldE M a = errS M.size a ∧ errS M.size a ≠ 0 := by
  have he : f99_0 ⟨a, M⟩ = errS M.size a := errS_eq hu
  have hne : errS M.size a ≠ 0 := by
    intro e
    obtain ⟨a1, a2⟩ := errS_ok e
    exact h ⟨hu.1, a1, a2⟩
  obtain ⟨b1, b2⟩ := ld_bad (M := M) (a := a) (by rw [he]; exact hne)
  exact ⟨b1, by rw [b2, he], hne⟩
theorem stE_any {M : Mem} {a : Int} {z : Sl} : stE M a z = cnd (f99_0 ⟨a, M⟩ != 0) (f99_0 ⟨a, M⟩) (cnd (!rightS z) 10 0) := rfl
theorem Enc.st {M : Mem} {σ : Int → Sl} (E : Enc M σ) {a : Int} {z : Sl} (h : slOK M.size a) (hz : SlR z) (hr : rightS z = true) : Enc (stM M a z) (setA σ a z) ∧ stE M a z = 0 ∧ (stM M a z).size = M.size := by
  obtain ⟨h0, h1, h2⟩ := h
  have hn := E.s2
  have he : f99_0 ⟨a, M⟩ = 0 := by rw [errS_eq ⟨h0, by omega⟩]; exact errS_mk h1 h2
  have hr' : f34_0 z.k z.a z.b z.r z.g z.s z.m z.x z.p z.d = true := hr
  have k10 : f91_10 ⟨a, z.k, z.a, z.b, z.r, z.g, z.s, z.m, z.x, z.p, z.d, M⟩ = false := by simp [f91_10, he]
  have k11 : f91_11 ⟨a, z.k, z.a, z.b, z.r, z.g, z.s, z.m, z.x, z.p, z.d, M⟩ = false := by simp [f91_11, hr']
  have hN : stM M a z = wrM (wrM (wrM (wrM M (IntKind.u64.wrap (a + 0)) (wd0 z)) (IntKind.u64.wrap (a + 8)) (wd1 z)) (IntKind.u64.wrap (a + 16)) (wd2 z)) (IntKind.u64.wrap (a + 24)) (wd3 z) := by
    show mrgM (f91_10 _) M (mrgM (f91_11 _) M _) = _
    rw [k10, k11]
    rfl
  obtain ⟨f0, f8, f16, f24, fo⟩ := four (M := M) (a := a) (w0 := wd0 z) (w1 := wd1 z) (w2 := wd2 z) (w3 := wd3 z) h0 h1 h2 E.s0 hn
  rw [← hN] at f0 f8 f16 f24 fo
  have hsz : (stM M a z).size = M.size := by rw [hN]; rfl
  refine ⟨⟨by rw [hsz]; exact E.s0, by rw [hsz]; exact E.s1, by rw [hsz]; exact hn, ?_, ?_⟩, ?_, hsz⟩
  · intro i hi
    rw [hsz] at hi
    by_cases e : i = a
    · subst e; rw [setA_same]; exact ⟨hz, hr⟩
    · rw [setA_other e]; exact E.ok i hi
  · intro i hi
    rw [hsz] at hi
    by_cases e : i = a
    · subst e; rw [setA_same]; exact ⟨f0, f8, f16, f24⟩
    · rw [setA_other e]
      obtain ⟨i0, i1, i2⟩ := hi
      obtain ⟨w0, w1, w2, w3⟩ := E.w i ⟨i0, i1, i2⟩
      refine ⟨?_, ?_, ?_, ?_⟩
      · rw [fo _ (by omega) (by omega) (by omega) (by omega)]; exact w0
      · rw [fo _ (by omega) (by omega) (by omega) (by omega)]; exact w1
      · rw [fo _ (by omega) (by omega) (by omega) (by omega)]; exact w2
      · rw [fo _ (by omega) (by omega) (by omega) (by omega)]; exact w3
  · rw [stE_any, he, hr]; rfl
theorem sl0_right : rightS sl0 = true := by decide +kernel
theorem Enc.new {n : Int} (h0 : n % 32 = 0) (h1 : 0 < n) (h2 : n ≤ 4294967296) : Enc (newM n) (fun _ => sl0) := by
  have e0 : wd0 sl0 = 0 := by decide +kernel
  have e1 : wd1 sl0 = 0 := by decide +kernel
  have e2 : wd2 sl0 = 0 := by decide +kernel
  have e3 : wd3 sl0 = 0 := by decide +kernel
  refine ⟨h0, h1, h2, fun a _ => ⟨sl0_R, sl0_right⟩, fun a _ => ?_⟩
  rw [e0, e1, e2, e3]
  exact ⟨rfl, rfl, rfl, rfl⟩
/-- A link that may stand in a slot. -/
def lnk (y : Int) : Prop := 0 ≤ y ∧ y < 4294967296 ∧ y % 32 = 0
theorem right_x {z : Sl} (h : SlR z) (hr : rightS z = true) {y : Int} (hy : lnk y) : SlR { z with x := y } ∧ rightS { z with x := y } = true := by
  have h2 : SlR { z with x := y } := h.setX ⟨hy.1, by have := hy.2.1; omega⟩
  obtain ⟨q1, q2, q3, q4⟩ := (rightS_iff h).1 hr
  exact ⟨h2, (rightS_iff h2).2 ⟨q1, ⟨hy.2.1, hy.2.2⟩, q3, q4⟩⟩
theorem right_p {z : Sl} (h : SlR z) (hr : rightS z = true) {y : Int} (hy : lnk y) : SlR { z with p := y } ∧ rightS { z with p := y } = true := by
  have h2 : SlR { z with p := y } := h.setP ⟨hy.1, by have := hy.2.1; omega⟩
  obtain ⟨q1, q2, q3, q4⟩ := (rightS_iff h).1 hr
  exact ⟨h2, (rightS_iff h2).2 ⟨q1, q2, ⟨hy.2.1, hy.2.2⟩, q4⟩⟩
def xA (σ : Int → Sl) (a y : Int) : Int → Sl := if a = 0 then σ else setA σ a { σ a with x := y }
def pA (σ : Int → Sl) (a y : Int) : Int → Sl := if a = 0 then σ else setA σ a { σ a with p := y }
def tieA (σ : Int → Sl) (a b : Int) : Int → Sl := pA (xA σ a b) b a
theorem mrgM_f (A B : Mem) : mrgM false A B = B := rfl
theorem mrgM_t (A B : Mem) : mrgM true A B = A := rfl
theorem Enc.tX {M : Mem} {σ : Int → Sl} (E : Enc M σ) {a y : Int} (h : a = 0 ∨ slOK M.size a) (hy : lnk y) : Enc (tX M a y) (xA σ a y) ∧ (tX M a y).size = M.size := by
  by_cases e : a = 0
  · subst e
    exact ⟨E, rfl⟩
  · have hb : (a == 0) = false := beq_eq_false_iff_ne.2 e
    have h := h.resolve_left e
    obtain ⟨k1, k2⟩ := E.ok a h
    obtain ⟨r1, r2⟩ := right_x k1 k2 hy
    have hl := (E.ld h).1
    unfold Go.Sx.M.tX xA
    rw [hb, mrgM_f, if_neg e, hl]
    obtain ⟨s1, _, s3⟩ := E.st h r1 r2
    exact ⟨s1, s3⟩
theorem Enc.tP {M : Mem} {σ : Int → Sl} (E : Enc M σ) {a y : Int} (h : a = 0 ∨ slOK M.size a) (hy : lnk y) : Enc (tP M a y) (pA σ a y) ∧ (tP M a y).size = M.size := by
  by_cases e : a = 0
  · subst e
    exact ⟨E, rfl⟩
  · have hb : (a == 0) = false := beq_eq_false_iff_ne.2 e
    have h := h.resolve_left e
    obtain ⟨k1, k2⟩ := E.ok a h
    obtain ⟨r1, r2⟩ := right_p k1 k2 hy
    have hl := (E.ld h).1
    unfold Go.Sx.M.tP pA
    rw [hb, mrgM_f, if_neg e, hl]
    obtain ⟨s1, _, s3⟩ := E.st h r1 r2
    exact ⟨s1, s3⟩
theorem slOK.lnk {n a : Int} (h : slOK n a) (hn : n ≤ 4294967296) : lnk a := ⟨h.1, by have := h.2.2; omega, h.2.1⟩
theorem Enc.tie {M : Mem} {σ : Int → Sl} (E : Enc M σ) {a b : Int} (ha : a = 0 ∨ slOK M.size a) (hb : b = 0 ∨ slOK M.size b) : Enc (tieM M a b) (tieA σ a b) ∧ (tieM M a b).size = M.size := by
  have la : lnk a := ha.elim (fun e => by subst e; exact ⟨by omega, by omega, rfl⟩) fun h => h.lnk E.s2
  have lb : lnk b := hb.elim (fun e => by subst e; exact ⟨by omega, by omega, rfl⟩) fun h => h.lnk E.s2
  obtain ⟨E1, z1⟩ := E.tX ha lb
  obtain ⟨E2, z2⟩ := E1.tP (a := b) (y := a) (by rw [z1]; exact hb) la
  exact ⟨E2, z2.trans z1⟩
end Go.Sx.M

namespace Go.Sx.M
open Go Go.Sx
/-! Nodes in a row, each one's links in its slot. -/
def hdA : List Nd → Int → Int
  | [], n => n
  | x :: _, _ => x.t
def lsA : List Nd → Int → Int
  | [], p => p
  | x :: l, _ => lsA l x.t
def sN (x : Nd) (nx pv : Int) : Sl := ⟨x.k, x.a, x.b, x.r, x.g, x.s, x.m, nx, pv, x.d⟩
def DL (σ : Int → Sl) : Int → List Nd → Int → Prop
  | _, [], _ => True
  | p, x :: l, n => σ x.t = sN x (hdA l n) p ∧ DL σ x.t l n
theorem hdA_app (l1 l2 : List Nd) (n : Int) : hdA (l1 ++ l2) n = hdA l1 (hdA l2 n) := by cases l1 <;> rfl
theorem lsA_app : ∀ (l1 l2 : List Nd) (p : Int), lsA (l1 ++ l2) p = lsA l2 (lsA l1 p)
  | [], _, _ => rfl
  | x :: l1, l2, p => lsA_app l1 l2 x.t
theorem DL_app {σ : Int → Sl} : ∀ {l1 l2 : List Nd} {p n : Int}, DL σ p (l1 ++ l2) n ↔ DL σ p l1 (hdA l2 n) ∧ DL σ (lsA l1 p) l2 n
  | [], l2, p, n => by simp [DL, lsA]
  | x :: l1, l2, p, n => by
    simp only [List.cons_append, DL, lsA]
    rw [DL_app, hdA_app]
    constructor
    · rintro ⟨a, b, c⟩; exact ⟨⟨a, b⟩, c⟩
    · rintro ⟨⟨a, b⟩, c⟩; exact ⟨a, b, c⟩
theorem DL_congr {σ τ : Int → Sl} : ∀ {l : List Nd} {p n : Int}, (∀ x, x ∈ l → τ x.t = σ x.t) → DL σ p l n → DL τ p l n
  | [], _, _, _, _ => trivial
  | x :: l, p, n, h, ⟨a, b⟩ => ⟨by rw [h x List.mem_cons_self]; exact a, DL_congr (fun y hy => h y (List.mem_cons_of_mem _ hy)) b⟩
/-- The slots of some nodes. -/
def tA (l : List Nd) : List Int := l.map Nd.t
theorem mem_tA {l : List Nd} {a : Int} : a ∈ tA l ↔ ∃ x, x ∈ l ∧ x.t = a := by simp [tA]
theorem lsA_mem : ∀ {l : List Nd} {p : Int}, l ≠ [] → lsA l p ∈ tA l
  | [], _, h => absurd rfl h
  | [x], _, _ => by simp [lsA, tA]
  | x :: y :: l, p, _ => List.mem_cons_of_mem _ (lsA_mem (l := y :: l) (p := x.t) (by simp))
theorem hdA_mem {l : List Nd} {n : Int} (h : l ≠ []) : hdA l n ∈ tA l := by
  cases l with
  | nil => exact absurd rfl h
  | cons x l => simp [hdA, tA]
theorem lsA_p {l : List Nd} {p q : Int} (h : l ≠ []) : lsA l p = lsA l q := by
  cases l with
  | nil => exact absurd rfl h
  | cons x l => rfl
/-- The last one's link. -/
theorem DL_last {σ : Int → Sl} {n' : Int} : ∀ {l : List Nd} {p n : Int}, l ≠ [] → (tA l).Nodup → DL σ p l n → DL (setA σ (lsA l 0) { σ (lsA l 0) with x := n' }) p l n'
  | [], _, _, h, _, _ => absurd rfl h
  | [x], p, n, _, _, ⟨a, _⟩ => by
    refine ⟨?_, trivial⟩
    show setA σ x.t { σ x.t with x := n' } x.t = _
    rw [setA_same, a]
    rfl
  | x :: y :: l, p, n, _, hd, ⟨a, b⟩ => by
    have hd' : x.t ∉ tA (y :: l) ∧ (tA (y :: l)).Nodup := List.nodup_cons.1 hd
    have hm : lsA (y :: l) 0 ∈ tA (y :: l) := lsA_mem (by simp)
    have hne : x.t ≠ lsA (y :: l) 0 := fun e => hd'.1 (by rw [e]; exact hm)
    refine ⟨?_, DL_last (l := y :: l) (by simp) hd'.2 b⟩
    show setA σ (lsA (y :: l) 0) _ x.t = _
    rw [setA_other hne]
    exact a
/-- The first one's link. -/
theorem DL_first {σ : Int → Sl} {p' : Int} {x : Nd} {l : List Nd} {p n : Int} (hd : (tA (x :: l)).Nodup) (h : DL σ p (x :: l) n) : DL (setA σ x.t { σ x.t with p := p' }) p' (x :: l) n := by
  obtain ⟨a, b⟩ := h
  have hd' : x.t ∉ tA l ∧ (tA l).Nodup := List.nodup_cons.1 hd
  refine ⟨?_, DL_congr (fun y hy => setA_other fun e => hd'.1 (by rw [← e]; exact mem_tA.2 ⟨y, hy, rfl⟩)) b⟩
  rw [setA_same, a]
  rfl
theorem xA_other {σ : Int → Sl} {a y c : Int} (h : c ≠ a ∨ a = 0) : xA σ a y c = σ c := by
  unfold xA
  split
  · rfl
  · exact setA_other (h.elim id fun e => absurd e (by assumption))
theorem pA_other {σ : Int → Sl} {a y c : Int} (h : c ≠ a ∨ a = 0) : pA σ a y c = σ c := by
  unfold pA
  split
  · rfl
  · exact setA_other (h.elim id fun e => absurd e (by assumption))
theorem tieA_other {σ : Int → Sl} {a b c : Int} (h1 : c ≠ a ∨ a = 0) (h2 : c ≠ b ∨ b = 0) : tieA σ a b c = σ c := by
  unfold tieA
  rw [pA_other h2, xA_other h1]
theorem DL_out {σ : Int → Sl} {a b : Int} {l : List Nd} {p n : Int} (h1 : a ∉ tA l) (h2 : b ∉ tA l) (h : DL σ p l n) : DL (tieA σ a b) p l n :=
  DL_congr (fun x hx => tieA_other (.inl fun e => h1 (by rw [← e]; exact mem_tA.2 ⟨x, hx, rfl⟩)) (.inl fun e => h2 (by rw [← e]; exact mem_tA.2 ⟨x, hx, rfl⟩))) h
theorem DL_left {σ : Int → Sl} {a b : Int} {l : List Nd} {p n : Int} (hne : l ≠ []) (ha : lsA l 0 = a) (h0 : (0 : Int) ∉ tA l) (hd : (tA l).Nodup) (h2 : b ∉ tA l) (h : DL σ p l n) : DL (tieA σ a b) p l b := by
  have hm : a ∈ tA l := by rw [← ha]; exact lsA_mem hne
  have ha0 : a ≠ 0 := fun e => h0 (by rw [← e]; exact hm)
  refine DL_congr (σ := xA σ a b) (fun x hx => pA_other (.inl fun e => h2 (by rw [← e]; exact mem_tA.2 ⟨x, hx, rfl⟩))) ?_
  unfold xA
  rw [if_neg ha0, ← ha]
  exact DL_last hne hd h
theorem DL_right {σ : Int → Sl} {a b : Int} {l : List Nd} {p n : Int} (hne : l ≠ []) (hb : hdA l 0 = b) (h0 : (0 : Int) ∉ tA l) (hd : (tA l).Nodup) (h1 : a ∉ tA l) (h : DL σ p l n) : DL (tieA σ a b) a l n := by
  cases l with
  | nil => exact absurd rfl hne
  | cons x l =>
    have hb : x.t = b := hb
    subst hb
    have hb0 : x.t ≠ 0 := fun e => h0 (by rw [← e]; simp [tA])
    unfold tieA pA
    rw [if_neg hb0]
    refine DL_first hd (p := p) (DL_congr (fun y hy => xA_other (.inl fun e => h1 (by rw [← e]; exact mem_tA.2 ⟨y, hy, rfl⟩))) h)
theorem tA_app (l1 l2 : List Nd) : tA (l1 ++ l2) = tA l1 ++ tA l2 := List.map_append ..
/-- Two pieces, tied. -/
theorem join2 {σ : Int → Sl} {l1 l2 : List Nd} {n p m : Int} (hd : (tA (l1 ++ l2)).Nodup) (h0 : (0 : Int) ∉ tA (l1 ++ l2)) (hm : l2 = [] → m = 0) (h1 : DL σ 0 l1 n) (h2 : DL σ p l2 m) : DL (tieA σ (lsA l1 0) (hdA l2 0)) 0 (l1 ++ l2) m := by
  rw [tA_app] at hd h0
  obtain ⟨d1, d2, d3⟩ := List.nodup_append.1 hd
  have z1 : (0 : Int) ∉ tA l1 := fun h => h0 (List.mem_append_left _ h)
  have z2 : (0 : Int) ∉ tA l2 := fun h => h0 (List.mem_append_right _ h)
  rw [DL_app]
  by_cases e1 : l1 = []
  · subst e1
    refine ⟨trivial, ?_⟩
    by_cases e2 : l2 = []
    · subst e2; exact trivial
    · exact DL_right e2 rfl z2 d2 z2 h2
  · have m1 : lsA l1 0 ∈ tA l1 := lsA_mem e1
    by_cases e2 : l2 = []
    · subst e2
      rw [hm rfl]
      exact ⟨DL_left e1 rfl z1 d1 z1 h1, trivial⟩
    · have m2 : hdA l2 0 ∈ tA l2 := hdA_mem e2
      have e3 : hdA l2 m = hdA l2 0 := by cases l2 with
        | nil => exact absurd rfl e2
        | cons _ _ => rfl
      rw [e3]
      exact ⟨DL_left e1 rfl z1 d1 (fun h => d3 _ h _ m2 rfl) h1, DL_right e2 rfl z2 d2 (fun h => d3 _ m1 _ h rfl) h2⟩
/-- One between two, tied. -/
theorem join3 {σ : Int → Sl} {l1 l2 : List Nd} {x : Nd} {n1 p n p2 : Int} (hd : (tA (l1 ++ x :: l2)).Nodup) (h0 : (0 : Int) ∉ tA (l1 ++ x :: l2)) (h1 : DL σ 0 l1 n1) (hx : DL σ p [x] n) (h2 : DL σ p2 l2 0) :
    DL (tieA (tieA σ (lsA l1 0) x.t) x.t (hdA l2 0)) 0 (l1 ++ x :: l2) 0 := by
  have hd2 : (tA ((l1 ++ [x]) ++ l2)).Nodup := by simpa using hd
  have h02 : (0 : Int) ∉ tA ((l1 ++ [x]) ++ l2) := by simpa using h0
  have hd3 := hd2
  have h03 := h02
  rw [tA_app] at hd3 h03
  obtain ⟨d1, d2, d3⟩ := List.nodup_append.1 hd3
  have z1 : (0 : Int) ∉ tA (l1 ++ [x]) := fun h => h03 (List.mem_append_left _ h)
  have z2 : (0 : Int) ∉ tA l2 := fun h => h03 (List.mem_append_right _ h)
  have mx : x.t ∈ tA (l1 ++ [x]) := by rw [tA_app]; exact List.mem_append_right _ (by simp [tA])
  have k1 : DL (tieA σ (lsA l1 0) x.t) 0 (l1 ++ [x]) n := join2 (l2 := [x]) d1 z1 (fun e => by cases e) h1 hx
  have ma : lsA l1 0 ∉ tA l2 := by
    by_cases e1 : l1 = []
    · subst e1; exact z2
    · intro h
      exact d3 _ (by rw [tA_app]; exact List.mem_append_left _ (lsA_mem e1)) _ h rfl
  have k2 : DL (tieA σ (lsA l1 0) x.t) p2 l2 0 := DL_out ma (fun h => d3 _ mx _ h rfl) h2
  have k3 := join2 hd2 h02 (fun _ => rfl) k1 k2
  have el : lsA (l1 ++ [x]) 0 = x.t := by rw [lsA_app]; rfl
  rw [el] at k3
  simpa using k3
end Go.Sx.M

namespace Go.Sx.M
open Go Go.Sx
theorem right_eqS {z : Sl} (h : SlR z) : f45_1 z.k z.a z.b z.r z.g z.s z.m = f50_2 z.k z.a z.b z.r z.g z.s z.m := right_eq h.a.1 h.a.2 h.b h.m.1 h.m.2 h.g.2
/-- A node that may stand in a tree. -/
structure NdOk (n : Int) (x : Nd) : Prop where
  at_ : slOK n x.t
  nz : x.t ≠ 0
  k : x.k ≠ 0
  R : SlR (slN x)
  r : rgt (slN x) = true
  d0 : 0 ≤ x.d
  d1 : x.d ≤ 4096
theorem sN_ok {n : Int} {x : Nd} (h : NdOk n x) {a b : Int} (ha : lnk a) (hb : lnk b) : SlR (sN x a b) ∧ rightS (sN x a b) = true := by
  have h2 : SlR (sN x a b) := ⟨h.R.k, h.R.a, h.R.b, h.R.r, h.R.g, h.R.s, h.R.m, ⟨ha.1, by have := ha.2.1; show a < 18446744073709551616; omega⟩, ⟨hb.1, by have := hb.2.1; show b < 18446744073709551616; omega⟩, ⟨by have := h.d0; show -9223372036854775808 ≤ x.d; omega, by have := h.d1; show x.d < 9223372036854775808; omega⟩⟩
  exact ⟨h2, (rightS_iff h2).2 ⟨h.r, ⟨ha.2.1, ha.2.2⟩, ⟨hb.2.1, hb.2.2⟩, h.d0, h.d1⟩⟩
/-- The tree holds these nodes. -/
structure RepS (t : TS) (l : List Nd) (σ : Int → Sl) : Prop where
  E : Enc t.M σ
  f : t.f = hdA l 0
  c : t.c = l.length
  nd : (tA l).Nodup
  ok : ∀ x, x ∈ l → NdOk t.M.size x
  dl : DL σ 0 l 0
  out : ∀ a, a ∉ tA l → slOK t.M.size a → σ a = sl0
def Rep (t : TS) (l : List Nd) : Prop := ∃ σ, RepS t l σ
theorem RepS.z0 {t : TS} {l : List Nd} {σ : Int → Sl} (h : RepS t l σ) : (0 : Int) ∉ tA l := fun e => by
  obtain ⟨x, hx, hz⟩ := mem_tA.1 e
  exact (h.ok x hx).nz hz
theorem DL_mem {σ : Int → Sl} : ∀ {l : List Nd} {p n : Int} {x : Nd}, DL σ p l n → x ∈ l → ∃ a b, σ x.t = sN x a b
  | [], _, _, _, _, h => by cases h
  | y :: l, p, n, x, ⟨a, b⟩, h => by
    rcases List.mem_cons.1 h with rfl | h
    · exact ⟨_, _, a⟩
    · exact DL_mem b h
/-- The node of a slot. -/
theorem fnd_spec {l : List Nd} (hd : (tA l).Nodup) (a : Int) : (∃ i : Nat, i < l.length ∧ (gN l i).t = a ∧ fnd l a = i ∧ gN l i ∈ l ∧ l = l.take i ++ gN l i :: l.drop (i + 1)) ∨ (a ∉ tA l ∧ fnd l a = -1) := by
  have e := nds_gN l
  rcases fnd_cases (gN l) l.length a with ⟨i, h1, h2, _, h4⟩ | ⟨h1, h2⟩
  · rw [e] at h4
    have hg : gN l i = l[i] := by simp [gN, List.getD, List.getElem?_eq_getElem h1]
    refine .inl ⟨i, h1, h2, h4, by rw [hg]; exact List.getElem_mem h1, ?_⟩
    rw [hg, List.getElem_cons_drop h1, List.take_append_drop]
  · rw [e] at h2
    refine .inr ⟨fun hm => ?_, h2⟩
    obtain ⟨x, hx, rfl⟩ := mem_tA.1 hm
    obtain ⟨i, hi, rfl⟩ := List.getElem_of_mem hx
    exact h1 i hi (by simp [gN, List.getD, List.getElem?_eq_getElem hi])
theorem mayT_eq {n a : Int} (h : 0 ≤ a) : mayT n a = errS n a := by
  unfold mayT errS
  rw [Int.tmod_eq_emod_of_nonneg h]
  by_cases h1 : a % 32 = 0
  · by_cases h2 : n ≤ a <;> simp [cnd_eq, h1, h2]
  · simp [cnd_eq, h1]
theorem mayT_ok {n a : Int} (h : 0 ≤ a) : mayT n a = 0 ↔ slOK n a := by
  rw [mayT_eq h]
  exact ⟨fun e => ⟨h, (errS_ok e).1, (errS_ok e).2⟩, fun e => errS_mk e.2.1 e.2.2⟩
/-- What is loaded where. -/
theorem RepS.ld {t : TS} {l : List Nd} {σ : Int → Sl} (h : RepS t l σ) {a : Int} (hu : U64 a) :
    (slOK t.M.size a ∧ mayT t.M.size a = 0 ∧ ldE t.M a = 0 ∧ ld t.M a = σ a ∧ ((∃ i : Nat, i < l.length ∧ (gN l i).t = a ∧ fnd l a = i ∧ gN l i ∈ l ∧ l = l.take i ++ gN l i :: l.drop (i + 1)) ∨ (a ∉ tA l ∧ fnd l a = -1 ∧ σ a = sl0))) ∨
      (¬ slOK t.M.size a ∧ mayT t.M.size a ≠ 0 ∧ ldE t.M a = mayT t.M.size a ∧ ld t.M a = sl0 ∧ fnd l a = -1 ∧ a ∉ tA l) := by
  by_cases hs : slOK t.M.size a
  · obtain ⟨h1, h2⟩ := h.E.ld hs
    refine .inl ⟨hs, (mayT_ok hu.1).2 hs, h2, h1, ?_⟩
    rcases fnd_spec h.nd a with q | ⟨q1, q2⟩
    · exact .inl q
    · exact .inr ⟨q1, q2, h.out a q1 hs⟩
  · obtain ⟨h1, h2, h3⟩ := ld_not (M := t.M) hu hs
    have hm : a ∉ tA l := fun e => by
      obtain ⟨x, hx, rfl⟩ := mem_tA.1 e
      exact hs (h.ok x hx).at_
    refine .inr ⟨hs, fun e => hs ((mayT_ok hu.1).1 e), by rw [h2, mayT_eq hu.1], h1, ?_, hm⟩
    rcases fnd_spec h.nd a with ⟨i, _, q2, _, q4, _⟩ | ⟨_, q2⟩
    · exact absurd (mem_tA.2 ⟨_, q4, q2⟩) hm
    · exact q2
theorem RepS.hdE {t : TS} {l : List Nd} {σ : Int → Sl} (h : RepS t l σ) {a : Int} (hu : U64 a) : hdE t.M a = hdT t.M.size l a := by
  unfold Go.Sx.M.hdE hdT
  rcases h.ld hu with ⟨_, m0, e0, el, ⟨i, _, ht, hf, hm, _⟩ | ⟨_, hf, hz⟩⟩ | ⟨_, m0, e0, el, hf, _⟩
  · obtain ⟨p, q, hs⟩ := DL_mem h.dl hm
    rw [ht] at hs
    have hk := (h.ok _ hm).k
    have hi1 : ¬ ((i : Int) < 0) := by omega
    have hi2 : (0 : Int) ≤ i := by omega
    rw [e0, m0, el, hs, hf]
    simp [cnd_eq, sN, hk, hi1]
  · rw [e0, m0, el, hz, hf]
    simp [cnd_eq, sl0]
  · rw [e0, hf]
    simp [cnd_eq, m0]
theorem RepS.frE {t : TS} {l : List Nd} {σ : Int → Sl} (h : RepS t l σ) {a : Int} (hu : U64 a) : frE t.M a = frT t.M.size l a := by
  unfold Go.Sx.M.frE frT
  rcases h.ld hu with ⟨_, m0, e0, el, ⟨i, _, ht, hf, hm, _⟩ | ⟨_, hf, hz⟩⟩ | ⟨_, m0, e0, el, hf, _⟩
  · obtain ⟨p, q, hs⟩ := DL_mem h.dl hm
    rw [ht] at hs
    have hk := (h.ok _ hm).k
    have hi1 : ¬ ((i : Int) < 0) := by omega
    have hi2 : (0 : Int) ≤ i := by omega
    rw [e0, m0, el, hs, hf]
    by_cases ha : a = 0 <;> simp [cnd_eq, sN, hk, ha, hi2]
  · rw [e0, m0, el, hz, hf]
    by_cases ha : a = 0 <;> simp [cnd_eq, sl0, ha]
  · rw [e0, hf]
    simp [cnd_eq, m0]
theorem mayC_eq {x : Nd} (h : SlR (slN x)) : mayC (slN x) = cnd (badC x) 10 0 := by
  have e := right_eqS h
  have e : f45_1 x.k x.a x.b x.r x.g x.s x.m = f50_2 x.k x.a x.b x.r x.g x.s x.m := e
  simp only [mayC, slN, f178_0, badC, e]
theorem RepS.ftE {t : TS} {l : List Nd} {σ : Int → Sl} (h : RepS t l σ) {x : Nd} (hu : U64 x.t) (hx : SlR (slN x)) : ftE t.M t.c x.t (slN x) = ftT t.M.size l x := by
  unfold Go.Sx.M.ftE ftT
  rw [h.frE hu, mayC_eq hx, h.c]
  cases badC x <;> rfl
end Go.Sx.M

namespace Go.Sx.M
open Go Go.Sx Go.Proofs Go.RowKit
/-- What a node's capability says. -/
theorem node_facts {z : Sl} (h : SlR z) (ho : pOk z = true) :
    z.g + z.b ≤ 64 ∧ 0 ≤ z.m ∧ z.m < ((2 ^ z.g.toNat : Nat) : Int) ∧ 0 ≤ z.a ∧ z.a % 32 = 0 ∧ z.a + ((2 ^ z.b.toNat : Nat) : Int) * 32 ≤ 4294967296 := by
  obtain ⟨k2, hr, _, _, _, _, ⟨b0, b1⟩, ⟨g0, g1⟩⟩ := pOk_spec h ho
  have hd : f50_2 z.k z.a z.b z.r z.g z.s z.m = true := rgt2 h hr
  obtain ⟨q1, q2, q3⟩ := right_size' hr
  have hsb := (slots_bits q1).1 (.inl k2)
  have hl : f127_1 z.k z.a z.b z.r z.g z.s z.m = true := by
    cases hh : f127_1 z.k z.a z.b z.r z.g z.s z.m with
    | true => rfl
    | false => rw [← hd]; simp [f50_2, hh, cnd_eq]
  have hm : f128_5 z.k z.a z.b z.r z.g z.s z.m = true := by revert hd; simp only [f50_2, hl, cnd_eq]; grind (splits := 40)
  have hpg := p26_eq (n := z.g.toNat) (by omega)
  have hpb := p26_eq (n := (z.b + 5).toNat) (by omega)
  have e5 : (z.b + 5).toNat = z.b.toNat + 5 := by omega
  have hw : IntKind.i64.wrap (64 - z.b) = 64 - z.b := wi (by omega) (by omega)
  have hpw : (2 : Nat) ^ (z.b.toNat + 5) = 2 ^ z.b.toNat * 32 := by rw [Nat.pow_add]
  have hle : (2 : Nat) ^ z.b.toNat ≤ 2 ^ 12 := Nat.pow_le_pow_right (by omega) (by omega)
  have h12 : (2 : Nat) ^ 12 = 4096 := by decide
  have ha := h.a
  have hmm := h.m
  have a1 : z.a < 4294967296 ∧ z.a.tmod (p26 (z.b + 5).toNat) = 0 ∧ IntKind.u64.wrap (z.a + p26 (z.b + 5).toNat) ≤ 4294967296 := by
    have hd : decide (z.b + 5 < 0) = false := decide_eq_false (by omega)
    simp only [f127_1, hsb.2.2, hd] at hl
    revert hl
    generalize z.a.tmod (p26 (z.b + 5).toNat) = u
    generalize IntKind.u64.wrap (z.a + p26 (z.b + 5).toNat) = u2
    simp only [cnd_eq]
    grind
  have m1 : z.g ≤ 64 - z.b ∧ z.m < p26 z.g.toNat := by
    simp only [f128_5, k2, hw] at hm
    revert hm
    generalize p26 z.g.toNat = u
    simp only [cnd_eq]
    grind
  obtain ⟨x1, x2, x3⟩ := a1
  rw [hpb, e5, hpw] at x3 x2
  rw [hpg] at m1
  have hw2 : IntKind.u64.wrap (z.a + ((2 ^ z.b.toNat * 32 : Nat) : Int)) = z.a + ((2 ^ z.b.toNat * 32 : Nat) : Int) := wrap_u64_id (by have := ha.1; omega) (by omega)
  rw [hw2] at x3
  have x4 : z.a % ((2 ^ z.b.toNat * 32 : Nat) : Int) = 0 := by rw [← Int.tmod_eq_emod_of_nonneg ha.1]; exact x2
  have x5 : (32 : Int) ∣ z.a := Int.dvd_trans (by rw [show (32 : Int) = ((32 : Nat) : Int) by rfl, Int.natCast_dvd_natCast]; exact Nat.dvd_mul_left _ _) (Int.dvd_of_emod_eq_zero x4)
  have mm0 := hmm.1
  have aa0 := ha.1
  refine ⟨by omega, by omega, by omega, by omega, by omega, by omega⟩
/-- The bits that are taken. -/
theorem pT_eq {w : Nat} {l n : Int} (hw : w < 18446744073709551616) (h0 : 0 ≤ l) (h1 : 0 ≤ n) (h2 : l + n ≤ 64) (h3 : n ≤ 63) : pT w l n = ((w / 2 ^ l.toNat % 2 ^ n.toNat : Nat) : Int) := by
  unfold pT
  by_cases hn : n = 0
  · subst hn
    simp [cnd, Nat.mod_one]
  · rw [beq_eq_false_iff_ne.2 hn]
    show f102_1 l n w = _
    refine field_get hw ?_ h0 (by omega) (by omega) h3
    have hw2 : IntKind.i64.wrap (64 - l) = 64 - l := wi (by omega) (by omega)
    simp only [f165_0, hw2]
    rw [decide_eq_true (show l ≥ 0 by omega), decide_eq_true (show l < 64 by omega), decide_eq_true (show n ≥ 1 by omega), decide_eq_true (show n ≤ 64 - l by omega)]
    rfl
/-- A step through a node that is wide enough. -/
theorem p_at {w : Nat} {l a b g m : Int} (hw : w < 18446744073709551616) (hp : pnOk l b g) (hle : g + b ≤ l) (ha : 0 ≤ a) (ha2 : a + ((2 ^ b.toNat : Nat) : Int) * 32 ≤ 4294967296) :
    pF w l b g m = (((w / 2 ^ (l - g).toNat % 2 ^ g.toNat : Nat) : Int) != m) ∧ (pF w l b g m = false → pL w l b g m = l - g - b ∧ pS w l a b g m = a + ((w / 2 ^ (l - g - b).toNat % 2 ^ b.toNat : Nat) : Int) * 32) := by
  have hp0 := hp
  obtain ⟨⟨l0, l1⟩, ⟨b0, b1⟩, ⟨g0, g1⟩⟩ := hp
  have hG : pG l b g = false := by
    unfold pG
    rw [wi (by omega) (by omega)]
    exact decide_eq_false (by omega)
  have e1 : IntKind.i64.wrap (l - g) = l - g := wi (by omega) (by omega)
  refine ⟨?_, fun hf => ?_⟩
  · unfold pF
    rw [hG, e1, pT_eq hw (by omega) g0 (by omega) g1]
    rfl
  · obtain ⟨q1, q2, q3⟩ := pL_less hp0 hf
    refine ⟨q1, ?_⟩
    have e2 : IntKind.i64.wrap (pL1 l b g - b) = l - g - b := by
      have : pL w l b g m = IntKind.i64.wrap (pL1 l b g - b) := by unfold pL; rw [hf]; rfl
      rw [← this, q1]
    unfold pS
    rw [hf, e2, pT_eq hw (by omega) (by omega) (by omega) (by omega)]
    have hlt : w / 2 ^ (l - g - b).toNat % 2 ^ b.toNat < 2 ^ b.toNat := Nat.mod_lt _ (Nat.pow_pos (by omega))
    generalize w / 2 ^ (l - g - b).toNat % 2 ^ b.toNat = t at *
    show IntKind.u64.wrap (a + IntKind.u64.wrap ((t : Int) * 32)) = _
    rw [wrap_u64_id (x := (t : Int) * 32) (by omega) (by omega), wrap_u64_id (by omega) (by omega)]
/-- A number with a node's guard ahead. -/
def pM (z : Sl) (w : Nat) (l : Int) : Bool := ((w / 2 ^ (l - z.g).toNat % 2 ^ z.g.toNat : Nat) : Int) == z.m
def pX (z : Sl) (w : Nat) (l : Int) : Int := z.a + ((w / 2 ^ (l - z.g - z.b).toNat % 2 ^ z.b.toNat : Nat) : Int) * 32
theorem wkM_end {cf : Int → Sl} {z : Sl} (hz : SlR z) (ho : pOk z = true) {w n : Nat} {c : Int} (hw : w < 18446744073709551616) :
    wkM cf w (n + 1) (z.g + z.b) c (pNa z) (pNb z) (pNg z) (pNm z) = ⟨cnd (pM z w (z.g + z.b)) (pX z w (z.g + z.b)) 0, pM z w (z.g + z.b), cnd (pM z w (z.g + z.b)) 0 z.b, IntKind.i64.wrap (c + 1)⟩ := by
  obtain ⟨_, _, e1, e2, e3, e4, hb, hg⟩ := pOk_spec hz ho
  obtain ⟨n1, n2, n3, n4, n5, n6⟩ := node_facts hz ho
  have hp : pnOk (z.g + z.b) z.b z.g := ⟨by omega, hb, hg⟩
  obtain ⟨f1, f2⟩ := p_at (m := z.m) hw hp (Int.le_refl _) n4 n6
  rw [e1, e2, e3, e4]
  simp only [wkM]
  have hM : pM z w (z.g + z.b) = !pF w (z.g + z.b) z.b z.g z.m := by
    rw [f1]
    unfold pM
    simp [bne]
  cases hF : pF w (z.g + z.b) z.b z.g z.m with
  | true =>
    rw [hM, hF]
    have hG : pG (z.g + z.b) z.b z.g = false := by
      unfold pG
      rw [wi (by omega) (by omega)]
      exact decide_eq_false (by omega)
    have hL : pL w (z.g + z.b) z.b z.g z.m = z.b := by
      unfold pL pL1
      rw [hF, hG]
      show IntKind.i64.wrap (z.g + z.b - z.g) = z.b
      rw [wi (by omega) (by omega)]
      omega
    have hS : pS w (z.g + z.b) z.a z.b z.g z.m = 0 := by unfold pS; rw [hF]; rfl
    rw [hL, hS]
    rfl
  | false =>
    obtain ⟨g1, g2⟩ := f2 hF
    rw [hM, hF, g1, g2]
    have h0 : z.g + z.b - z.g - z.b = 0 := by omega
    rw [h0]
    unfold pX
    rw [h0]
    rfl
theorem wkM_on {cf : Int → Sl} {z : Sl} (hz : SlR z) (ho : pOk z = true) {w n : Nat} {l c : Int} (hw : w < 18446744073709551616) (hl : z.g + z.b < l) (hl2 : l ≤ 64) (hm : pM z w l = true) (hc : pOk (cf (pX z w l)) = true) :
    wkM cf w (n + 1) l c (pNa z) (pNb z) (pNg z) (pNm z) = wkM cf w n (l - z.g - z.b) (IntKind.i64.wrap (c + 1)) (pNa (cf (pX z w l))) (pNb (cf (pX z w l))) (pNg (cf (pX z w l))) (pNm (cf (pX z w l))) := by
  obtain ⟨_, _, e1, e2, e3, e4, hb, hg⟩ := pOk_spec hz ho
  obtain ⟨n1, n2, n3, n4, n5, n6⟩ := node_facts hz ho
  have hp : pnOk l z.b z.g := ⟨by omega, hb, hg⟩
  obtain ⟨f1, f2⟩ := p_at (m := z.m) hw hp (by omega) n4 n6
  have hF : pF w l z.b z.g z.m = false := by
    rw [f1]
    unfold pM at hm
    simp only [beq_iff_eq] at hm
    rw [hm]
    simp
  obtain ⟨g1, g2⟩ := f2 hF
  have g2 : pS w l z.a z.b z.g z.m = pX z w l := g2
  rw [e1, e2, e3, e4]
  simp only [wkM]
  rw [hF, g1, g2, hc]
  have : (l - z.g - z.b == 0) = false := beq_eq_false_iff_ne.2 (by omega)
  rw [this]
  rfl
theorem bgE_mk {z : Sl} {l : Int} (ho : pOk z = true) (h1 : 1 ≤ l) (h2 : l ≤ 64) : bgE z l = 0 := by
  have hb : lbad l = false := by
    unfold lbad
    rw [decide_eq_false (by omega), decide_eq_false (by omega)]
    rfl
  unfold bgE
  rw [hb, ho]
  rfl
/-- A number of a node's own bits is found, or not, whatever the tree has. -/
theorem fd_one {M : Mem} {z : Sl} (hz : SlR z) (ho : pOk z = true) {w : Nat} (hw : w < 18446744073709551616) :
    fdE M z w (z.g + z.b) = cnd (pM z w (z.g + z.b)) 0 23 ∧ fdA M z w (z.g + z.b) = cnd (pM z w (z.g + z.b)) (pX z w (z.g + z.b)) 0 := by
  obtain ⟨_, _, _, _, _, _, hb, hg⟩ := pOk_spec hz ho
  obtain ⟨n1, _⟩ := node_facts hz ho
  have hbg := bgE_mk (l := z.g + z.b) ho (by omega) n1
  unfold fdE fdA wkE wkA wkB wkW
  rw [hbg, wkM_end hz ho hw]
  cases pM z w (z.g + z.b) <;> exact ⟨rfl, rfl⟩
/-- Through one slot that holds a node into that. -/
theorem fd_two {M : Mem} (hM : MemR M) {z y : Sl} (hz : SlR z) (ho : pOk z = true) (hy : pOk y = true) {w : Nat} (hw : w < 18446744073709551616) (hn : z.g + z.b + y.g + y.b ≤ 64)
    (hm : pM z w (z.g + z.b + y.g + y.b) = true) (hc : capS (ld M (pX z w (z.g + z.b + y.g + y.b))) = y) :
    fdE M z w (z.g + z.b + y.g + y.b) = cnd (pM y w (y.g + y.b)) 0 23 ∧ fdA M z w (z.g + z.b + y.g + y.b) = cnd (pM y w (y.g + y.b)) (pX y w (y.g + y.b)) 0 := by
  have hyR : SlR y := hc ▸ capS_R (ld_SlR hM _)
  obtain ⟨_, _, _, _, _, _, hb, hg⟩ := pOk_spec hz ho
  obtain ⟨_, _, _, _, _, _, hb', hg'⟩ := pOk_spec hyR hy
  have hbg := bgE_mk (l := z.g + z.b + y.g + y.b) ho (by omega) hn
  have hl : ∃ k : Nat, (z.g + z.b + y.g + y.b).toNat = k + 1 := ⟨(z.g + z.b + y.g + y.b).toNat - 1, by omega⟩
  obtain ⟨k, hk⟩ := hl
  unfold fdE fdA wkE wkA wkB wkW
  rw [hbg, hk, wkM_on (cf := fun a => capS (ld M a)) hz ho hw (by omega) hn hm (by show pOk (capS (ld M _)) = true; rw [hc]; exact hy)]
  simp only [hc]
  have e : z.g + z.b + y.g + y.b - z.g - z.b = y.g + y.b := by omega
  rw [e, wkM_end hyR hy hw]
  cases pM y w (y.g + y.b) <;> exact ⟨rfl, rfl⟩
theorem ok_eq {z : Sl} (h : SlR z) : cnd (z.k != 2) true (!f50_2 z.k z.a z.b z.r z.g z.s z.m) = !pOk z := by
  rw [← right_eqS h]
  unfold pOk
  by_cases hk : z.k = 2
  · cases hr : f45_1 z.k z.a z.b z.r z.g z.s z.m with
    | false => simp [f124_4, f124_6, cnd_eq, hk, hr]; rw [hk] at hr; simp [hr]
    | true =>
      obtain ⟨q1, q2, q3⟩ := right_size' hr
      have hsb := (slots_bits q1).1 (.inl hk)
      have e6 : f124_6 ⟨z.k, z.a, z.b, z.r, z.g, z.s, z.m⟩ = false := by
        have e5 : f124_5 ⟨z.k, z.a, z.b, z.r, z.g, z.s, z.m⟩ = z.b + 5 := by
          simp only [f124_5, f162_0, q1, hr, q2, hsb.2.2]
          rfl
        simp only [f124_6, hr, e5]
        rw [decide_eq_false (by omega)]
        rfl
      simp only [f124_4, e6]
      simp [cnd_eq, hk]
  · simp [f124_4, cnd_eq, hk]
end Go.Sx.M

namespace Go.Sx.M
open Go Go.Sx Go.Proofs Go.RowKit
theorem node_size {z : Sl} (h : SlR z) (ho : pOk z = true) : f129_1 z.k z.a z.b z.r z.g z.s z.m = ((2 ^ z.b.toNat : Nat) : Int) ∧ f126_0 z.k z.a z.b z.r z.g z.s z.m = z.a + ((2 ^ z.b.toNat : Nat) : Int) * 32 := by
  obtain ⟨k2, hr, _, _, _, _, ⟨b0, b1⟩, ⟨g0, g1⟩⟩ := pOk_spec h ho
  obtain ⟨n1, n2, n3, n4, n5, n6⟩ := node_facts h ho
  obtain ⟨q1, q2, q3⟩ := right_size' hr
  have hsb := (slots_bits q1).1 (.inl k2)
  obtain ⟨p1, p2, p3, p4, p5⟩ := pow_slots (b := z.b) (by omega) (by omega)
  have hpb := p26_eq (n := z.b.toNat) (by omega)
  constructor
  · simp only [f129_1, p1]
    have hr : f45_1 z.k z.a z.b z.r z.g z.s z.m = true := hr
    rw [hr, k2, hpb]
    rfl
  · have e : f162_0 z.k z.a z.b z.r z.g z.s z.m = z.b + 5 := by
      have hr : f45_1 z.k z.a z.b z.r z.g z.s z.m = true := hr
      simp only [f162_0, q1, hr, q2, hsb.2.2]
      rfl
    have eo : f123_1 (z.b + 5) = p26 (z.b + 5).toNat - 1 := ones_eq (by omega) (by omega)
    simp only [f126_0, e, eo]
    rw [decide_eq_false (by omega), p3, hpb]
    show IntKind.u64.wrap (IntKind.u64.wrap (z.a + (((2 ^ z.b.toNat : Nat) : Int) * 32 - 1)) + 1) = _
    have hp : 0 < 2 ^ z.b.toNat := Nat.pow_pos (by omega)
    rw [wrap_u64_id (x := z.a + (((2 ^ z.b.toNat : Nat) : Int) * 32 - 1)) (by omega) (by omega), wrap_u64_id (by omega) (by omega)]
    omega
/-- A slot's own number. -/
def own (z : Sl) (n : Nat) : Nat := z.m.toNat * 2 ^ z.b.toNat + n
theorem own_lt {z : Sl} (h : SlR z) (ho : pOk z = true) {n : Nat} (hn : n < 2 ^ z.b.toNat) : own z n < 2 ^ (z.g + z.b).toNat ∧ own z n < 18446744073709551616 := by
  obtain ⟨_, _, _, _, _, _, ⟨b0, b1⟩, ⟨g0, g1⟩⟩ := pOk_spec h ho
  obtain ⟨n1, n2, n3, _⟩ := node_facts h ho
  have e : (z.g + z.b).toNat = z.g.toNat + z.b.toNat := by omega
  have hm : z.m.toNat + 1 ≤ 2 ^ z.g.toNat := by omega
  have h1 : own z n < 2 ^ (z.g + z.b).toNat := by
    rw [e, Nat.pow_add]
    unfold own
    calc z.m.toNat * 2 ^ z.b.toNat + n < z.m.toNat * 2 ^ z.b.toNat + 2 ^ z.b.toNat := by omega
      _ = (z.m.toNat + 1) * 2 ^ z.b.toNat := by rw [Nat.add_mul, Nat.one_mul]
      _ ≤ 2 ^ z.g.toNat * 2 ^ z.b.toNat := Nat.mul_le_mul_right _ hm
  have h2 : 2 ^ (z.g + z.b).toNat ≤ 2 ^ 64 := Nat.pow_le_pow_right (by omega) (by omega)
  have h64 : (2 : Nat) ^ 64 = 18446744073709551616 := by decide
  exact ⟨h1, by omega⟩
theorem own_or {z : Sl} (h : SlR z) (ho : pOk z = true) {n : Nat} (hn : n < 2 ^ z.b.toNat) :
    Go.bits Go.BinOp.or Go.IntKind.u64 (Go.IntKind.u64.wrap (z.m * (2 : Int) ^ Min.min z.b.toNat (64 : Nat))) (n : Int) = own z n := by
  obtain ⟨_, _, _, _, _, _, ⟨b0, b1⟩, ⟨g0, g1⟩⟩ := pOk_spec h ho
  obtain ⟨n1, n2, n3, _⟩ := node_facts h ho
  obtain ⟨w1, w2⟩ := own_lt h ho hn
  have e : Min.min z.b.toNat 64 = z.b.toNat := by omega
  have e2 : z.m * (2 : Int) ^ z.b.toNat = ((z.m.toNat * 2 ^ z.b.toNat : Nat) : Int) := by
    have : z.m = (z.m.toNat : Int) := by omega
    rw [this]
    simp
  have hle : z.m.toNat * 2 ^ z.b.toNat ≤ own z n := by unfold own; omega
  rw [e, e2, wrap_u64_id (by omega) (by omega), u64_or_nat _ _ (by omega) (by unfold own at w2; omega)]
  have := Nat.two_pow_add_eq_or_of_lt hn z.m.toNat
  rw [Nat.mul_comm] at this
  rw [← this]
  rfl
theorem own_at {z : Sl} (h : SlR z) (ho : pOk z = true) {n : Nat} (hn : n < 2 ^ z.b.toNat) (x : Nat) :
    (pM z x (z.g + z.b) = true ∧ pX z x (z.g + z.b) = z.a + (n : Int) * 32) ↔ x % 2 ^ (z.g + z.b).toNat = own z n := by
  obtain ⟨_, _, _, _, _, _, ⟨b0, b1⟩, ⟨g0, g1⟩⟩ := pOk_spec h ho
  obtain ⟨n1, n2, n3, _⟩ := node_facts h ho
  have e : (z.g + z.b).toNat = z.b.toNat + z.g.toNat := by omega
  have e1 : (z.g + z.b - z.g).toNat = z.b.toNat := by omega
  have e2 : (z.g + z.b - z.g - z.b).toNat = 0 := by omega
  unfold pM pX own
  rw [e1, e2, e, Nat.pow_add, Nat.mod_mul, Nat.pow_zero, Nat.div_one]
  have hlt : x % 2 ^ z.b.toNat < 2 ^ z.b.toNat := Nat.mod_lt _ (Nat.pow_pos (by omega))
  generalize x / 2 ^ z.b.toNat % 2 ^ z.g.toNat = u
  generalize x % 2 ^ z.b.toNat = r at hlt ⊢
  generalize 2 ^ z.b.toNat = B at *
  obtain ⟨m, hm⟩ : ∃ m : Nat, z.m = m := ⟨z.m.toNat, by omega⟩
  rw [hm, beq_iff_eq]
  constructor
  · rintro ⟨h1, h2⟩
    have h1 : u = m := by omega
    have h2 : r = n := by omega
    rw [h1, h2, Int.toNat_natCast, Nat.mul_comm]
    omega
  · intro h1
    rw [Int.toNat_natCast] at h1
    have hmod := congrArg (· % B) h1
    have hdiv := congrArg (· / B) h1
    have hB : 0 < B := by omega
    simp only [Nat.add_mul_mod_self_left, Nat.mul_add_mod_self_right, Nat.mod_eq_of_lt hlt, Nat.mod_eq_of_lt hn, Nat.add_mul_div_left _ _ hB, Nat.div_eq_of_lt hlt, Nat.div_eq_of_lt hn, Nat.zero_add] at hmod hdiv
    have h3 : (m * B + n) / B = m := by
      rw [Nat.add_comm, Nat.add_mul_div_right _ _ hB, Nat.div_eq_of_lt hn, Nat.zero_add]
    rw [h3] at hdiv
    exact ⟨by omega, by omega⟩
theorem own_mod {z : Sl} (h : SlR z) (ho : pOk z = true) {n : Nat} (hn : n < 2 ^ z.b.toNat) : own z n % 2 ^ (z.g + z.b).toNat = own z n := Nat.mod_eq_of_lt (own_lt h ho hn).1
end Go.Sx.M

namespace Go.Sx.M
open Go Go.Sx
theorem ends_ne {l : List Nd} {a : Int} (h : a ∉ tA l) : (a ≠ lsA l 0 ∨ lsA l 0 = 0) ∧ (a ≠ hdA l 0 ∨ hdA l 0 = 0) := by
  by_cases e : l = []
  · subst e; exact ⟨.inr rfl, .inr rfl⟩
  · exact ⟨.inl fun k => h (by rw [k]; exact lsA_mem e), .inl fun k => h (by rw [k]; exact hdA_mem e)⟩
theorem lsA_ok {n : Int} {l : List Nd} (h : ∀ x, x ∈ l → NdOk n x) : lsA l 0 = 0 ∨ slOK n (lsA l 0) := by
  by_cases e : l = []
  · subst e; exact .inl rfl
  · obtain ⟨x, hx, ht⟩ := mem_tA.1 (lsA_mem (p := 0) e)
    rw [← ht]
    exact .inr (h x hx).at_
theorem hdA_ok {n : Int} {l : List Nd} (h : ∀ x, x ∈ l → NdOk n x) : hdA l 0 = 0 ∨ slOK n (hdA l 0) := by
  by_cases e : l = []
  · subst e; exact .inl rfl
  · obtain ⟨x, hx, ht⟩ := mem_tA.1 (hdA_mem (n := 0) e)
    rw [← ht]
    exact .inr (h x hx).at_
theorem lnk0 : lnk 0 := ⟨by omega, by omega, rfl⟩
theorem lsA_nz {n : Int} {l : List Nd} (h : ∀ x, x ∈ l → NdOk n x) (e : l ≠ []) : lsA l 0 ≠ 0 := by
  obtain ⟨x, hx, ht⟩ := mem_tA.1 (lsA_mem (p := 0) e)
  rw [← ht]
  exact (h x hx).nz
/-- The first slot, once two pieces are tied. -/
theorem tieF_hd {n : Int} {l1 l2 : List Nd} {f : Int} (h : ∀ x, x ∈ l1 → NdOk n x) (hf : l1 ≠ [] → f = hdA l1 0) : tieF f (lsA l1 0) (hdA l2 0) = hdA (l1 ++ l2) 0 := by
  unfold tieF
  by_cases e : l1 = []
  · subst e; rfl
  · rw [beq_eq_false_iff_ne.2 (lsA_nz h e)]
    show f = _
    rw [hf e, hdA_app]
    cases l1 with
    | nil => exact absurd rfl e
    | cons _ _ => rfl
theorem RepS.ins {t : TS} {l1 l2 : List Nd} {σ : Int → Sl} (h : RepS t (l1 ++ l2) σ) {x : Nd} (hx : NdOk t.M.size x) (hn : x.t ∉ tA (l1 ++ l2)) (hl : (l1 ++ l2).length ≤ 100000) :
    ∃ τ, RepS ⟨insM t.M (lsA l1 0) (hdA l2 0) x.t (slN x) x.d, insF t.f (lsA l1 0) (hdA l2 0) x.t, IntKind.i64.wrap (t.c + 1)⟩ (l1 ++ x :: l2) τ := by
  have ok1 : ∀ y, y ∈ l1 → NdOk t.M.size y := fun y hy => h.ok y (List.mem_append_left _ hy)
  have ok2 : ∀ y, y ∈ l2 → NdOk t.M.size y := fun y hy => h.ok y (List.mem_append_right _ hy)
  obtain ⟨r1, r2⟩ := sN_ok hx lnk0 lnk0
  obtain ⟨E1, _, z1⟩ := h.E.st hx.at_ r1 r2
  obtain ⟨E2, z2⟩ := E1.tie (a := lsA l1 0) (b := x.t) (by rw [z1]; exact lsA_ok ok1) (by rw [z1]; exact .inr hx.at_)
  obtain ⟨E3, z3⟩ := E2.tie (a := x.t) (b := hdA l2 0) (by rw [z2, z1]; exact .inr hx.at_) (by rw [z2, z1]; exact hdA_ok ok2)
  have hsz : (insM t.M (lsA l1 0) (hdA l2 0) x.t (slN x) x.d).size = t.M.size := ins_size _ _ _ _ _ _
  rw [tA_app] at hn
  have n1 : x.t ∉ tA l1 := fun e => hn (List.mem_append_left _ e)
  have n2 : x.t ∉ tA l2 := fun e => hn (List.mem_append_right _ e)
  obtain ⟨q1, q2⟩ := DL_app.1 h.dl
  have nd := h.nd
  rw [tA_app] at nd
  obtain ⟨d1, d2, d3⟩ := List.nodup_append.1 nd
  have hd : (tA (l1 ++ x :: l2)).Nodup := by
    rw [tA_app]
    refine List.nodup_append.2 ⟨d1, List.nodup_cons.2 ⟨n2, d2⟩, ?_⟩
    intro a ha b hb e
    rcases List.mem_cons.1 hb with rfl | hb
    · exact n1 (by rw [← e]; exact ha)
    · exact d3 a ha b hb e
  have z0 := h.z0
  rw [tA_app] at z0
  have h0 : (0 : Int) ∉ tA (l1 ++ x :: l2) := by
    rw [tA_app]
    intro e
    rcases List.mem_append.1 e with e | e
    · exact z0 (List.mem_append_left _ e)
    · rcases List.mem_cons.1 e with e | e
      · exact hx.nz e.symm
      · exact z0 (List.mem_append_right _ e)
  refine ⟨_, E3, ?_, ?_, hd, ?_, ?_, ?_⟩
  · show tieF (tieF t.f (lsA l1 0) x.t) x.t (hdA l2 0) = _
    have e1 : tieF t.f (lsA l1 0) x.t = hdA (l1 ++ [x]) 0 := tieF_hd (l2 := [x]) ok1 fun e => by
      rw [h.f, hdA_app]
      cases l1 with
      | nil => exact absurd rfl e
      | cons _ _ => rfl
    rw [e1]
    have e2 : lsA (l1 ++ [x]) 0 = x.t := by rw [lsA_app]; rfl
    have := tieF_hd (n := t.M.size) (l1 := l1 ++ [x]) (l2 := l2) (f := hdA (l1 ++ [x]) 0) (fun y hy => by
      rcases List.mem_append.1 hy with hy | hy
      · exact ok1 y hy
      · simp at hy; subst hy; exact hx) fun _ => rfl
    rw [e2] at this
    rw [this]
    simp
  · show IntKind.i64.wrap (t.c + 1) = _
    rw [h.c, wi (by omega) (by omega)]
    simp only [List.length_append, List.length_cons]
    omega
  · intro y hy
    show NdOk (insM t.M (lsA l1 0) (hdA l2 0) x.t (slN x) x.d).size y
    rw [hsz]
    rcases List.mem_append.1 hy with hy | hy
    · exact ok1 y hy
    · rcases List.mem_cons.1 hy with rfl | hy
      · exact hx
      · exact ok2 y hy
  · refine join3 (n := 0) (p := 0) hd h0 (DL_congr (fun y hy => setA_other fun e => n1 (by rw [← e]; exact mem_tA.2 ⟨y, hy, rfl⟩)) q1) ?_ (DL_congr (fun y hy => setA_other fun e => n2 (by rw [← e]; exact mem_tA.2 ⟨y, hy, rfl⟩)) q2)
    exact ⟨setA_same, trivial⟩
  · intro a ha hs
    have hs : slOK (insM t.M (lsA l1 0) (hdA l2 0) x.t (slN x) x.d).size a := hs
    rw [hsz] at hs
    rw [tA_app] at ha
    have a1 : a ∉ tA l1 := fun e => ha (List.mem_append_left _ e)
    have a2 : a ∉ tA l2 := fun e => ha (List.mem_append_right _ (List.mem_cons_of_mem _ e))
    have ax : a ≠ x.t := fun e => ha (List.mem_append_right _ (by rw [e]; exact List.mem_cons_self))
    rw [tieA_other (.inl ax) (ends_ne a2).2, tieA_other (ends_ne a1).1 (.inl ax)]
    show setA σ x.t _ a = _
    rw [setA_other ax]
    exact h.out a (by rw [tA_app]; exact fun e => (List.mem_append.1 e).elim a1 a2) hs
theorem badC_ok {x : Nd} (h : SlR (slN x)) (hb : badC x = false) : x.k ≠ 0 ∧ rgt (slN x) = true := by
  have e := right_eqS h
  have e : f45_1 x.k x.a x.b x.r x.g x.s x.m = f50_2 x.k x.a x.b x.r x.g x.s x.m := e
  unfold badC at hb
  rw [← e] at hb
  have hr : f45_1 x.k x.a x.b x.r x.g x.s x.m = true := by
    cases hh : f45_1 x.k x.a x.b x.r x.g x.s x.m with
    | true => rfl
    | false => rw [hh] at hb; cases hb
  rw [hr] at hb
  have hb : (x.k == 0) = false := hb
  exact ⟨fun e => (by rw [e] at hb; cases hb), hr⟩
theorem ftT_ok {z : Int} {l : List Nd} {x : Nd} (hu : 0 ≤ x.t) (h : ftT z l x = 0) : slOK z x.t ∧ x.t ≠ 0 ∧ fnd l x.t < 0 ∧ badC x = false ∧ l.length < 65536 := by
  unfold ftT frT at h
  simp only [cnd_eq] at h
  by_cases m : mayT z x.t = 0
  · refine ⟨(mayT_ok hu).1 m, ?_⟩
    grind
  · grind
theorem RepS.root {t : TS} {l : List Nd} {σ : Int → Sl} (h : RepS t l σ) {x : Nd} (hu : U64 x.t) (hx : SlR (slN x)) (hd : x.d = 0) (hl : l.length ≤ 100000) :
    rtE t x.t (slN x) = rtR t.M.size l x ∧ (∃ τ, RepS (rtT t x.t (slN x)) (rtL t.M.size l x) τ) ∧ (rtT t x.t (slN x)).M.size = t.M.size := by
  have e := h.ftE hu hx
  unfold rtE rtT rtR rtL
  rw [e]
  by_cases hz : ftT t.M.size l x = 0
  · obtain ⟨q1, q2, q3, q4, q5⟩ := ftT_ok hu.1 hz
    obtain ⟨b1, b2⟩ := badC_ok hx q4
    have hok : NdOk t.M.size x := ⟨q1, q2, b1, hx, b2, by omega, by omega⟩
    have hn : x.t ∉ tA ([] ++ l) := by
      rcases fnd_spec h.nd x.t with ⟨i, _, _, q, _⟩ | ⟨q, _⟩
      · omega
      · exact q
    obtain ⟨τ, R⟩ := RepS.ins (l1 := []) h hok hn hl
    have hb : (ftT t.M.size l x != 0) = false := by simp [hz]
    rw [hb]
    refine ⟨rfl, ⟨τ, ?_⟩, ins_size _ _ _ _ _ _⟩
    have hf := h.f
    rw [hd] at R
    have e1 : lsA ([] : List Nd) 0 = 0 := rfl
    rw [e1, ← hf] at R
    exact R
  · have hb : (ftT t.M.size l x != 0) = true := by simp [hz]
    rw [hb]
    exact ⟨rfl, ⟨σ, h⟩, rfl⟩
end Go.Sx.M

namespace Go.Sx.M
open Go Go.Sx
theorem cnd_f {α : Type} (a b : α) : cnd false a b = b := rfl
theorem cnd_t {α : Type} (a b : α) : cnd true a b = a := rfl
theorem op0_rep : RepS op0.1 [] (fun _ => sl0) :=
  ⟨Enc.new (by decide) (by decide) (by decide), rfl, rfl, List.nodup_nil, fun x h => (by cases h), trivial, fun _ _ _ => rfl⟩
theorem opS_rep (f : Nat → Nd) : ∀ (i : Nat), i ≤ 1000 → (∀ j, j < i → U64 (f j).t ∧ SlR (slN (f j)) ∧ (f j).d = 0) → (∃ σ, RepS (opS (nds f i)).1 (opS (nds f i)).2 σ) ∧ (opS (nds f i)).1.M.size = 65536
  | 0, _, _ => ⟨⟨_, op0_rep⟩, rfl⟩
  | i + 1, hi, h => by
    obtain ⟨⟨σ, R⟩, z⟩ := opS_rep f i (by omega) fun j hj => h j (by omega)
    obtain ⟨q1, q2, q3⟩ := h i (by omega)
    have hl := opS_len f i
    obtain ⟨_, ⟨τ, R2⟩, z2⟩ := R.root q1 q2 q3 (by omega)
    rw [opS_succ]
    rw [z] at R2 z2
    exact ⟨⟨τ, R2⟩, z2⟩
/-- Where a node stands. -/
theorem RepS.at_ {t : TS} {l : List Nd} {σ : Int → Sl} (h : RepS t l σ) {a : Int} (hu : U64 a) (he : hdT t.M.size l a = 0) :
    ∃ (l1 l2 : List Nd) (g : Nd), l = l1 ++ g :: l2 ∧ g.t = a ∧ fnd l a = l1.length ∧ atN l a = g ∧ Go.Sx.M.ld t.M a = sN g (hdA l2 0) (lsA l1 0) ∧ σ a = sN g (hdA l2 0) (lsA l1 0) ∧ slOK t.M.size a := by
  rcases h.ld hu with ⟨hs, m0, e0, el, ⟨i, hi, ht, hf, hm, hl⟩ | ⟨_, hf, hz⟩⟩ | ⟨_, m0, e0, el, hf, _⟩
  · refine ⟨l.take i, l.drop (i + 1), gN l i, hl, ht, by rw [hf, List.length_take]; omega, by unfold atN; rw [hf]; rfl, ?_⟩
    have hd := h.dl
    rw [hl] at hd
    obtain ⟨_, q⟩ := DL_app.1 hd
    obtain ⟨q, _⟩ := q
    rw [ht] at q
    exact ⟨by rw [el]; exact q, q, hs⟩
  · exfalso
    unfold hdT at he
    rw [m0, hf] at he
    cases he
  · exfalso
    unfold hdT at he
    rw [hf, beq_eq_false_iff_ne.2 m0] at he
    exact m0 he
theorem RepS.child {t : TS} {l : List Nd} {σ : Int → Sl} (h : RepS t l σ) {p : Int} {x : Nd} (hp : U64 p) (hu : U64 x.t) (hx : SlR (slN x)) (hl : l.length ≤ 100000) :
    chE t p x.t (slN x) = chR t.M.size l p x ∧ (∃ τ, RepS (chT t p x.t (slN x)) (chL t.M.size l p x) τ) ∧ (chT t p x.t (slN x)).M.size = t.M.size := by
  have e1 := h.ftE hu hx
  have e2 := h.hdE hp
  unfold chE chT chR chL
  rw [e1, e2]
  by_cases hz1 : hdT t.M.size l p = 0
  · obtain ⟨l1, l2, g, rfl, ht, hf, ha, hld, hs, hok⟩ := h.at_ hp hz1
    have hb1 : (hdT t.M.size (l1 ++ g :: l2) p != 0) = false := by simp [hz1]
    simp only [hb1, mrgM_f, cnd_f]
    by_cases hz : ftT t.M.size (l1 ++ g :: l2) x = 0
    · have hb2 : (ftT t.M.size (l1 ++ g :: l2) x != 0) = false := by simp [hz]
      rw [hld, ha]
      simp only [hb2, mrgM_f, cnd_f]
      obtain ⟨q1, q2, q3, q4, q5⟩ := ftT_ok hu.1 hz
      obtain ⟨b1, b2⟩ := badC_ok hx q4
      have hg := h.ok g (List.mem_append_right _ List.mem_cons_self)
      have hd : (sN g (hdA l2 0) (lsA l1 0)).d = g.d := rfl
      have hxx : (sN g (hdA l2 0) (lsA l1 0)).x = hdA l2 0 := rfl
      rw [hd, hxx]
      by_cases hdp : g.d ≥ 4096
      · simp only [decide_eq_true hdp, mrgM_t, cnd_t]
        exact ⟨trivial, ⟨σ, h⟩, trivial⟩
      · simp only [decide_eq_false hdp, mrgM_f, cnd_f]
        have hw : IntKind.i64.wrap (g.d + 1) = g.d + 1 := by have := hg.d0; rw [wi (by omega) (by omega)]
        have hok2 : NdOk t.M.size { x with d := IntKind.i64.wrap (g.d + 1) } := ⟨q1, q2, b1, hx, b2, by have := hg.d0; show 0 ≤ IntKind.i64.wrap (g.d + 1); rw [hw]; omega, by show IntKind.i64.wrap (g.d + 1) ≤ 4096; rw [hw]; omega⟩
        have hn : x.t ∉ tA (l1 ++ g :: l2) := by
          rcases fnd_spec h.nd x.t with ⟨i, _, _, q, _⟩ | ⟨q, _⟩
          · omega
          · exact q
        have hh : RepS t ((l1 ++ [g]) ++ l2) σ := by simpa using h
        obtain ⟨τ, R⟩ := RepS.ins (x := { x with d := IntKind.i64.wrap (g.d + 1) }) hh hok2 (by simpa using hn) (by simpa using hl)
        have el : lsA (l1 ++ [g]) 0 = p := by rw [lsA_app]; exact ht
        rw [el] at R
        have ep : putN (l1 ++ g :: l2) ((fnd (l1 ++ g :: l2) p).toNat + 1) { x with d := IntKind.i64.wrap (g.d + 1) } = (l1 ++ [g]) ++ { x with d := IntKind.i64.wrap (g.d + 1) } :: l2 := by
          rw [hf]
          unfold putN
          have hlen : ((l1.length : Int).toNat + 1) = (l1 ++ [g]).length := by simp
          have hsp : l1 ++ g :: l2 = (l1 ++ [g]) ++ l2 := by simp
          rw [hlen, hsp, List.take_left, List.drop_left]
        refine ⟨trivial, ⟨τ, ?_⟩, ins_size _ _ _ _ _ _⟩
        rw [ep]
        exact R
    · have hb2 : (ftT t.M.size (l1 ++ g :: l2) x != 0) = true := by simp [hz]
      simp only [hb2, mrgM_t, cnd_t]
      exact ⟨trivial, ⟨σ, h⟩, trivial⟩
  · have hb1 : (hdT t.M.size l p != 0) = true := by simp [hz1]
    simp only [hb1, mrgM_t, cnd_t]
    exact ⟨trivial, ⟨σ, h⟩, trivial⟩
end Go.Sx.M

namespace Go.Sx.M
open Go Go.Sx Go.Proofs Go.RowKit
theorem pow_b {b : Int} (b0 : 0 ≤ b) (b1 : b ≤ 12) : (2 : Int) ^ Min.min b.toNat (64 : Nat) = ((2 ^ b.toNat : Nat) : Int) ∧ 0 < 2 ^ b.toNat ∧ 2 ^ b.toNat ≤ 4096 := by
  have e : Min.min b.toNat 64 = b.toNat := by omega
  have h : (2 : Nat) ^ b.toNat ≤ 2 ^ 12 := Nat.pow_le_pow_right (by omega) (by omega)
  have h12 : (2 : Nat) ^ 12 = 4096 := by decide
  exact ⟨by rw [e]; simp, Nat.pow_pos (by omega), by omega⟩
/-- A node's slot, by its place. -/
theorem slot_at {z : Sl} (h : SlR z) (ho : pOk z = true) {n : Int} (h0 : 0 ≤ n) (h1 : n < ((2 ^ z.b.toNat : Nat) : Int)) :
    IntKind.u64.wrap n = n ∧ IntKind.u64.wrap (z.a + IntKind.u64.wrap (IntKind.u64.wrap n * 32)) = z.a + n * 32 := by
  obtain ⟨_, _, _, _, _, _, ⟨b0, b1⟩, _⟩ := pOk_spec h ho
  obtain ⟨n1, n2, n3, n4, n5, n6⟩ := node_facts h ho
  obtain ⟨_, p1, p2⟩ := pow_b (b := z.b) (by omega) b1
  have e : IntKind.u64.wrap n = n := wrap_u64_id (by omega) (by omega)
  refine ⟨e, ?_⟩
  rw [e, wrap_u64_id (x := n * 32) (by omega) (by omega), wrap_u64_id (by omega) (by omega)]
theorem law10_true (v : V10) (hc : SlR ⟨v.k, v.a, v.b, v.r, v.g, v.s, v.m, 0, 0, 0⟩) (hn : I64 v.n) (hx : U64 v.x) : (f10 v).ok ∧ f10_9 v = true := by
  have e11 : f10_11 v = !pOk ⟨v.k, v.a, v.b, v.r, v.g, v.s, v.m, 0, 0, 0⟩ := ok_eq hc
  have hM : MemR op0.1.M := op0_R.1
  have e24 : f10_24 v = ⟨v.k, v.a, v.b, v.r, v.g, v.s, v.m, 0, 0, 0⟩ := rfl
  have e51 : f51_3 (f10_10 v) = ⟨v.k, v.a, v.b, v.r, v.g, v.s, v.m, 0, 0, 0⟩ := rfl
  cases ho : pOk ⟨v.k, v.a, v.b, v.r, v.g, v.s, v.m, 0, 0, 0⟩ with
  | false =>
    have e11 : f10_11 v = true := by rw [e11, ho]; rfl
    refine ⟨⟨trivial, fun _ => trivial, fun _ _ => trivial, fun _ _ h _ => ?_, fun _ _ h _ _ => ?_, fun _ _ h _ _ => ?_, fun _ _ h _ _ => ?_, fun _ _ h _ _ _ => ?_, fun _ _ h _ _ _ => ?_, trivial⟩, ?_⟩
    iterate 6 (rw [e11] at h; cases h)
    unfold f10_9
    rw [e11]
    show cnd (f10_16 v == 20) (f10_23 v) false = true
    unfold f10_23 f10_16 f10_17 f51_1 f51_2
    rw [e51, ho]
    rfl
  | true =>
    have e11 : f10_11 v = false := by rw [e11, ho]; rfl
    obtain ⟨_, _, a1, a2, a3, a4, ⟨b0, b1⟩, ⟨g0, g1⟩⟩ := pOk_spec hc ho
    obtain ⟨n1, n2, n3, n4, n5, n6⟩ := node_facts hc ho
    obtain ⟨s1, s2⟩ := node_size hc ho
    have b0 : 1 ≤ v.b := b0
    have b1 : v.b ≤ 12 := b1
    have g0 : 0 ≤ v.g := g0
    have n1 : v.g + v.b ≤ 64 := n1
    obtain ⟨p0, p1, p2⟩ := pow_b (b := v.b) (by omega) b1
    have e20 : f10_20 v = v.g + v.b := by unfold f10_20; rw [wi (by omega) (by omega)]
    have hpw : f10_21 v = true → f10_22 v = ((2 ^ (v.g + v.b).toNat : Nat) : Int) ∧ 0 < 2 ^ (v.g + v.b).toNat := by
      intro h21
      unfold f10_21 at h21
      rw [e20] at h21
      have h21 := of_decide_eq_true h21
      have e : Min.min (v.g + v.b).toNat 64 = (v.g + v.b).toNat := by omega
      have hl : (2 : Nat) ^ (v.g + v.b).toNat ≤ 2 ^ 63 := Nat.pow_le_pow_right (by omega) (by omega)
      have h63 : (2 : Nat) ^ 63 = 9223372036854775808 := by decide
      have hc : (2 : Int) ^ (v.g + v.b).toNat = ((2 ^ (v.g + v.b).toNat : Nat) : Int) := by simp
      unfold f10_22
      have hp : 0 < 2 ^ (v.g + v.b).toNat := Nat.pow_pos (by omega)
      rw [e20, e, Int.one_mul, hc]
      generalize 2 ^ (v.g + v.b).toNat = P at hp hl
      rw [wrap_u64_id (by omega) (by omega)]
      exact ⟨rfl, hp⟩
    refine ⟨⟨trivial, fun _ => trivial, fun _ _ => trivial, fun _ _ _ _ => by omega, fun _ _ _ _ _ => by omega, fun _ _ _ _ _ => ⟨hc, hM⟩, fun _ _ _ _ _ => ⟨hc, hM⟩, fun _ _ _ _ _ _ => by rw [e20]; omega, fun _ _ _ _ _ h => ?_, trivial⟩, ?_⟩
    · obtain ⟨q1, q2⟩ := hpw h
      rw [q1]
      exact Int.natCast_ne_zero.2 (Nat.pos_iff_ne_zero.1 q2)
    · have e14 : f10_14 v = ((2 ^ v.b.toNat : Nat) : Int) := by
        unfold f10_14 f10_13
        rw [p0, Int.one_mul, wi (by omega) (by omega)]
      have e54 : f51_4 (f10_10 v) = ((2 ^ v.b.toNat : Nat) : Int) := s1
      have e15 : f10_15 v = cnd (decide (v.n < 0)) true (decide (v.n ≥ ((2 ^ v.b.toNat : Nat) : Int))) := by unfold f10_15 f10_12; rw [e14]
      have e16 : f10_16 v = cnd (f10_15 v) 12 0 := by
        unfold f10_16 f51_2
        rw [e51, ho, e54, e15]
        rfl
      have e17 : f10_17 v = cnd (f10_15 v) 0 (IntKind.u64.wrap (v.a + IntKind.u64.wrap (IntKind.u64.wrap v.n * 32))) := by
        unfold f10_17 f51_1
        rw [e51, ho, e54, e15, a1]
        rfl
      unfold f10_9
      rw [e11]
      simp only [cnd_f]
      cases h15 : f10_15 v with
      | true =>
        rw [h15] at e16 e17
        unfold f10_23
        rw [e16, e17]
        rfl
      | false =>
        rw [h15] at e16 e17
        have hr : 0 ≤ v.n ∧ v.n < ((2 ^ v.b.toNat : Nat) : Int) := by
          rw [e15] at h15
          simp only [cnd_or, Bool.or_eq_false_iff, decide_eq_false_iff_not] at h15
          omega
        obtain ⟨N, hN⟩ : ∃ N : Nat, v.n = N := ⟨v.n.toNat, by omega⟩
        have hNB : N < 2 ^ v.b.toNat := by omega
        obtain ⟨t1, t2⟩ := slot_at (z := ⟨v.k, v.a, v.b, v.r, v.g, v.s, v.m, 0, 0, 0⟩) hc ho hr.1 hr.2
        have t2 : IntKind.u64.wrap (v.a + IntKind.u64.wrap (IntKind.u64.wrap v.n * 32)) = v.a + v.n * 32 := t2
        have e18 : f10_18 v = false := by
          unfold f10_18
          rw [e16, e17]
          show (_ != _) = false
          exact bne_self_eq_false _
        have e17 : f10_17 v = v.a + (N : Int) * 32 := by
          rw [e17, ← hN, ← t2]
          rfl
        have e19 : f10_19 v = own ⟨v.k, v.a, v.b, v.r, v.g, v.s, v.m, 0, 0, 0⟩ N := by
          unfold f10_19 f10_13
          rw [t1, hN]
          exact own_or hc ho hNB
        obtain ⟨X, hX⟩ : ∃ X : Nat, v.x = X := ⟨v.x.toNat, by have := hx.1; omega⟩
        have hX2 : X < 18446744073709551616 := by have := hx.2; omega
        obtain ⟨w1, w2⟩ := own_lt hc ho hNB
        obtain ⟨y1, y2⟩ := fd_one (M := op0.1.M) hc ho w2
        obtain ⟨u1, u2⟩ := fd_one (M := op0.1.M) hc ho hX2
        obtain ⟨i1, i2⟩ := (own_at hc ho hNB (own ⟨v.k, v.a, v.b, v.r, v.g, v.s, v.m, 0, 0, 0⟩ N)).2 (own_mod hc ho hNB)
        have iX := own_at hc ho hNB X
        rw [e18, e24, e20, e19, e17, hX]
        have y1 : fdE op0.1.M ⟨v.k, v.a, v.b, v.r, v.g, v.s, v.m, 0, 0, 0⟩ (own ⟨v.k, v.a, v.b, v.r, v.g, v.s, v.m, 0, 0, 0⟩ N) (v.g + v.b) = _ := y1
        have y2 : fdA op0.1.M ⟨v.k, v.a, v.b, v.r, v.g, v.s, v.m, 0, 0, 0⟩ (own ⟨v.k, v.a, v.b, v.r, v.g, v.s, v.m, 0, 0, 0⟩ N) (v.g + v.b) = _ := y2
        have u1 : fdE op0.1.M ⟨v.k, v.a, v.b, v.r, v.g, v.s, v.m, 0, 0, 0⟩ X (v.g + v.b) = _ := u1
        have u2 : fdA op0.1.M ⟨v.k, v.a, v.b, v.r, v.g, v.s, v.m, 0, 0, 0⟩ X (v.g + v.b) = _ := u2
        rw [y1, y2, u1, u2, i1, i2]
        have hlow : cnd (f10_21 v) ((X : Int).tmod (f10_22 v)) (X : Int) = ((X % 2 ^ (v.g + v.b).toNat : Nat) : Int) := by
          cases h21 : f10_21 v with
          | true =>
            obtain ⟨q1, q2⟩ := hpw h21
            rw [q1]
            rw [cnd_t, Int.tmod_eq_emod_of_nonneg (by omega)]
            simp
          | false =>
            unfold f10_21 at h21
            rw [e20] at h21
            have h21 := of_decide_eq_false h21
            have e64 : (v.g + v.b).toNat = 64 := by omega
            have h64 : (2 : Nat) ^ 64 = 18446744073709551616 := by decide
            rw [e64, h64, Nat.mod_eq_of_lt hX2]
            rfl
        rw [hlow]
        simp only [cnd_t, cnd_f]
        have iX : (pM ⟨v.k, v.a, v.b, v.r, v.g, v.s, v.m, 0, 0, 0⟩ X (v.g + v.b) = true ∧ pX ⟨v.k, v.a, v.b, v.r, v.g, v.s, v.m, 0, 0, 0⟩ X (v.g + v.b) = v.a + (N : Int) * 32) ↔ X % 2 ^ (v.g + v.b).toNat = own ⟨v.k, v.a, v.b, v.r, v.g, v.s, v.m, 0, 0, 0⟩ N := iX
        generalize hO : own ⟨v.k, v.a, v.b, v.r, v.g, v.s, v.m, 0, 0, 0⟩ N = O at *
        by_cases hq : X % 2 ^ (v.g + v.b).toNat = O
        · obtain ⟨r1, r2⟩ := iX.2 hq
          have r1 : pM ⟨v.k, v.a, v.b, v.r, v.g, v.s, v.m, 0, 0, 0⟩ (X : Nat) (v.g + v.b) = true := r1
          rw [hq]
          simp [cnd, r1, r2]
        · have hb : (((X % 2 ^ (v.g + v.b).toNat : Nat) : Int) == (O : Int)) = false := beq_eq_false_iff_ne.2 (by omega)
          rw [hb]
          cases hm : pM ⟨v.k, v.a, v.b, v.r, v.g, v.s, v.m, 0, 0, 0⟩ X (v.g + v.b) with
          | false => simp [cnd]
          | true =>
            have : pX ⟨v.k, v.a, v.b, v.r, v.g, v.s, v.m, 0, 0, 0⟩ X (v.g + v.b) ≠ v.a + (N : Int) * 32 := fun e => hq (iX.1 ⟨hm, e⟩)
            simp [cnd, this]
end Go.Sx.M

namespace Go.Sx.M
open Go Go.Sx Go.Proofs Go.RowKit
set_option maxRecDepth 100000
def pre10 (v : V10) : Prop := SlR ⟨v.k, v.a, v.b, v.r, v.g, v.s, v.m, 0, 0, 0⟩ ∧ I64 v.n ∧ U64 v.x
theorem n10 (v : V10) (h : pre10 v) : (f10 v).ok ∧ (f10 v).get.1 = .bool true ∧ HOws (f10 v).get.2.1 [] := by
  obtain ⟨k1, k2⟩ := law10_true v h.1 h.2.1 h.2.2
  exact ⟨k1, congrArg SV.bool k2, .refl _⟩
noncomputable def f10n (v : V10) : Tr (Fin th.R) := .need (pre10 v) (.leaf (.bool true, [], []))
theorem s10n : Sound Try.prog th 10 (fnC d10 ofV10 f10n) := fnC_refine s10 fun v h => by
  obtain ⟨hp, _⟩ := h
  obtain ⟨a, b, c⟩ := n10 v hp
  exact ⟨a, b.symm, (qdd10 v).symm, c, by show 0 ≤ 0; decide⟩
theorem claw10 (v : V10) : fnC d10 ofV10 f10n (A10 v) (H10 v) = some ((f10n v).map (fixF (H10 v))) := by kernel_rfl
noncomputable def nice10n : List (Nat × CF th.R) := (10, lift (fnC d10 ofV10 f10n)) :: nice77
theorem nok10n : NiceOk Try.prog th nice10n := ⟨lift_sound s10n, nok77⟩
end Go.Sx.M

namespace Go.Sx.M
open Go Go.Sx Go.Proofs Go.RowKit
/-- The number of a node's own slot. -/
theorem number_at {z : Sl} (h : SlR z) (ho : pOk z = true) {a : Int} (ha : U64 a) (h32 : a % 32 = 0) (h0 : z.a ≤ a) (h1 : a < z.a + ((2 ^ z.b.toNat : Nat) : Int) * 32) (v : V49) (e5 : f49_5 v = z) (ea : v.at_ = a) (e8 : f49_8 v = z.a + ((2 ^ z.b.toNat : Nat) : Int) * 32) :
    f49_1 v ∧ ∃ N : Nat, N < 2 ^ z.b.toNat ∧ a = z.a + (N : Int) * 32 ∧ f49_2 v = own z N ∧ f49_3 v = z.g + z.b ∧ f49_4 v = 0 := by
  obtain ⟨_, _, a1, a2, a3, a4, ⟨b0, b1⟩, ⟨g0, g1⟩⟩ := pOk_spec h ho
  obtain ⟨n1, n2, n3, n4, n5, n6⟩ := node_facts h ho
  have hal : f125_0 v.at_ 5 = true := by
    rw [ea, aligned_eq ha.1 ha.2 (by omega) (by omega)]
    have : p26 (Int.toNat 5) = 32 := by decide +kernel
    rw [this, h32]
    rfl
  have e7 : f49_7 v = z.a := by unfold f49_7; rw [e5, a1]
  have e10 : f49_10 v = z.b := by unfold f49_10; rw [e5, a2]
  have e6 : f49_6 v = false := by unfold f49_6; rw [e5, ho]; rfl
  have e9 : f49_9 v = false := by
    unfold f49_9
    rw [e7, e8, ea, decide_eq_false (by omega), decide_eq_false (by omega)]
    rfl
  refine ⟨fun _ _ _ => ⟨fun _ => by rw [e10]; omega, fun _ => by decide⟩, ?_⟩
  obtain ⟨N, hN⟩ : ∃ N : Nat, (a - z.a) / 32 = N := ⟨((a - z.a) / 32).toNat, by omega⟩
  have hNB : N < 2 ^ z.b.toNat := by omega
  refine ⟨N, hNB, by omega, ?_, ?_, ?_⟩
  · unfold f49_2
    rw [e6, hal, e9, e5, a4, e10, ea, e7, wrap_u64_id (x := a - z.a) (by omega) (by have := ha.2; omega), Int.tdiv_eq_ediv_of_nonneg (by omega), hN]
    have hle : (2 : Nat) ^ z.b.toNat ≤ 2 ^ 12 := Nat.pow_le_pow_right (by omega) (by omega)
    have h12 : (2 : Nat) ^ 12 = 4096 := by decide
    rw [wrap_u64_id (x := (N : Int)) (by omega) (by omega)]
    exact own_or h ho hNB
  · unfold f49_3
    rw [e6, hal, e9, e5, a3, e10]
    exact wi (by omega) (by omega)
  · unfold f49_4
    rw [e6, hal, e9]
    rfl
theorem law9_true (v : V9) (hc : SlR ⟨v.k, v.a, v.b, v.r, v.g, v.s, v.m, 0, 0, 0⟩) (hx : U64 v.x) : (f9 v).ok ∧ f9_7 v = true := by
  have e9 : f9_9 v = !pOk ⟨v.k, v.a, v.b, v.r, v.g, v.s, v.m, 0, 0, 0⟩ := ok_eq hc
  have hM : MemR op0.1.M := op0_R.1
  have e18 : f9_18 v = ⟨v.k, v.a, v.b, v.r, v.g, v.s, v.m, 0, 0, 0⟩ := rfl
  have e5 : f49_5 (f9_8 v) = ⟨v.k, v.a, v.b, v.r, v.g, v.s, v.m, 0, 0, 0⟩ := rfl
  have ex : (f9_8 v).at_ = v.x := rfl
  cases ho : pOk ⟨v.k, v.a, v.b, v.r, v.g, v.s, v.m, 0, 0, 0⟩ with
  | false =>
    have e9 : f9_9 v = true := by rw [e9, ho]; rfl
    have e6 : f49_6 (f9_8 v) = true := by unfold f49_6; rw [e5, ho]; rfl
    refine ⟨⟨trivial, fun _ => trivial, fun _ _ => trivial, fun _ _ h _ _ => ?_, fun _ _ h _ _ => ?_, fun _ _ h _ _ => ?_, trivial⟩, ?_⟩
    · rw [e6] at h; cases h
    · rw [e9] at h; cases h
    · rw [e9] at h; cases h
    unfold f9_7 f9_17 f9_15 f9_16 f49_2 f49_3 f49_4
    rw [e9, e6]
    rfl
  | true =>
    have e9 : f9_9 v = false := by rw [e9, ho]; rfl
    have e6 : f49_6 (f9_8 v) = false := by unfold f49_6; rw [e5, ho]; rfl
    obtain ⟨_, _, a1, a2, a3, a4, ⟨b0, b1⟩, ⟨g0, g1⟩⟩ := pOk_spec hc ho
    obtain ⟨n1, n2, n3, n4, n5, n6⟩ := node_facts hc ho
    obtain ⟨s1, s2⟩ := node_size hc ho
    have b0 : 1 ≤ v.b := b0
    have b1 : v.b ≤ 12 := b1
    have g0 : 0 ≤ v.g := g0
    have n1 : v.g + v.b ≤ 64 := n1
    have n4 : 0 ≤ v.a := n4
    have n6 : v.a + ((2 ^ v.b.toNat : Nat) : Int) * 32 ≤ 4294967296 := n6
    obtain ⟨p0, p1, p2⟩ := pow_b (b := v.b) (by omega) b1
    have e10b : f49_10 (f9_8 v) = v.b := by unfold f49_10; rw [e5, a2]
    refine ⟨⟨trivial, fun _ => trivial, fun _ _ => trivial, fun _ _ _ _ _ => ⟨fun _ => by rw [e10b]; omega, fun _ => by decide⟩, fun _ _ _ _ _ => by omega, fun _ _ _ _ _ => ⟨hc, hM⟩, trivial⟩, ?_⟩
    have hal : f125_0 v.x 5 = (v.x % 32 == 0) := by
      rw [aligned_eq hx.1 hx.2 (by omega) (by omega)]
      have : p26 (Int.toNat 5) = 32 := by decide +kernel
      rw [this]
    have e10 : f9_10 v = !(v.x % 32 == 0) := by
      unfold f9_10
      rw [Int.tmod_eq_emod_of_nonneg hx.1]
      rfl
    have e7 : f49_7 (f9_8 v) = v.a := by unfold f49_7; rw [e5, a1]
    have e8 : f49_8 (f9_8 v) = v.a + ((2 ^ v.b.toNat : Nat) : Int) * 32 := s2
    have hpb := p26_eq (n := v.b.toNat) (by omega)
    have e13 : f9_13 v = ((2 ^ v.b.toNat : Nat) : Int) * 32 := by
      unfold f9_13
      rw [hpb]
      exact wrap_u64_id (by omega) (by omega)
    unfold f9_7
    rw [e9, e10]
    simp only [cnd_f]
    by_cases h32 : v.x % 32 = 0
    · have hb : (v.x % 32 == 0) = true := by rw [h32]; rfl
      rw [hb]
      simp only [Bool.not_true, cnd_f]
      have e9b : f49_9 (f9_8 v) = f9_14 v := by
        unfold f49_9 f9_14 f9_11 f9_12
        rw [e7, e8, e13, ex]
        by_cases hlt : v.x < v.a
        · rw [decide_eq_true hlt]; rfl
        · rw [decide_eq_false hlt, wrap_u64_id (x := v.x - v.a) (by omega) (by have := hx.2; omega)]
          simp only [cnd_f, ge_iff_le]
          congr 1
          exact propext ⟨fun h => by omega, fun h => by omega⟩
      cases h14 : f9_14 v with
      | true =>
        rw [h14] at e9b
        unfold f9_17 f9_15 f49_2 f49_4
        rw [e6, ex, hal, hb, e9b]
        rfl
      | false =>
        rw [h14] at e9b
        have hr : v.a ≤ v.x ∧ v.x < v.a + ((2 ^ v.b.toNat : Nat) : Int) * 32 := by
          unfold f49_9 at e9b
          rw [e7, e8, ex] at e9b
          simp only [cnd_or, Bool.or_eq_false_iff, decide_eq_false_iff_not] at e9b
          omega
        obtain ⟨_, N, hNB, hxN, k2, k3, k4⟩ := number_at hc ho hx h32 hr.1 hr.2 (f9_8 v) e5 ex e8
        have e15 : f9_15 v = own ⟨v.k, v.a, v.b, v.r, v.g, v.s, v.m, 0, 0, 0⟩ N := k2
        have e16 : f9_16 v = v.g + v.b := k3
        obtain ⟨w1, w2⟩ := own_lt hc ho hNB
        obtain ⟨y1, y2⟩ := fd_one (M := op0.1.M) hc ho w2
        obtain ⟨i1, i2⟩ := (own_at hc ho hNB (own ⟨v.k, v.a, v.b, v.r, v.g, v.s, v.m, 0, 0, 0⟩ N)).2 (own_mod hc ho hNB)
        have y1 : fdE op0.1.M ⟨v.k, v.a, v.b, v.r, v.g, v.s, v.m, 0, 0, 0⟩ (own ⟨v.k, v.a, v.b, v.r, v.g, v.s, v.m, 0, 0, 0⟩ N) (v.g + v.b) = _ := y1
        have y2 : fdA op0.1.M ⟨v.k, v.a, v.b, v.r, v.g, v.s, v.m, 0, 0, 0⟩ (own ⟨v.k, v.a, v.b, v.r, v.g, v.s, v.m, 0, 0, 0⟩ N) (v.g + v.b) = _ := y2
        rw [e15, e16, e18, k4, y1, y2, i1, i2, wi (x := v.g + v.b) (by omega) (by omega)]
        have hxN : v.x = v.a + (N : Int) * 32 := hxN
        simp [cnd, hxN]
    · have hb : (v.x % 32 == 0) = false := beq_eq_false_iff_ne.2 h32
      rw [hb]
      simp only [Bool.not_false, cnd_t]
      unfold f9_17 f9_15 f49_2 f49_4
      rw [e6, ex, hal, hb]
      rfl
end Go.Sx.M

namespace Go.Sx.M
open Go Go.Sx Go.Proofs Go.RowKit
set_option maxRecDepth 100000
def pre9 (v : V9) : Prop := SlR ⟨v.k, v.a, v.b, v.r, v.g, v.s, v.m, 0, 0, 0⟩ ∧ U64 v.x
theorem n9 (v : V9) (h : pre9 v) : (f9 v).ok ∧ (f9 v).get.1 = .bool true ∧ HOws (f9 v).get.2.1 [] := by
  obtain ⟨k1, k2⟩ := law9_true v h.1 h.2
  exact ⟨k1, congrArg SV.bool k2, .refl _⟩
noncomputable def f9n (v : V9) : Tr (Fin th.R) := .need (pre9 v) (.leaf (.bool true, [], []))
theorem s9n : Sound Try.prog th 9 (fnC d9 ofV9 f9n) := fnC_refine s9 fun v h => by
  obtain ⟨hp, _⟩ := h
  obtain ⟨a, b, c⟩ := n9 v hp
  exact ⟨a, b.symm, (qdd9 v).symm, c, by show 0 ≤ 0; decide⟩
theorem claw9 (v : V9) : fnC d9 ofV9 f9n (A9 v) (H9 v) = some ((f9n v).map (fixF (H9 v))) := by kernel_rfl
noncomputable def nice9n : List (Nat × CF th.R) := (9, lift (fnC d9 ofV9 f9n)) :: nice77
theorem nok9n : NiceOk Try.prog th nice9n := ⟨lift_sound s9n, nok77⟩
end Go.Sx.M

