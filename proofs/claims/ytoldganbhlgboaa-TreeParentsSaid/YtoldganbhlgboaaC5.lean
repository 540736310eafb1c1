/- Contracts of the functions of this seat, each by the executor and the kernel; part 5. Their conditions stand in each. -/
import Derived.Test.YtoldganbhlgboaaC4
set_option linter.unusedVariables false
set_option linter.unusedSimpArgs false
set_option linter.unnecessarySimpa false
namespace Go.Sx.M
open Go Go.Sx Go.Proofs Go.RowKit
set_option maxRecDepth 100000
structure S62_0 where
 x13 : Int
noncomputable instance : Inhabited S62_0 := ⟨⟨0⟩⟩
set_option maxRecDepth 100000
structure S65_0 where
 x28 : Int
noncomputable instance : Inhabited S65_0 := ⟨⟨0⟩⟩
theorem RepS.chain {t : TS} : ∀ {r k1 : List Nd} {σ : Int → Sl} {n : Nat}, RepS t (k1 ++ r) σ → r.length ≤ n → chF t.M n (hdA r 0) = tA r
 | [], _, _, n, _, _ => (chF_stop (a := hdA [] 0) (.inl rfl)).trans rfl
 | y :: r, k1, σ, n, h, hn => by
  obtain ⟨m, rfl⟩ : ∃ m, n = m + 1 := ⟨n - 1, by simp at hn; omega⟩
  obtain ⟨e1, e2, e3⟩ := h.mem
  have hnz : y.t ≠ 0 := (h.ok y (by simp)).nz
  have hx : (sN y (hdA r 0) (lsA k1 0)).x = hdA r 0 := rfl
  show chF t.M (m + 1) y.t = _
  have h' : RepS t ((k1 ++ [y]) ++ r) σ := by simpa using h
  rw [chF_on hnz rfl, e2, hx, RepS.chain h' (by simp at hn; omega)]
  rfl
theorem RepS.list {t : TS} {l : List Nd} {σ : Int → Sl} (h : RepS t l σ) : chF t.M t.c.toNat t.f = tA l := by
 rw [h.f, h.c]
 have h' : RepS t ([] ++ l) σ := h
 exact RepS.chain h' (by simp)
def cp7 (z : Sl) : Sl := ⟨z.k, z.a, z.b, z.r, z.g, z.s, z.m, 0, 0, 0⟩
theorem RepS.tells {t : TS} {l : List Nd} {σ : Int → Sl} (h : RepS t l σ) {y : Nd} (hm : y ∈ l) : Go.Sx.M.ldE t.M y.t = 0 ∧ cp7 (Go.Sx.M.ld t.M y.t) = slN y ∧ dpE t.M y.t = y.d ∧ U64 y.t ∧ (Go.Sx.M.ld t.M y.t).d = y.d := by
 obtain ⟨k1, r, rfl⟩ := List.append_of_mem hm
 obtain ⟨e1, e2, e3⟩ := h.mem
 have ok := h.ok y (by simp)
 refine ⟨(h.E.ld ok.at_).2, by rw [e2]; rfl, ?_, e3, by rw [e2]; rfl⟩
 unfold dpE
 rw [e1, e2]
 rfl
set_option maxRecDepth 100000
noncomputable def nice65n : List (Nat × CF th.R) := nice53n
theorem nok65n : NiceOk Try.prog th nice65n := nok53n
set_option maxRecDepth 100000
noncomputable def nice62n : List (Nat × CF th.R) := nice65n
theorem nok62n : NiceOk Try.prog th nice62n := nok65n
set_option maxRecDepth 100000
structure V52 where
def A52 (v : V52) : List SV := []
def H52 (v : V52) : List (HO th.R) := []
def toV52 (v : V52) : List (Vl th.R) := []
def ofV52 : List (Vl th.R) → Option V52
 | [] => some ⟨⟩
 | _ => none
def d52 : Ft := ⟨[], []⟩
noncomputable def f52_0 (v : V52) : (Prop) := pre53 V53.mk
noncomputable def f52_1 (v : V52) : (Prop) := true = true → pre109 (V109.mk (256:Int) (8:Int) (0:Int) (7:Int) (0:Int) (0:Int) (0:Int) (0:Int) (0:Int) (0:Int) op0.fst.M)
noncomputable def f52_2 (v : V52) : (Prop) := true = true → pre56 (V56.mk (256:Int) (288:Int) (8:Int) (128:Int) (7:Int) (0:Int) (0:Int) (0:Int) (0:Int) (256:Int) (1:Int) (mrgM true (rtT (TS.mk op0.fst.M (0:Int) (0:Int)) (256:Int) (Sl.mk (8:Int) (0:Int) (7:Int) (0:Int) (0:Int) (0:Int) (0:Int) (0:Int) (0:Int) (0:Int))).M op0.fst.M))
noncomputable def f52_3 (v : V52) : (Prop) := true = true → pre56 (V56.mk (256:Int) (320:Int) (8:Int) (256:Int) (7:Int) (0:Int) (0:Int) (0:Int) (0:Int) (256:Int) (2:Int) (mrgM true (chT (TS.mk (mrgM true (rtT (TS.mk op0.fst.M (0:Int) (0:Int)) (256:Int) (Sl.mk (8:Int) (0:Int) (7:Int) (0:Int) (0:Int) (0:Int) (0:Int) (0:Int) (0:Int) (0:Int))).M op0.fst.M) (256:Int) (1:Int)) (256:Int) (288:Int) (Sl.mk (8:Int) (128:Int) (7:Int) (0:Int) (0:Int) (0:Int) (0:Int) (0:Int) (0:Int) (0:Int))).M (mrgM true (rtT (TS.mk op0.fst.M (0:Int) (0:Int)) (256:Int) (Sl.mk (8:Int) (0:Int) (7:Int) (0:Int) (0:Int) (0:Int) (0:Int) (0:Int) (0:Int) (0:Int))).M op0.fst.M)))
noncomputable def f52_4 (v : V52) : (Prop) := false = false → pre75 (V75.mk (256:Int) (3:Int) (mrgM true (chT (TS.mk (mrgM true (chT (TS.mk (mrgM true (rtT (TS.mk op0.fst.M (0:Int) (0:Int)) (256:Int) (Sl.mk (8:Int) (0:Int) (7:Int) (0:Int) (0:Int) (0:Int) (0:Int) (0:Int) (0:Int) (0:Int))).M op0.fst.M) (256:Int) (1:Int)) (256:Int) (288:Int) (Sl.mk (8:Int) (128:Int) (7:Int) (0:Int) (0:Int) (0:Int) (0:Int) (0:Int) (0:Int) (0:Int))).M (mrgM true (rtT (TS.mk op0.fst.M (0:Int) (0:Int)) (256:Int) (Sl.mk (8:Int) (0:Int) (7:Int) (0:Int) (0:Int) (0:Int) (0:Int) (0:Int) (0:Int) (0:Int))).M op0.fst.M)) (256:Int) (2:Int)) (256:Int) (320:Int) (Sl.mk (8:Int) (256:Int) (7:Int) (0:Int) (0:Int) (0:Int) (0:Int) (0:Int) (0:Int) (0:Int))).M (mrgM true (chT (TS.mk (mrgM true (rtT (TS.mk op0.fst.M (0:Int) (0:Int)) (256:Int) (Sl.mk (8:Int) (0:Int) (7:Int) (0:Int) (0:Int) (0:Int) (0:Int) (0:Int) (0:Int) (0:Int))).M op0.fst.M) (256:Int) (1:Int)) (256:Int) (288:Int) (Sl.mk (8:Int) (128:Int) (7:Int) (0:Int) (0:Int) (0:Int) (0:Int) (0:Int) (0:Int) (0:Int))).M (mrgM true (rtT (TS.mk op0.fst.M (0:Int) (0:Int)) (256:Int) (Sl.mk (8:Int) (0:Int) (7:Int) (0:Int) (0:Int) (0:Int) (0:Int) (0:Int) (0:Int) (0:Int))).M op0.fst.M))))
noncomputable def f52_5 (v : V52) : (Prop) := false = false → ∀ (i:Nat), scpL (0:Nat) ((fun (j:Nat) => [SV.int IntKind.u64 ((chF (mrgM true (chT (TS.mk (mrgM true (chT (TS.mk (mrgM true (rtT (TS.mk op0.fst.M (0:Int) (0:Int)) (256:Int) (Sl.mk (8:Int) (0:Int) (7:Int) (0:Int) (0:Int) (0:Int) (0:Int) (0:Int) (0:Int) (0:Int))).M op0.fst.M) (256:Int) (1:Int)) (256:Int) (288:Int) (Sl.mk (8:Int) (128:Int) (7:Int) (0:Int) (0:Int) (0:Int) (0:Int) (0:Int) (0:Int) (0:Int))).M (mrgM true (rtT (TS.mk op0.fst.M (0:Int) (0:Int)) (256:Int) (Sl.mk (8:Int) (0:Int) (7:Int) (0:Int) (0:Int) (0:Int) (0:Int) (0:Int) (0:Int) (0:Int))).M op0.fst.M)) (256:Int) (2:Int)) (256:Int) (320:Int) (Sl.mk (8:Int) (256:Int) (7:Int) (0:Int) (0:Int) (0:Int) (0:Int) (0:Int) (0:Int) (0:Int))).M (mrgM true (chT (TS.mk (mrgM true (rtT (TS.mk op0.fst.M (0:Int) (0:Int)) (256:Int) (Sl.mk (8:Int) (0:Int) (7:Int) (0:Int) (0:Int) (0:Int) (0:Int) (0:Int) (0:Int) (0:Int))).M op0.fst.M) (256:Int) (1:Int)) (256:Int) (288:Int) (Sl.mk (8:Int) (128:Int) (7:Int) (0:Int) (0:Int) (0:Int) (0:Int) (0:Int) (0:Int) (0:Int))).M (mrgM true (rtT (TS.mk op0.fst.M (0:Int) (0:Int)) (256:Int) (Sl.mk (8:Int) (0:Int) (7:Int) (0:Int) (0:Int) (0:Int) (0:Int) (0:Int) (0:Int) (0:Int))).M op0.fst.M))) (3:Nat) (256:Int)).getD j (0:Int))]) i) = true
noncomputable def f52_6 (v : V52) : (Prop) := false = false → pre58 (V58.mk (256:Int) (256:Int) (3:Int) (mrgM true (chT (TS.mk (mrgM true (chT (TS.mk (mrgM true (rtT (TS.mk op0.fst.M (0:Int) (0:Int)) (256:Int) (Sl.mk (8:Int) (0:Int) (7:Int) (0:Int) (0:Int) (0:Int) (0:Int) (0:Int) (0:Int) (0:Int))).M op0.fst.M) (256:Int) (1:Int)) (256:Int) (288:Int) (Sl.mk (8:Int) (128:Int) (7:Int) (0:Int) (0:Int) (0:Int) (0:Int) (0:Int) (0:Int) (0:Int))).M (mrgM true (rtT (TS.mk op0.fst.M (0:Int) (0:Int)) (256:Int) (Sl.mk (8:Int) (0:Int) (7:Int) (0:Int) (0:Int) (0:Int) (0:Int) (0:Int) (0:Int) (0:Int))).M op0.fst.M)) (256:Int) (2:Int)) (256:Int) (320:Int) (Sl.mk (8:Int) (256:Int) (7:Int) (0:Int) (0:Int) (0:Int) (0:Int) (0:Int) (0:Int) (0:Int))).M (mrgM true (chT (TS.mk (mrgM true (rtT (TS.mk op0.fst.M (0:Int) (0:Int)) (256:Int) (Sl.mk (8:Int) (0:Int) (7:Int) (0:Int) (0:Int) (0:Int) (0:Int) (0:Int) (0:Int) (0:Int))).M op0.fst.M) (256:Int) (1:Int)) (256:Int) (288:Int) (Sl.mk (8:Int) (128:Int) (7:Int) (0:Int) (0:Int) (0:Int) (0:Int) (0:Int) (0:Int) (0:Int))).M (mrgM true (rtT (TS.mk op0.fst.M (0:Int) (0:Int)) (256:Int) (Sl.mk (8:Int) (0:Int) (7:Int) (0:Int) (0:Int) (0:Int) (0:Int) (0:Int) (0:Int) (0:Int))).M op0.fst.M))))
noncomputable def f52_7 (v : V52) : (Prop) := false = false → ∀ (i:Nat), scpL (0:Nat) ((fun (j:Nat) => [SV.int IntKind.u64 ((blw (mrgM true (chT (TS.mk (mrgM true (chT (TS.mk (mrgM true (rtT (TS.mk op0.fst.M (0:Int) (0:Int)) (256:Int) (Sl.mk (8:Int) (0:Int) (7:Int) (0:Int) (0:Int) (0:Int) (0:Int) (0:Int) (0:Int) (0:Int))).M op0.fst.M) (256:Int) (1:Int)) (256:Int) (288:Int) (Sl.mk (8:Int) (128:Int) (7:Int) (0:Int) (0:Int) (0:Int) (0:Int) (0:Int) (0:Int) (0:Int))).M (mrgM true (rtT (TS.mk op0.fst.M (0:Int) (0:Int)) (256:Int) (Sl.mk (8:Int) (0:Int) (7:Int) (0:Int) (0:Int) (0:Int) (0:Int) (0:Int) (0:Int) (0:Int))).M op0.fst.M)) (256:Int) (2:Int)) (256:Int) (320:Int) (Sl.mk (8:Int) (256:Int) (7:Int) (0:Int) (0:Int) (0:Int) (0:Int) (0:Int) (0:Int) (0:Int))).M (mrgM true (chT (TS.mk (mrgM true (rtT (TS.mk op0.fst.M (0:Int) (0:Int)) (256:Int) (Sl.mk (8:Int) (0:Int) (7:Int) (0:Int) (0:Int) (0:Int) (0:Int) (0:Int) (0:Int) (0:Int))).M op0.fst.M) (256:Int) (1:Int)) (256:Int) (288:Int) (Sl.mk (8:Int) (128:Int) (7:Int) (0:Int) (0:Int) (0:Int) (0:Int) (0:Int) (0:Int) (0:Int))).M (mrgM true (rtT (TS.mk op0.fst.M (0:Int) (0:Int)) (256:Int) (Sl.mk (8:Int) (0:Int) (7:Int) (0:Int) (0:Int) (0:Int) (0:Int) (0:Int) (0:Int) (0:Int))).M op0.fst.M))) (3:Int) (256:Int)).getD j (0:Int))]) i) = true
noncomputable def f52_8 (v : V52) : (Prop) := false = false → true = true → (0:Int) ≤ (1:Int) ∧ (1:Int) < (3:Int)
noncomputable def f52_9 (v : V52) : (Prop) := false = false → true = true → (1:Nat) < (3:Nat)
noncomputable def f52_10 (v : V52) : (Prop) := false = false → true = true → (0:Int) ≤ (2:Int) ∧ (2:Int) < (3:Int)
noncomputable def f52_11 (v : V52) : (Prop) := false = false → true = true → (2:Nat) < (3:Nat)
noncomputable def f52_12 (v : V52) : (Prop) := false = false → true = true → pre63 (V63.mk (256:Int) (256:Int) (3:Int) (mrgM true (chT (TS.mk (mrgM true (chT (TS.mk (mrgM true (rtT (TS.mk op0.fst.M (0:Int) (0:Int)) (256:Int) (Sl.mk (8:Int) (0:Int) (7:Int) (0:Int) (0:Int) (0:Int) (0:Int) (0:Int) (0:Int) (0:Int))).M op0.fst.M) (256:Int) (1:Int)) (256:Int) (288:Int) (Sl.mk (8:Int) (128:Int) (7:Int) (0:Int) (0:Int) (0:Int) (0:Int) (0:Int) (0:Int) (0:Int))).M (mrgM true (rtT (TS.mk op0.fst.M (0:Int) (0:Int)) (256:Int) (Sl.mk (8:Int) (0:Int) (7:Int) (0:Int) (0:Int) (0:Int) (0:Int) (0:Int) (0:Int) (0:Int))).M op0.fst.M)) (256:Int) (2:Int)) (256:Int) (320:Int) (Sl.mk (8:Int) (256:Int) (7:Int) (0:Int) (0:Int) (0:Int) (0:Int) (0:Int) (0:Int) (0:Int))).M (mrgM true (chT (TS.mk (mrgM true (rtT (TS.mk op0.fst.M (0:Int) (0:Int)) (256:Int) (Sl.mk (8:Int) (0:Int) (7:Int) (0:Int) (0:Int) (0:Int) (0:Int) (0:Int) (0:Int) (0:Int))).M op0.fst.M) (256:Int) (1:Int)) (256:Int) (288:Int) (Sl.mk (8:Int) (128:Int) (7:Int) (0:Int) (0:Int) (0:Int) (0:Int) (0:Int) (0:Int) (0:Int))).M (mrgM true (rtT (TS.mk op0.fst.M (0:Int) (0:Int)) (256:Int) (Sl.mk (8:Int) (0:Int) (7:Int) (0:Int) (0:Int) (0:Int) (0:Int) (0:Int) (0:Int) (0:Int))).M op0.fst.M))))
noncomputable def f52_13 (v : V52) : (Prop) := false = false → true = true → pre59 (V59.mk (320:Int) (320:Int) (2:Int) (mrgM true (rmT (TS.mk (mrgM true (chT (TS.mk (mrgM true (chT (TS.mk (mrgM true (rtT (TS.mk op0.fst.M (0:Int) (0:Int)) (256:Int) (Sl.mk (8:Int) (0:Int) (7:Int) (0:Int) (0:Int) (0:Int) (0:Int) (0:Int) (0:Int) (0:Int))).M op0.fst.M) (256:Int) (1:Int)) (256:Int) (288:Int) (Sl.mk (8:Int) (128:Int) (7:Int) (0:Int) (0:Int) (0:Int) (0:Int) (0:Int) (0:Int) (0:Int))).M (mrgM true (rtT (TS.mk op0.fst.M (0:Int) (0:Int)) (256:Int) (Sl.mk (8:Int) (0:Int) (7:Int) (0:Int) (0:Int) (0:Int) (0:Int) (0:Int) (0:Int) (0:Int))).M op0.fst.M)) (256:Int) (2:Int)) (256:Int) (320:Int) (Sl.mk (8:Int) (256:Int) (7:Int) (0:Int) (0:Int) (0:Int) (0:Int) (0:Int) (0:Int) (0:Int))).M (mrgM true (chT (TS.mk (mrgM true (rtT (TS.mk op0.fst.M (0:Int) (0:Int)) (256:Int) (Sl.mk (8:Int) (0:Int) (7:Int) (0:Int) (0:Int) (0:Int) (0:Int) (0:Int) (0:Int) (0:Int))).M op0.fst.M) (256:Int) (1:Int)) (256:Int) (288:Int) (Sl.mk (8:Int) (128:Int) (7:Int) (0:Int) (0:Int) (0:Int) (0:Int) (0:Int) (0:Int) (0:Int))).M (mrgM true (rtT (TS.mk op0.fst.M (0:Int) (0:Int)) (256:Int) (Sl.mk (8:Int) (0:Int) (7:Int) (0:Int) (0:Int) (0:Int) (0:Int) (0:Int) (0:Int) (0:Int))).M op0.fst.M))) (256:Int) (3:Int)) (256:Int)).M (mrgM true (chT (TS.mk (mrgM true (chT (TS.mk (mrgM true (rtT (TS.mk op0.fst.M (0:Int) (0:Int)) (256:Int) (Sl.mk (8:Int) (0:Int) (7:Int) (0:Int) (0:Int) (0:Int) (0:Int) (0:Int) (0:Int) (0:Int))).M op0.fst.M) (256:Int) (1:Int)) (256:Int) (288:Int) (Sl.mk (8:Int) (128:Int) (7:Int) (0:Int) (0:Int) (0:Int) (0:Int) (0:Int) (0:Int) (0:Int))).M (mrgM true (rtT (TS.mk op0.fst.M (0:Int) (0:Int)) (256:Int) (Sl.mk (8:Int) (0:Int) (7:Int) (0:Int) (0:Int) (0:Int) (0:Int) (0:Int) (0:Int) (0:Int))).M op0.fst.M)) (256:Int) (2:Int)) (256:Int) (320:Int) (Sl.mk (8:Int) (256:Int) (7:Int) (0:Int) (0:Int) (0:Int) (0:Int) (0:Int) (0:Int) (0:Int))).M (mrgM true (chT (TS.mk (mrgM true (rtT (TS.mk op0.fst.M (0:Int) (0:Int)) (256:Int) (Sl.mk (8:Int) (0:Int) (7:Int) (0:Int) (0:Int) (0:Int) (0:Int) (0:Int) (0:Int) (0:Int))).M op0.fst.M) (256:Int) (1:Int)) (256:Int) (288:Int) (Sl.mk (8:Int) (128:Int) (7:Int) (0:Int) (0:Int) (0:Int) (0:Int) (0:Int) (0:Int) (0:Int))).M (mrgM true (rtT (TS.mk op0.fst.M (0:Int) (0:Int)) (256:Int) (Sl.mk (8:Int) (0:Int) (7:Int) (0:Int) (0:Int) (0:Int) (0:Int) (0:Int) (0:Int) (0:Int))).M op0.fst.M)))))
noncomputable def f52_14 (v : V52) : (Prop) := false = false → true = true → pre59 (V59.mk (288:Int) (320:Int) (2:Int) (mrgM true (rmT (TS.mk (mrgM true (chT (TS.mk (mrgM true (chT (TS.mk (mrgM true (rtT (TS.mk op0.fst.M (0:Int) (0:Int)) (256:Int) (Sl.mk (8:Int) (0:Int) (7:Int) (0:Int) (0:Int) (0:Int) (0:Int) (0:Int) (0:Int) (0:Int))).M op0.fst.M) (256:Int) (1:Int)) (256:Int) (288:Int) (Sl.mk (8:Int) (128:Int) (7:Int) (0:Int) (0:Int) (0:Int) (0:Int) (0:Int) (0:Int) (0:Int))).M (mrgM true (rtT (TS.mk op0.fst.M (0:Int) (0:Int)) (256:Int) (Sl.mk (8:Int) (0:Int) (7:Int) (0:Int) (0:Int) (0:Int) (0:Int) (0:Int) (0:Int) (0:Int))).M op0.fst.M)) (256:Int) (2:Int)) (256:Int) (320:Int) (Sl.mk (8:Int) (256:Int) (7:Int) (0:Int) (0:Int) (0:Int) (0:Int) (0:Int) (0:Int) (0:Int))).M (mrgM true (chT (TS.mk (mrgM true (rtT (TS.mk op0.fst.M (0:Int) (0:Int)) (256:Int) (Sl.mk (8:Int) (0:Int) (7:Int) (0:Int) (0:Int) (0:Int) (0:Int) (0:Int) (0:Int) (0:Int))).M op0.fst.M) (256:Int) (1:Int)) (256:Int) (288:Int) (Sl.mk (8:Int) (128:Int) (7:Int) (0:Int) (0:Int) (0:Int) (0:Int) (0:Int) (0:Int) (0:Int))).M (mrgM true (rtT (TS.mk op0.fst.M (0:Int) (0:Int)) (256:Int) (Sl.mk (8:Int) (0:Int) (7:Int) (0:Int) (0:Int) (0:Int) (0:Int) (0:Int) (0:Int) (0:Int))).M op0.fst.M))) (256:Int) (3:Int)) (256:Int)).M (mrgM true (chT (TS.mk (mrgM true (chT (TS.mk (mrgM true (rtT (TS.mk op0.fst.M (0:Int) (0:Int)) (256:Int) (Sl.mk (8:Int) (0:Int) (7:Int) (0:Int) (0:Int) (0:Int) (0:Int) (0:Int) (0:Int) (0:Int))).M op0.fst.M) (256:Int) (1:Int)) (256:Int) (288:Int) (Sl.mk (8:Int) (128:Int) (7:Int) (0:Int) (0:Int) (0:Int) (0:Int) (0:Int) (0:Int) (0:Int))).M (mrgM true (rtT (TS.mk op0.fst.M (0:Int) (0:Int)) (256:Int) (Sl.mk (8:Int) (0:Int) (7:Int) (0:Int) (0:Int) (0:Int) (0:Int) (0:Int) (0:Int) (0:Int))).M op0.fst.M)) (256:Int) (2:Int)) (256:Int) (320:Int) (Sl.mk (8:Int) (256:Int) (7:Int) (0:Int) (0:Int) (0:Int) (0:Int) (0:Int) (0:Int) (0:Int))).M (mrgM true (chT (TS.mk (mrgM true (rtT (TS.mk op0.fst.M (0:Int) (0:Int)) (256:Int) (Sl.mk (8:Int) (0:Int) (7:Int) (0:Int) (0:Int) (0:Int) (0:Int) (0:Int) (0:Int) (0:Int))).M op0.fst.M) (256:Int) (1:Int)) (256:Int) (288:Int) (Sl.mk (8:Int) (128:Int) (7:Int) (0:Int) (0:Int) (0:Int) (0:Int) (0:Int) (0:Int) (0:Int))).M (mrgM true (rtT (TS.mk op0.fst.M (0:Int) (0:Int)) (256:Int) (Sl.mk (8:Int) (0:Int) (7:Int) (0:Int) (0:Int) (0:Int) (0:Int) (0:Int) (0:Int) (0:Int))).M op0.fst.M)))))
noncomputable def f52_15 (v : V52) : (Prop) := false = false → true = true → pre59 (V59.mk (256:Int) (320:Int) (2:Int) (mrgM true (rmT (TS.mk (mrgM true (chT (TS.mk (mrgM true (chT (TS.mk (mrgM true (rtT (TS.mk op0.fst.M (0:Int) (0:Int)) (256:Int) (Sl.mk (8:Int) (0:Int) (7:Int) (0:Int) (0:Int) (0:Int) (0:Int) (0:Int) (0:Int) (0:Int))).M op0.fst.M) (256:Int) (1:Int)) (256:Int) (288:Int) (Sl.mk (8:Int) (128:Int) (7:Int) (0:Int) (0:Int) (0:Int) (0:Int) (0:Int) (0:Int) (0:Int))).M (mrgM true (rtT (TS.mk op0.fst.M (0:Int) (0:Int)) (256:Int) (Sl.mk (8:Int) (0:Int) (7:Int) (0:Int) (0:Int) (0:Int) (0:Int) (0:Int) (0:Int) (0:Int))).M op0.fst.M)) (256:Int) (2:Int)) (256:Int) (320:Int) (Sl.mk (8:Int) (256:Int) (7:Int) (0:Int) (0:Int) (0:Int) (0:Int) (0:Int) (0:Int) (0:Int))).M (mrgM true (chT (TS.mk (mrgM true (rtT (TS.mk op0.fst.M (0:Int) (0:Int)) (256:Int) (Sl.mk (8:Int) (0:Int) (7:Int) (0:Int) (0:Int) (0:Int) (0:Int) (0:Int) (0:Int) (0:Int))).M op0.fst.M) (256:Int) (1:Int)) (256:Int) (288:Int) (Sl.mk (8:Int) (128:Int) (7:Int) (0:Int) (0:Int) (0:Int) (0:Int) (0:Int) (0:Int) (0:Int))).M (mrgM true (rtT (TS.mk op0.fst.M (0:Int) (0:Int)) (256:Int) (Sl.mk (8:Int) (0:Int) (7:Int) (0:Int) (0:Int) (0:Int) (0:Int) (0:Int) (0:Int) (0:Int))).M op0.fst.M))) (256:Int) (3:Int)) (256:Int)).M (mrgM true (chT (TS.mk (mrgM true (chT (TS.mk (mrgM true (rtT (TS.mk op0.fst.M (0:Int) (0:Int)) (256:Int) (Sl.mk (8:Int) (0:Int) (7:Int) (0:Int) (0:Int) (0:Int) (0:Int) (0:Int) (0:Int) (0:Int))).M op0.fst.M) (256:Int) (1:Int)) (256:Int) (288:Int) (Sl.mk (8:Int) (128:Int) (7:Int) (0:Int) (0:Int) (0:Int) (0:Int) (0:Int) (0:Int) (0:Int))).M (mrgM true (rtT (TS.mk op0.fst.M (0:Int) (0:Int)) (256:Int) (Sl.mk (8:Int) (0:Int) (7:Int) (0:Int) (0:Int) (0:Int) (0:Int) (0:Int) (0:Int) (0:Int))).M op0.fst.M)) (256:Int) (2:Int)) (256:Int) (320:Int) (Sl.mk (8:Int) (256:Int) (7:Int) (0:Int) (0:Int) (0:Int) (0:Int) (0:Int) (0:Int) (0:Int))).M (mrgM true (chT (TS.mk (mrgM true (rtT (TS.mk op0.fst.M (0:Int) (0:Int)) (256:Int) (Sl.mk (8:Int) (0:Int) (7:Int) (0:Int) (0:Int) (0:Int) (0:Int) (0:Int) (0:Int) (0:Int))).M op0.fst.M) (256:Int) (1:Int)) (256:Int) (288:Int) (Sl.mk (8:Int) (128:Int) (7:Int) (0:Int) (0:Int) (0:Int) (0:Int) (0:Int) (0:Int) (0:Int))).M (mrgM true (rtT (TS.mk op0.fst.M (0:Int) (0:Int)) (256:Int) (Sl.mk (8:Int) (0:Int) (7:Int) (0:Int) (0:Int) (0:Int) (0:Int) (0:Int) (0:Int) (0:Int))).M op0.fst.M)))))
theorem n_f52_5 (v : V52) : f52_5 v := by
 unfold f52_5
 (repeat' first | intro _ | apply And.intro) <;> first | rfl | exact absurd (by assumption) (Nat.not_lt_zero _) | exact scpL_rowSet (by rfl) (by rfl) | exact scpL_rowEl (by kernel_rfl) _ | omega | decide
theorem n_f52_7 (v : V52) : f52_7 v := by
 unfold f52_7
 (repeat' first | intro _ | apply And.intro) <;> first | rfl | exact absurd (by assumption) (Nat.not_lt_zero _) | exact scpL_rowSet (by rfl) (by rfl) | exact scpL_rowEl (by kernel_rfl) _ | omega | decide
theorem n_f52_8 (v : V52) : f52_8 v := by
 unfold f52_8
 (repeat' first | intro _ | apply And.intro) <;> first | rfl | exact absurd (by assumption) (Nat.not_lt_zero _) | exact scpL_rowSet (by rfl) (by rfl) | exact scpL_rowEl (by kernel_rfl) _ | omega | decide
theorem n_f52_9 (v : V52) : f52_9 v := by
 unfold f52_9
 (repeat' first | intro _ | apply And.intro) <;> first | rfl | exact absurd (by assumption) (Nat.not_lt_zero _) | exact scpL_rowSet (by rfl) (by rfl) | exact scpL_rowEl (by kernel_rfl) _ | omega | decide
theorem n_f52_10 (v : V52) : f52_10 v := by
 unfold f52_10
 (repeat' first | intro _ | apply And.intro) <;> first | rfl | exact absurd (by assumption) (Nat.not_lt_zero _) | exact scpL_rowSet (by rfl) (by rfl) | exact scpL_rowEl (by kernel_rfl) _ | omega | decide
theorem n_f52_11 (v : V52) : f52_11 v := by
 unfold f52_11
 (repeat' first | intro _ | apply And.intro) <;> first | rfl | exact absurd (by assumption) (Nat.not_lt_zero _) | exact scpL_rowSet (by rfl) (by rfl) | exact scpL_rowEl (by kernel_rfl) _ | omega | decide
noncomputable def ff52 (v : V52) : Tr (Fin th.R) := (Tr.need (f52_0 v) (Tr.need (f52_1 v) (Tr.need (f52_2 v) (Tr.need (f52_3 v) (Tr.need (f52_4 v) (Tr.need (f52_5 v) (Tr.need (f52_6 v) (Tr.need (f52_7 v) (Tr.need (f52_8 v) (Tr.need (f52_9 v) (Tr.need (f52_10 v) (Tr.need (f52_11 v) (Tr.need (f52_12 v) (Tr.need (f52_13 v) (Tr.need (f52_14 v) (Tr.need (f52_15 v) (Tr.leaf (SV.bool (true), List.nil, List.nil))))))))))))))))))
noncomputable def f52 (v : V52) : Tr (Fin th.R) := (Tr.need (f52_0 v) (Tr.need (f52_1 v) (Tr.need (f52_2 v) (Tr.need (f52_3 v) (Tr.need (f52_4 v) (Tr.need (f52_6 v) (Tr.need (f52_12 v) (Tr.need (f52_13 v) (Tr.need (f52_14 v) (Tr.need (f52_15 v) (Tr.leaf (SV.bool (true), List.nil, []))))))))))))
noncomputable def C52 : CF th.R := fnC d52 ofV52 (f52 )
theorem q52 (v : V52) : (evFn th Try.prog (auto th Try.prog nice62n [] 20) (autoH [] [] [] [] : Hints th) 52) (A52 v) (H52 v) = some (ff52 v) := by kernel_rfl
theorem qg52 (v : V52) : ((ff52 v).map (setD [])).get = (f52 v).get := by kernel_rfl
theorem qd52 (v : V52) : allD 0 [] (ff52 v) = true := by kernel_rfl
theorem s52 : Sound Try.prog th 52 (C52 ) := fnC_sound (evFn_sound' (T := th) (P := Try.prog) (tbl := (auto th Try.prog nice62n [] 20)) (auto_sound (nice := nice62n) (us := []) nok62n 20) (H := (autoH [] [] [] [] : Hints th)) (k := 52) (fnLoops (LoopsOk_mem (fun _ => rfl) _ fun _ _ _ e => by cases e))) d52 A52 H52 toV52 (by kernel_rfl) (fun v => by kernel_rfl)
 (fun l v h => by
  unfold ofV52 at h
  split at h
  ·cases h; rfl
  ·cases h)
 [] (fun v => ⟨ff52 v, q52 v, fun h => by
  unfold f52 at h; unfold ff52
  simp only [Tr.ok, n_f52_5, n_f52_7, n_f52_8, n_f52_9, n_f52_10, n_f52_11, true_and, and_true, forall_const, implies_true] at h ⊢
  try exact h, qg52 v, qd52 v⟩)
theorem qdd52 (v : V52) : (f52 v).get.2.2 = [] := by
 rw [← qg52, Tr.map_get]; rfl
set_option maxRecDepth 100000
def pre52 (v : V52) : Prop := True
theorem n52 (v : V52) (h : pre52 v) : (f52 v).ok ∧ (f52 v).get.1 = .bool true ∧ HOws (f52 v).get.2.1 [] := by
 have u256 : U64 256 := ⟨by decide, by decide⟩
 have u288 : U64 288 := ⟨by decide, by decide⟩
 have u320 : U64 320 := ⟨by decide, by decide⟩
 have i64_2 : I64 2 := ⟨by decide, by decide⟩
 have i64_3 : I64 3 := ⟨by decide, by decide⟩
 have le3 : (3:Int) ≤ 100000 := by decide
 have z0 : SlR ⟨8, 0, 7, 0, 0, 0, 0, 0, 0, 0⟩ := by (repeat' first | apply SlR.mk | apply And.intro) <;> decide
 have z1 : SlR ⟨8, 128, 7, 0, 0, 0, 0, 0, 0, 0⟩ := by (repeat' first | apply SlR.mk | apply And.intro) <;> decide
 have z2 : SlR ⟨8, 256, 7, 0, 0, 0, 0, 0, 0, 0⟩ := by (repeat' first | apply SlR.mk | apply And.intro) <;> decide
 have T0 : TR ⟨op0.1.M, 0, 0⟩ := op0_R
 have r1 := rtT_R T0 u256 z0
 have T1 : TR ⟨mrgM true (rtT ⟨op0.1.M, 0, 0⟩ 256 ⟨8, 0, 7, 0, 0, 0, 0, 0, 0, 0⟩).M op0.1.M, 256, 1⟩ := ⟨mrg_ind (fun _ => r1.1) (fun e => by cases e), u256, by decide, by decide⟩
 have r2 := chT_R T1 u256 u288 z1
 have T2 : ∀ B, TR ⟨mrgM true (chT ⟨mrgM true (rtT ⟨op0.1.M, 0, 0⟩ 256 ⟨8, 0, 7, 0, 0, 0, 0, 0, 0, 0⟩).M op0.1.M, 256, 1⟩ 256 288 ⟨8, 128, 7, 0, 0, 0, 0, 0, 0, 0⟩).M B, 256, 2⟩ := fun B => ⟨mrg_ind (fun _ => r2.1) (fun e => by cases e), u256, i64_2⟩
 have r3 := fun B => chT_R (T2 B) u256 u320 z2
 have T3 : ∀ B C, TR ⟨mrgM true (chT ⟨mrgM true (chT ⟨mrgM true (rtT ⟨op0.1.M, 0, 0⟩ 256 ⟨8, 0, 7, 0, 0, 0, 0, 0, 0, 0⟩).M op0.1.M, 256, 1⟩ 256 288 ⟨8, 128, 7, 0, 0, 0, 0, 0, 0, 0⟩).M B, 256, 2⟩ 256 320 ⟨8, 256, 7, 0, 0, 0, 0, 0, 0, 0⟩).M C, 256, 3⟩ := fun B C => ⟨mrg_ind (fun _ => (r3 B).1) (fun e => by cases e), u256, i64_3⟩
 refine ⟨⟨trivial, fun _ => ⟨u256, z0, T0⟩, fun _ => ⟨⟨u256, u288⟩, z1, T1⟩, fun _ => ⟨⟨u256, u320⟩, z2, T2 _⟩, fun _ => ⟨T3 _ _, le3⟩, fun _ => ⟨u256, T3 _ _, le3⟩, fun _ _ => ⟨u256, T3 _ _, le3⟩, fun _ _ => u320, fun _ _ => u288, fun _ _ => u256, trivial⟩, rfl, .refl _⟩
noncomputable def f52n (v : V52) : Tr (Fin th.R) := .need (pre52 v) (.leaf (.bool true, [], []))
theorem s52n : Sound Try.prog th 52 (fnC d52 ofV52 f52n) := fnC_refine s52 fun v h => by
 obtain ⟨hp, _⟩ := h
 obtain ⟨a, b, c⟩ := n52 v hp
 exact ⟨a, b.symm, (qdd52 v).symm, c, by show 0 ≤ 0; decide⟩
noncomputable def nice52n : List (Nat × CF th.R) := (52, lift (fnC d52 ofV52 f52n)) :: nice62n
theorem nok52n : NiceOk Try.prog th nice52n := ⟨lift_sound s52n, nok62n⟩
set_option maxRecDepth 100000
noncomputable def f58c (v : V58) : Tr (Fin th.R) := .need (pre58 v) (.leaf (.slc 2 1 0 (blw v.M v.c v.at_).length, [.cells 175 [.ptr 1 0, .int .u64 v.f, .int .i64 v.c], .res v.M, .row 22 1 (blw v.M v.c v.at_).length (fun j => [.int .u64 ((blw v.M v.c v.at_).getD j 0)])], []))
theorem cw58 (v : V58) : fnC d58 ofV58 f58n (A58 v) (H58 v) = some ((f58n v).map (fixF (H58 v))) := by kernel_rfl
theorem s58c : Sound Try.prog th 58 (fnC d58 ofV58 f58c) := by
 refine fnC_direct (T := th) d58 A58 H58 toV58 (by kernel_rfl) (fun v => by kernel_rfl) ?_ ?_ (fun v _ => by show 2 ≤ 3; decide) (fun v _ n hn _ => ?_)
 ·intro l v h
  unfold ofV58 at h
  split at h
  ·cases h; rfl
  ·cases h
 ·intro v hok K w0 ρ w vargs I hr
  exact fnC_out s58n (cw58 v) ⟨hok.1, trivial⟩ I hr
 ·have hn : n < 2 := hn
  rcases n with _ | _ | n
  ·rfl
  ·rfl
  ·omega
def cs66 : List Ck := [.int .u64, .int .i64, .int .u64, .int .i64, .int .i64, .int .i64, .int .i64, .int .u64, .int .i64]
noncomputable def f66c (v : V66) : Tr (Fin th.R) := .need (pre66 v) (.leaf (.slc 1 1 0 (bwL (nds (ndf v.t v.k v.a v.b v.r v.g v.s v.m v.d) v.L) v.at_).length, [.row 100 9 v.Q (fun j => [.int .u64 (v.t j), .int .i64 (v.k j), .int .u64 (v.a j), .int .i64 (v.b j), .int .i64 (v.r j), .int .i64 (v.g j), .int .i64 (v.s j), .int .u64 (v.m j), .int .i64 (v.d j)]), .row 22 1 ((bwL (nds (ndf v.t v.k v.a v.b v.r v.g v.s v.m v.d) v.L) v.at_)).length (fun j => [.int .u64 (((bwL (nds (ndf v.t v.k v.a v.b v.r v.g v.s v.m v.d) v.L) v.at_)).getD j 0)])], []))
theorem cw66 (v : V66) : fnC d66 ofV66 f66n (A66 v) (H66 v) = some (.need (∀ i, i < v.Q → (fun j => [.int .u64 (v.t j), .int .i64 (v.k j), .int .u64 (v.a j), .int .i64 (v.b j), .int .i64 (v.r j), .int .i64 (v.g j), .int .i64 (v.s j), .int .u64 (v.m j), .int .i64 (v.d j)] : Nat → List SV) i = elC (fun j => [.int .u64 (v.t j), .int .i64 (v.k j), .int .u64 (v.a j), .int .i64 (v.b j), .int .i64 (v.r j), .int .i64 (v.g j), .int .i64 (v.s j), .int .u64 (v.m j), .int .i64 (v.d j)] : Nat → List SV) 0 cs66 i) ((f66n v).map (fixF (H66 v)))) := by kernel_rfl
theorem s66c : Sound Try.prog th 66 (fnC d66 ofV66 f66c) := by
 refine fnC_direct (T := th) d66 A66 H66 toV66 (by kernel_rfl) (fun v => by kernel_rfl) ?_ ?_ (fun v _ => by show 1 ≤ 2; decide) (fun v _ n hn _ => ?_)
 ·intro l v h
  unfold ofV66 at h
  split at h
  ·cases h; rfl
  ·cases h
 ·intro v hok K w0 ρ w vargs I hr
  exact fnC_out s66n (cw66 v) ⟨fun i _ => rfl, hok.1, trivial⟩ I hr
 ·have hn : n < 1 := hn
  rcases n with _ | n
  ·rfl
  ·omega
noncomputable def nice12b : List (Nat × CF th.R) := (66, lift (fnC d66 ofV66 f66c)) :: nice52n
theorem nok12b : NiceOk Try.prog th nice12b := ⟨lift_sound s66c, nok52n⟩
noncomputable def nice12c : List (Nat × CF th.R) := (58, lift (fnC d58 ofV58 f58c)) :: nice12b
theorem nok12c : NiceOk Try.prog th nice12c := ⟨lift_sound s58c, nok12b⟩
set_option maxRecDepth 100000
structure S114_0 where
 x26 : Int
 R2 : th.R
 n6_1 : Nat
 xh4_1 : Int
 xh4_2 : Int
 N5 : Nat
 F5_0 : Nat → Int
 F5_1 : Nat → Int
 F5_2 : Nat → Int
 F5_3 : Nat → Int
 F5_4 : Nat → Int
 F5_5 : Nat → Int
 F5_6 : Nat → Int
 F5_7 : Nat → Int
 F5_8 : Nat → Int
noncomputable instance : Inhabited S114_0 := ⟨⟨0, dR, 0, 0, 0, 0, fun _ => 0, fun _ => 0, fun _ => 0, fun _ => 0, fun _ => 0, fun _ => 0, fun _ => 0, fun _ => 0, fun _ => 0⟩⟩
set_option maxRecDepth 100000
set_option maxRecDepth 100000
set_option maxRecDepth 100000
set_option maxRecDepth 100000
structure V47 where
 k : Int
 a : Int
 b : Int
 r : Int
 g : Int
 s : Int
 m : Int
 x : Int
noncomputable def f47_9 (v : V47) : (Bool) := !f45_1 v.k v.a v.b v.r v.g v.s v.m
noncomputable def f47_10 (v : V47) : (Bool) := cnd (v.k == (9:Int)) (v.m != (0:Int)) false
noncomputable def f47_11 (v : V47) : (Int) := cnd (v.k == (9:Int)) v.k (cnd (v.k == (2:Int)) v.k v.k)
noncomputable def f47_12 (v : V47) : (Int) := cnd (v.k == (9:Int)) v.a (cnd (v.k == (2:Int)) v.a v.a)
noncomputable def f47_13 (v : V47) : (Int) := cnd (v.k == (9:Int)) v.b (cnd (v.k == (2:Int)) v.b v.b)
noncomputable def f47_14 (v : V47) : (Int) := cnd (v.k == (9:Int)) v.r (cnd (v.k == (2:Int)) v.r v.r)
noncomputable def f47_15 (v : V47) : (Int) := cnd (v.k == (9:Int)) v.g (cnd (v.k == (2:Int)) (IntKind.i64.wrap (Go.bits Go.BinOp.and IntKind.u64 v.x (63:Int))) v.g)
noncomputable def f47_16 (v : V47) : (Int) := cnd (v.k == (9:Int)) v.s (cnd (v.k == (2:Int)) v.s v.s)
noncomputable def f47_17 (v : V47) : (Int) := cnd (v.k == (9:Int)) v.x (cnd (v.k == (2:Int)) (v.x.fdiv (64:Int)) v.m)
noncomputable def f47_1 (v : V47) : (Int) := cnd (f47_9 v) (0:Int) (cnd (f47_10 v) (0:Int) (cnd (cnd (v.k == (9:Int)) false (cnd (v.k == (2:Int)) false (v.x != (0:Int)))) (0:Int) (cnd (!f45_1 (f47_11 v) (f47_12 v) (f47_13 v) (f47_14 v) (f47_15 v) (f47_16 v) (f47_17 v)) (0:Int) (f47_11 v))))
noncomputable def f47_2 (v : V47) : (Int) := cnd (f47_9 v) (0:Int) (cnd (f47_10 v) (0:Int) (cnd (cnd (v.k == (9:Int)) false (cnd (v.k == (2:Int)) false (v.x != (0:Int)))) (0:Int) (cnd (!f45_1 (f47_11 v) (f47_12 v) (f47_13 v) (f47_14 v) (f47_15 v) (f47_16 v) (f47_17 v)) (0:Int) (f47_12 v))))
noncomputable def f47_3 (v : V47) : (Int) := cnd (f47_9 v) (0:Int) (cnd (f47_10 v) (0:Int) (cnd (cnd (v.k == (9:Int)) false (cnd (v.k == (2:Int)) false (v.x != (0:Int)))) (0:Int) (cnd (!f45_1 (f47_11 v) (f47_12 v) (f47_13 v) (f47_14 v) (f47_15 v) (f47_16 v) (f47_17 v)) (0:Int) (f47_13 v))))
noncomputable def f47_4 (v : V47) : (Int) := cnd (f47_9 v) (0:Int) (cnd (f47_10 v) (0:Int) (cnd (cnd (v.k == (9:Int)) false (cnd (v.k == (2:Int)) false (v.x != (0:Int)))) (0:Int) (cnd (!f45_1 (f47_11 v) (f47_12 v) (f47_13 v) (f47_14 v) (f47_15 v) (f47_16 v) (f47_17 v)) (0:Int) (f47_14 v))))
noncomputable def f47_5 (v : V47) : (Int) := cnd (f47_9 v) (0:Int) (cnd (f47_10 v) (0:Int) (cnd (cnd (v.k == (9:Int)) false (cnd (v.k == (2:Int)) false (v.x != (0:Int)))) (0:Int) (cnd (!f45_1 (f47_11 v) (f47_12 v) (f47_13 v) (f47_14 v) (f47_15 v) (f47_16 v) (f47_17 v)) (0:Int) (f47_15 v))))
noncomputable def f47_6 (v : V47) : (Int) := cnd (f47_9 v) (0:Int) (cnd (f47_10 v) (0:Int) (cnd (cnd (v.k == (9:Int)) false (cnd (v.k == (2:Int)) false (v.x != (0:Int)))) (0:Int) (cnd (!f45_1 (f47_11 v) (f47_12 v) (f47_13 v) (f47_14 v) (f47_15 v) (f47_16 v) (f47_17 v)) (0:Int) (f47_16 v))))
noncomputable def f47_7 (v : V47) : (Int) := cnd (f47_9 v) (0:Int) (cnd (f47_10 v) (0:Int) (cnd (cnd (v.k == (9:Int)) false (cnd (v.k == (2:Int)) false (v.x != (0:Int)))) (0:Int) (cnd (!f45_1 (f47_11 v) (f47_12 v) (f47_13 v) (f47_14 v) (f47_15 v) (f47_16 v) (f47_17 v)) (0:Int) (f47_17 v))))
set_option maxRecDepth 100000
set_option maxRecDepth 100000
set_option maxRecDepth 100000
noncomputable def mkC (z : Sl) (x:Int) : Sl := ⟨f47_1 ⟨z.k, z.a, z.b, z.r, z.g, z.s, z.m, x⟩, f47_2 ⟨z.k, z.a, z.b, z.r, z.g, z.s, z.m, x⟩, f47_3 ⟨z.k, z.a, z.b, z.r, z.g, z.s, z.m, x⟩, f47_4 ⟨z.k, z.a, z.b, z.r, z.g, z.s, z.m, x⟩,
 f47_5 ⟨z.k, z.a, z.b, z.r, z.g, z.s, z.m, x⟩, f47_6 ⟨z.k, z.a, z.b, z.r, z.g, z.s, z.m, x⟩, f47_7 ⟨z.k, z.a, z.b, z.r, z.g, z.s, z.m, x⟩, 0, 0, 0⟩
def selS (c : Bool) (A B : Sl) : Sl := ⟨cnd c A.k B.k, cnd c A.a B.a, cnd c A.b B.b, cnd c A.r B.r, cnd c A.g B.g, cnd c A.s B.s, cnd c A.m B.m, 0, 0, 0⟩
set_option maxRecDepth 100000
set_option maxRecDepth 100000
set_option maxRecDepth 100000
set_option maxRecDepth 100000
set_option maxRecDepth 100000
set_option maxRecDepth 100000
structure S36r_0 where
 x26 : Int
 R2 : th.R
 n6_1 : Nat
 xh4_1 : Int
 xh4_2 : Int
 N5 : Nat
 F5_0 : Nat → Int
 F5_1 : Nat → Int
 F5_2 : Nat → Int
 F5_3 : Nat → Int
 F5_4 : Nat → Int
 F5_5 : Nat → Int
 F5_6 : Nat → Int
 F5_7 : Nat → Int
 F5_8 : Nat → Int
noncomputable instance : Inhabited S36r_0 := ⟨⟨0, dR, 0, 0, 0, 0, fun _ => 0, fun _ => 0, fun _ => 0, fun _ => 0, fun _ => 0, fun _ => 0, fun _ => 0, fun _ => 0, fun _ => 0⟩⟩
end Go.Sx.M

