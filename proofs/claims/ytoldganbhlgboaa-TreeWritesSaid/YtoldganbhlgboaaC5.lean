/- Contracts of the functions of this seat, each by the executor and the kernel; part 5. Their conditions stand in each. -/
import Derived.Test.YtoldganbhlgboaaC4
set_option linter.unusedVariables false
set_option linter.unusedSimpArgs false
set_option linter.unnecessarySimpa false
namespace Go.Sx.M
open Go Go.Sx Go.Proofs Go.RowKit
set_option maxRecDepth 100000
structure S62_0 where
  x13 : Int
noncomputable instance : Inhabited S62_0 := ⟨⟨0⟩⟩
set_option maxRecDepth 100000
structure S65_0 where
  x28 : Int
noncomputable instance : Inhabited S65_0 := ⟨⟨0⟩⟩
theorem RepS.chain {t : TS} : ∀ {r k1 : List Nd} {σ : Int → Sl} {n : Nat}, RepS t (k1 ++ r) σ → r.length ≤ n → chF t.M n (hdA r 0) = tA r
  | [], _, _, n, _, _ => (chF_stop (a := hdA [] 0) (.inl rfl)).trans rfl
  | y :: r, k1, σ, n, h, hn => by
    obtain ⟨m, rfl⟩ : ∃ m, n = m + 1 := ⟨n - 1, by simp at hn; omega⟩
    obtain ⟨e1, e2, e3⟩ := h.mem
    have hnz : y.t ≠ 0 := (h.ok y (by simp)).nz
    have hx : (sN y (hdA r 0) (lsA k1 0)).x = hdA r 0 := rfl
    show chF t.M (m + 1) y.t = _
    have h' : RepS t ((k1 ++ [y]) ++ r) σ := by simpa using h
    rw [chF_on hnz rfl, e2, hx, RepS.chain h' (by simp at hn; omega)]
    rfl
theorem RepS.list {t : TS} {l : List Nd} {σ : Int → Sl} (h : RepS t l σ) : chF t.M t.c.toNat t.f = tA l := by
  rw [h.f, h.c]
  have h' : RepS t ([] ++ l) σ := h
  exact RepS.chain h' (by simp)
def cp7 (z : Sl) : Sl := ⟨z.k, z.a, z.b, z.r, z.g, z.s, z.m, 0, 0, 0⟩
theorem RepS.tells {t : TS} {l : List Nd} {σ : Int → Sl} (h : RepS t l σ) {y : Nd} (hm : y ∈ l) : Go.Sx.M.ldE t.M y.t = 0 ∧ cp7 (Go.Sx.M.ld t.M y.t) = slN y ∧ dpE t.M y.t = y.d ∧ U64 y.t ∧ (Go.Sx.M.ld t.M y.t).d = y.d := by
  obtain ⟨k1, r, rfl⟩ := List.append_of_mem hm
  obtain ⟨e1, e2, e3⟩ := h.mem
  have ok := h.ok y (by simp)
  refine ⟨(h.E.ld ok.at_).2, by rw [e2]; rfl, ?_, e3, by rw [e2]; rfl⟩
  unfold dpE
  rw [e1, e2]
  rfl
set_option maxRecDepth 100000
noncomputable def nice65n : List (Nat × CF th.R) := nice53n
theorem nok65n : NiceOk Try.prog th nice65n := nok53n
set_option maxRecDepth 100000
noncomputable def nice62n : List (Nat × CF th.R) := nice65n
theorem nok62n : NiceOk Try.prog th nice62n := nok65n
set_option maxRecDepth 100000
structure V52 where
def A52 (v : V52) : List SV := []
def H52 (v : V52) : List (HO th.R) := []
def toV52 (v : V52) : List (Vl th.R) := []
def ofV52 : List (Vl th.R) → Option V52
  | [] => some ⟨⟩
  | _ => none
def d52 : Ft := ⟨[], []⟩
noncomputable def f52_0 (v : V52) : (Prop) := pre53 V53.mk
noncomputable def f52_1 (v : V52) : (Prop) := true = true → pre109 (V109.mk (256:Int) (8:Int) (0:Int) (7:Int) (0:Int) (0:Int) (0:Int) (0:Int) (0:Int) (0:Int) op0.fst.M)
noncomputable def f52_2 (v : V52) : (Prop) := true = true → pre56 (V56.mk (256:Int) (288:Int) (8:Int) (128:Int) (7:Int) (0:Int) (0:Int) (0:Int) (0:Int) (256:Int) (1:Int) (mrgM true (rtT (TS.mk op0.fst.M (0:Int) (0:Int)) (256:Int) (Sl.mk (8:Int) (0:Int) (7:Int) (0:Int) (0:Int) (0:Int) (0:Int) (0:Int) (0:Int) (0:Int))).M op0.fst.M))
noncomputable def f52_3 (v : V52) : (Prop) := true = true → pre56 (V56.mk (256:Int) (320:Int) (8:Int) (256:Int) (7:Int) (0:Int) (0:Int) (0:Int) (0:Int) (256:Int) (2:Int) (mrgM true (chT (TS.mk (mrgM true (rtT (TS.mk op0.fst.M (0:Int) (0:Int)) (256:Int) (Sl.mk (8:Int) (0:Int) (7:Int) (0:Int) (0:Int) (0:Int) (0:Int) (0:Int) (0:Int) (0:Int))).M op0.fst.M) (256:Int) (1:Int)) (256:Int) (288:Int) (Sl.mk (8:Int) (128:Int) (7:Int) (0:Int) (0:Int) (0:Int) (0:Int) (0:Int) (0:Int) (0:Int))).M (mrgM true (rtT (TS.mk op0.fst.M (0:Int) (0:Int)) (256:Int) (Sl.mk (8:Int) (0:Int) (7:Int) (0:Int) (0:Int) (0:Int) (0:Int) (0:Int) (0:Int) (0:Int))).M op0.fst.M)))
noncomputable def f52_4 (v : V52) : (Prop) := false = false → pre75 (V75.mk (256:Int) (3:Int) (mrgM true (chT (TS.mk (mrgM true (chT (TS.mk (mrgM true (rtT (TS.mk op0.fst.M (0:Int) (0:Int)) (256:Int) (Sl.mk (8:Int) (0:Int) (7:Int) (0:Int) (0:Int) (0:Int) (0:Int) (0:Int) (0:Int) (0:Int))).M op0.fst.M) (256:Int) (1:Int)) (256:Int) (288:Int) (Sl.mk (8:Int) (128:Int) (7:Int) (0:Int) (0:Int) (0:Int) (0:Int) (0:Int) (0:Int) (0:Int))).M (mrgM true (rtT (TS.mk op0.fst.M (0:Int) (0:Int)) (256:Int) (Sl.mk (8:Int) (0:Int) (7:Int) (0:Int) (0:Int) (0:Int) (0:Int) (0:Int) (0:Int) (0:Int))).M op0.fst.M)) (256:Int) (2:Int)) (256:Int) (320:Int) (Sl.mk (8:Int) (256:Int) (7:Int) (0:Int) (0:Int) (0:Int) (0:Int) (0:Int) (0:Int) (0:Int))).M (mrgM true (chT (TS.mk (mrgM true (rtT (TS.mk op0.fst.M (0:Int) (0:Int)) (256:Int) (Sl.mk (8:Int) (0:Int) (7:Int) (0:Int) (0:Int) (0:Int) (0:Int) (0:Int) (0:Int) (0:Int))).M op0.fst.M) (256:Int) (1:Int)) (256:Int) (288:Int) (Sl.mk (8:Int) (128:Int) (7:Int) (0:Int) (0:Int) (0:Int) (0:Int) (0:Int) (0:Int) (0:Int))).M (mrgM true (rtT (TS.mk op0.fst.M (0:Int) (0:Int)) (256:Int) (Sl.mk (8:Int) (0:Int) (7:Int) (0:Int) (0:Int) (0:Int) (0:Int) (0:Int) (0:Int) (0:Int))).M op0.fst.M))))
noncomputable def f52_5 (v : V52) : (Prop) := false = false → ∀ (i:Nat), scpL (0:Nat) ((fun (j:Nat) => [SV.int IntKind.u64 ((chF (mrgM true (chT (TS.mk (mrgM true (chT (TS.mk (mrgM true (rtT (TS.mk op0.fst.M (0:Int) (0:Int)) (256:Int) (Sl.mk (8:Int) (0:Int) (7:Int) (0:Int) (0:Int) (0:Int) (0:Int) (0:Int) (0:Int) (0:Int))).M op0.fst.M) (256:Int) (1:Int)) (256:Int) (288:Int) (Sl.mk (8:Int) (128:Int) (7:Int) (0:Int) (0:Int) (0:Int) (0:Int) (0:Int) (0:Int) (0:Int))).M (mrgM true (rtT (TS.mk op0.fst.M (0:Int) (0:Int)) (256:Int) (Sl.mk (8:Int) (0:Int) (7:Int) (0:Int) (0:Int) (0:Int) (0:Int) (0:Int) (0:Int) (0:Int))).M op0.fst.M)) (256:Int) (2:Int)) (256:Int) (320:Int) (Sl.mk (8:Int) (256:Int) (7:Int) (0:Int) (0:Int) (0:Int) (0:Int) (0:Int) (0:Int) (0:Int))).M (mrgM true (chT (TS.mk (mrgM true (rtT (TS.mk op0.fst.M (0:Int) (0:Int)) (256:Int) (Sl.mk (8:Int) (0:Int) (7:Int) (0:Int) (0:Int) (0:Int) (0:Int) (0:Int) (0:Int) (0:Int))).M op0.fst.M) (256:Int) (1:Int)) (256:Int) (288:Int) (Sl.mk (8:Int) (128:Int) (7:Int) (0:Int) (0:Int) (0:Int) (0:Int) (0:Int) (0:Int) (0:Int))).M (mrgM true (rtT (TS.mk op0.fst.M (0:Int) (0:Int)) (256:Int) (Sl.mk (8:Int) (0:Int) (7:Int) (0:Int) (0:Int) (0:Int) (0:Int) (0:Int) (0:Int) (0:Int))).M op0.fst.M))) (3:Nat) (256:Int)).getD j (0:Int))]) i) = true
noncomputable def f52_6 (v : V52) : (Prop) := false = false → pre58 (V58.mk (256:Int) (256:Int) (3:Int) (mrgM true (chT (TS.mk (mrgM true (chT (TS.mk (mrgM true (rtT (TS.mk op0.fst.M (0:Int) (0:Int)) (256:Int) (Sl.mk (8:Int) (0:Int) (7:Int) (0:Int) (0:Int) (0:Int) (0:Int) (0:Int) (0:Int) (0:Int))).M op0.fst.M) (256:Int) (1:Int)) (256:Int) (288:Int) (Sl.mk (8:Int) (128:Int) (7:Int) (0:Int) (0:Int) (0:Int) (0:Int) (0:Int) (0:Int) (0:Int))).M (mrgM true (rtT (TS.mk op0.fst.M (0:Int) (0:Int)) (256:Int) (Sl.mk (8:Int) (0:Int) (7:Int) (0:Int) (0:Int) (0:Int) (0:Int) (0:Int) (0:Int) (0:Int))).M op0.fst.M)) (256:Int) (2:Int)) (256:Int) (320:Int) (Sl.mk (8:Int) (256:Int) (7:Int) (0:Int) (0:Int) (0:Int) (0:Int) (0:Int) (0:Int) (0:Int))).M (mrgM true (chT (TS.mk (mrgM true (rtT (TS.mk op0.fst.M (0:Int) (0:Int)) (256:Int) (Sl.mk (8:Int) (0:Int) (7:Int) (0:Int) (0:Int) (0:Int) (0:Int) (0:Int) (0:Int) (0:Int))).M op0.fst.M) (256:Int) (1:Int)) (256:Int) (288:Int) (Sl.mk (8:Int) (128:Int) (7:Int) (0:Int) (0:Int) (0:Int) (0:Int) (0:Int) (0:Int) (0:Int))).M (mrgM true (rtT (TS.mk op0.fst.M (0:Int) (0:Int)) (256:Int) (Sl.mk (8:Int) (0:Int) (7:Int) (0:Int) (0:Int) (0:Int) (0:Int) (0:Int) (0:Int) (0:Int))).M op0.fst.M))))
noncomputable def f52_7 (v : V52) : (Prop) := false = false → ∀ (i:Nat), scpL (0:Nat) ((fun (j:Nat) => [SV.int IntKind.u64 ((blw (mrgM true (chT (TS.mk (mrgM true (chT (TS.mk (mrgM true (rtT (TS.mk op0.fst.M (0:Int) (0:Int)) (256:Int) (Sl.mk (8:Int) (0:Int) (7:Int) (0:Int) (0:Int) (0:Int) (0:Int) (0:Int) (0:Int) (0:Int))).M op0.fst.M) (256:Int) (1:Int)) (256:Int) (288:Int) (Sl.mk (8:Int) (128:Int) (7:Int) (0:Int) (0:Int) (0:Int) (0:Int) (0:Int) (0:Int) (0:Int))).M (mrgM true (rtT (TS.mk op0.fst.M (0:Int) (0:Int)) (256:Int) (Sl.mk (8:Int) (0:Int) (7:Int) (0:Int) (0:Int) (0:Int) (0:Int) (0:Int) (0:Int) (0:Int))).M op0.fst.M)) (256:Int) (2:Int)) (256:Int) (320:Int) (Sl.mk (8:Int) (256:Int) (7:Int) (0:Int) (0:Int) (0:Int) (0:Int) (0:Int) (0:Int) (0:Int))).M (mrgM true (chT (TS.mk (mrgM true (rtT (TS.mk op0.fst.M (0:Int) (0:Int)) (256:Int) (Sl.mk (8:Int) (0:Int) (7:Int) (0:Int) (0:Int) (0:Int) (0:Int) (0:Int) (0:Int) (0:Int))).M op0.fst.M) (256:Int) (1:Int)) (256:Int) (288:Int) (Sl.mk (8:Int) (128:Int) (7:Int) (0:Int) (0:Int) (0:Int) (0:Int) (0:Int) (0:Int) (0:Int))).M (mrgM true (rtT (TS.mk op0.fst.M (0:Int) (0:Int)) (256:Int) (Sl.mk (8:Int) (0:Int) (7:Int) (0:Int) (0:Int) (0:Int) (0:Int) (0:Int) (0:Int) (0:Int))).M op0.fst.M))) (3:Int) (256:Int)).getD j (0:Int))]) i) = true
noncomputable def f52_8 (v : V52) : (Prop) := false = false → true = true → (0:Int) ≤ (1:Int) ∧ (1:Int) < (3:Int)
noncomputable def f52_9 (v : V52) : (Prop) := false = false → true = true → (1:Nat) < (3:Nat)
noncomputable def f52_10 (v : V52) : (Prop) := false = false → true = true → (0:Int) ≤ (2:Int) ∧ (2:Int) < (3:Int)
noncomputable def f52_11 (v : V52) : (Prop) := false = false → true = true → (2:Nat) < (3:Nat)
noncomputable def f52_12 (v : V52) : (Prop) := false = false → true = true → pre63 (V63.mk (256:Int) (256:Int) (3:Int) (mrgM true (chT (TS.mk (mrgM true (chT (TS.mk (mrgM true (rtT (TS.mk op0.fst.M (0:Int) (0:Int)) (256:Int) (Sl.mk (8:Int) (0:Int) (7:Int) (0:Int) (0:Int) (0:Int) (0:Int) (0:Int) (0:Int) (0:Int))).M op0.fst.M) (256:Int) (1:Int)) (256:Int) (288:Int) (Sl.mk (8:Int) (128:Int) (7:Int) (0:Int) (0:Int) (0:Int) (0:Int) (0:Int) (0:Int) (0:Int))).M (mrgM true (rtT (TS.mk op0.fst.M (0:Int) (0:Int)) (256:Int) (Sl.mk (8:Int) (0:Int) (7:Int) (0:Int) (0:Int) (0:Int) (0:Int) (0:Int) (0:Int) (0:Int))).M op0.fst.M)) (256:Int) (2:Int)) (256:Int) (320:Int) (Sl.mk (8:Int) (256:Int) (7:Int) (0:Int) (0:Int) (0:Int) (0:Int) (0:Int) (0:Int) (0:Int))).M (mrgM true (chT (TS.mk (mrgM true (rtT (TS.mk op0.fst.M (0:Int) (0:Int)) (256:Int) (Sl.mk (8:Int) (0:Int) (7:Int) (0:Int) (0:Int) (0:Int) (0:Int) (0:Int) (0:Int) (0:Int))).M op0.fst.M) (256:Int) (1:Int)) (256:Int) (288:Int) (Sl.mk (8:Int) (128:Int) (7:Int) (0:Int) (0:Int) (0:Int) (0:Int) (0:Int) (0:Int) (0:Int))).M (mrgM true (rtT (TS.mk op0.fst.M (0:Int) (0:Int)) (256:Int) (Sl.mk (8:Int) (0:Int) (7:Int) (0:Int) (0:Int) (0:Int) (0:Int) (0:Int) (0:Int) (0:Int))).M op0.fst.M))))
noncomputable def f52_13 (v : V52) : (Prop) := false = false → true = true → pre59 (V59.mk (320:Int) (320:Int) (2:Int) (mrgM true (rmT (TS.mk (mrgM true (chT (TS.mk (mrgM true (chT (TS.mk (mrgM true (rtT (TS.mk op0.fst.M (0:Int) (0:Int)) (256:Int) (Sl.mk (8:Int) (0:Int) (7:Int) (0:Int) (0:Int) (0:Int) (0:Int) (0:Int) (0:Int) (0:Int))).M op0.fst.M) (256:Int) (1:Int)) (256:Int) (288:Int) (Sl.mk (8:Int) (128:Int) (7:Int) (0:Int) (0:Int) (0:Int) (0:Int) (0:Int) (0:Int) (0:Int))).M (mrgM true (rtT (TS.mk op0.fst.M (0:Int) (0:Int)) (256:Int) (Sl.mk (8:Int) (0:Int) (7:Int) (0:Int) (0:Int) (0:Int) (0:Int) (0:Int) (0:Int) (0:Int))).M op0.fst.M)) (256:Int) (2:Int)) (256:Int) (320:Int) (Sl.mk (8:Int) (256:Int) (7:Int) (0:Int) (0:Int) (0:Int) (0:Int) (0:Int) (0:Int) (0:Int))).M (mrgM true (chT (TS.mk (mrgM true (rtT (TS.mk op0.fst.M (0:Int) (0:Int)) (256:Int) (Sl.mk (8:Int) (0:Int) (7:Int) (0:Int) (0:Int) (0:Int) (0:Int) (0:Int) (0:Int) (0:Int))).M op0.fst.M) (256:Int) (1:Int)) (256:Int) (288:Int) (Sl.mk (8:Int) (128:Int) (7:Int) (0:Int) (0:Int) (0:Int) (0:Int) (0:Int) (0:Int) (0:Int))).M (mrgM true (rtT (TS.mk op0.fst.M (0:Int) (0:Int)) (256:Int) (Sl.mk (8:Int) (0:Int) (7:Int) (0:Int) (0:Int) (0:Int) (0:Int) (0:Int) (0:Int) (0:Int))).M op0.fst.M))) (256:Int) (3:Int)) (256:Int)).M (mrgM true (chT (TS.mk (mrgM true (chT (TS.mk (mrgM true (rtT (TS.mk op0.fst.M (0:Int) (0:Int)) (256:Int) (Sl.mk (8:Int) (0:Int) (7:Int) (0:Int) (0:Int) (0:Int) (0:Int) (0:Int) (0:Int) (0:Int))).M op0.fst.M) (256:Int) (1:Int)) (256:Int) (288:Int) (Sl.mk (8:Int) (128:Int) (7:Int) (0:Int) (0:Int) (0:Int) (0:Int) (0:Int) (0:Int) (0:Int))).M (mrgM true (rtT (TS.mk op0.fst.M (0:Int) (0:Int)) (256:Int) (Sl.mk (8:Int) (0:Int) (7:Int) (0:Int) (0:Int) (0:Int) (0:Int) (0:Int) (0:Int) (0:Int))).M op0.fst.M)) (256:Int) (2:Int)) (256:Int) (320:Int) (Sl.mk (8:Int) (256:Int) (7:Int) (0:Int) (0:Int) (0:Int) (0:Int) (0:Int) (0:Int) (0:Int))).M (mrgM true (chT (TS.mk (mrgM true (rtT (TS.mk op0.fst.M (0:Int) (0:Int)) (256:Int) (Sl.mk (8:Int) (0:Int) (7:Int) (0:Int) (0:Int) (0:Int) (0:Int) (0:Int) (0:Int) (0:Int))).M op0.fst.M) (256:Int) (1:Int)) (256:Int) (288:Int) (Sl.mk (8:Int) (128:Int) (7:Int) (0:Int) (0:Int) (0:Int) (0:Int) (0:Int) (0:Int) (0:Int))).M (mrgM true (rtT (TS.mk op0.fst.M (0:Int) (0:Int)) (256:Int) (Sl.mk (8:Int) (0:Int) (7:Int) (0:Int) (0:Int) (0:Int) (0:Int) (0:Int) (0:Int) (0:Int))).M op0.fst.M)))))
noncomputable def f52_14 (v : V52) : (Prop) := false = false → true = true → pre59 (V59.mk (288:Int) (320:Int) (2:Int) (mrgM true (rmT (TS.mk (mrgM true (chT (TS.mk (mrgM true (chT (TS.mk (mrgM true (rtT (TS.mk op0.fst.M (0:Int) (0:Int)) (256:Int) (Sl.mk (8:Int) (0:Int) (7:Int) (0:Int) (0:Int) (0:Int) (0:Int) (0:Int) (0:Int) (0:Int))).M op0.fst.M) (256:Int) (1:Int)) (256:Int) (288:Int) (Sl.mk (8:Int) (128:Int) (7:Int) (0:Int) (0:Int) (0:Int) (0:Int) (0:Int) (0:Int) (0:Int))).M (mrgM true (rtT (TS.mk op0.fst.M (0:Int) (0:Int)) (256:Int) (Sl.mk (8:Int) (0:Int) (7:Int) (0:Int) (0:Int) (0:Int) (0:Int) (0:Int) (0:Int) (0:Int))).M op0.fst.M)) (256:Int) (2:Int)) (256:Int) (320:Int) (Sl.mk (8:Int) (256:Int) (7:Int) (0:Int) (0:Int) (0:Int) (0:Int) (0:Int) (0:Int) (0:Int))).M (mrgM true (chT (TS.mk (mrgM true (rtT (TS.mk op0.fst.M (0:Int) (0:Int)) (256:Int) (Sl.mk (8:Int) (0:Int) (7:Int) (0:Int) (0:Int) (0:Int) (0:Int) (0:Int) (0:Int) (0:Int))).M op0.fst.M) (256:Int) (1:Int)) (256:Int) (288:Int) (Sl.mk (8:Int) (128:Int) (7:Int) (0:Int) (0:Int) (0:Int) (0:Int) (0:Int) (0:Int) (0:Int))).M (mrgM true (rtT (TS.mk op0.fst.M (0:Int) (0:Int)) (256:Int) (Sl.mk (8:Int) (0:Int) (7:Int) (0:Int) (0:Int) (0:Int) (0:Int) (0:Int) (0:Int) (0:Int))).M op0.fst.M))) (256:Int) (3:Int)) (256:Int)).M (mrgM true (chT (TS.mk (mrgM true (chT (TS.mk (mrgM true (rtT (TS.mk op0.fst.M (0:Int) (0:Int)) (256:Int) (Sl.mk (8:Int) (0:Int) (7:Int) (0:Int) (0:Int) (0:Int) (0:Int) (0:Int) (0:Int) (0:Int))).M op0.fst.M) (256:Int) (1:Int)) (256:Int) (288:Int) (Sl.mk (8:Int) (128:Int) (7:Int) (0:Int) (0:Int) (0:Int) (0:Int) (0:Int) (0:Int) (0:Int))).M (mrgM true (rtT (TS.mk op0.fst.M (0:Int) (0:Int)) (256:Int) (Sl.mk (8:Int) (0:Int) (7:Int) (0:Int) (0:Int) (0:Int) (0:Int) (0:Int) (0:Int) (0:Int))).M op0.fst.M)) (256:Int) (2:Int)) (256:Int) (320:Int) (Sl.mk (8:Int) (256:Int) (7:Int) (0:Int) (0:Int) (0:Int) (0:Int) (0:Int) (0:Int) (0:Int))).M (mrgM true (chT (TS.mk (mrgM true (rtT (TS.mk op0.fst.M (0:Int) (0:Int)) (256:Int) (Sl.mk (8:Int) (0:Int) (7:Int) (0:Int) (0:Int) (0:Int) (0:Int) (0:Int) (0:Int) (0:Int))).M op0.fst.M) (256:Int) (1:Int)) (256:Int) (288:Int) (Sl.mk (8:Int) (128:Int) (7:Int) (0:Int) (0:Int) (0:Int) (0:Int) (0:Int) (0:Int) (0:Int))).M (mrgM true (rtT (TS.mk op0.fst.M (0:Int) (0:Int)) (256:Int) (Sl.mk (8:Int) (0:Int) (7:Int) (0:Int) (0:Int) (0:Int) (0:Int) (0:Int) (0:Int) (0:Int))).M op0.fst.M)))))
noncomputable def f52_15 (v : V52) : (Prop) := false = false → true = true → pre59 (V59.mk (256:Int) (320:Int) (2:Int) (mrgM true (rmT (TS.mk (mrgM true (chT (TS.mk (mrgM true (chT (TS.mk (mrgM true (rtT (TS.mk op0.fst.M (0:Int) (0:Int)) (256:Int) (Sl.mk (8:Int) (0:Int) (7:Int) (0:Int) (0:Int) (0:Int) (0:Int) (0:Int) (0:Int) (0:Int))).M op0.fst.M) (256:Int) (1:Int)) (256:Int) (288:Int) (Sl.mk (8:Int) (128:Int) (7:Int) (0:Int) (0:Int) (0:Int) (0:Int) (0:Int) (0:Int) (0:Int))).M (mrgM true (rtT (TS.mk op0.fst.M (0:Int) (0:Int)) (256:Int) (Sl.mk (8:Int) (0:Int) (7:Int) (0:Int) (0:Int) (0:Int) (0:Int) (0:Int) (0:Int) (0:Int))).M op0.fst.M)) (256:Int) (2:Int)) (256:Int) (320:Int) (Sl.mk (8:Int) (256:Int) (7:Int) (0:Int) (0:Int) (0:Int) (0:Int) (0:Int) (0:Int) (0:Int))).M (mrgM true (chT (TS.mk (mrgM true (rtT (TS.mk op0.fst.M (0:Int) (0:Int)) (256:Int) (Sl.mk (8:Int) (0:Int) (7:Int) (0:Int) (0:Int) (0:Int) (0:Int) (0:Int) (0:Int) (0:Int))).M op0.fst.M) (256:Int) (1:Int)) (256:Int) (288:Int) (Sl.mk (8:Int) (128:Int) (7:Int) (0:Int) (0:Int) (0:Int) (0:Int) (0:Int) (0:Int) (0:Int))).M (mrgM true (rtT (TS.mk op0.fst.M (0:Int) (0:Int)) (256:Int) (Sl.mk (8:Int) (0:Int) (7:Int) (0:Int) (0:Int) (0:Int) (0:Int) (0:Int) (0:Int) (0:Int))).M op0.fst.M))) (256:Int) (3:Int)) (256:Int)).M (mrgM true (chT (TS.mk (mrgM true (chT (TS.mk (mrgM true (rtT (TS.mk op0.fst.M (0:Int) (0:Int)) (256:Int) (Sl.mk (8:Int) (0:Int) (7:Int) (0:Int) (0:Int) (0:Int) (0:Int) (0:Int) (0:Int) (0:Int))).M op0.fst.M) (256:Int) (1:Int)) (256:Int) (288:Int) (Sl.mk (8:Int) (128:Int) (7:Int) (0:Int) (0:Int) (0:Int) (0:Int) (0:Int) (0:Int) (0:Int))).M (mrgM true (rtT (TS.mk op0.fst.M (0:Int) (0:Int)) (256:Int) (Sl.mk (8:Int) (0:Int) (7:Int) (0:Int) (0:Int) (0:Int) (0:Int) (0:Int) (0:Int) (0:Int))).M op0.fst.M)) (256:Int) (2:Int)) (256:Int) (320:Int) (Sl.mk (8:Int) (256:Int) (7:Int) (0:Int) (0:Int) (0:Int) (0:Int) (0:Int) (0:Int) (0:Int))).M (mrgM true (chT (TS.mk (mrgM true (rtT (TS.mk op0.fst.M (0:Int) (0:Int)) (256:Int) (Sl.mk (8:Int) (0:Int) (7:Int) (0:Int) (0:Int) (0:Int) (0:Int) (0:Int) (0:Int) (0:Int))).M op0.fst.M) (256:Int) (1:Int)) (256:Int) (288:Int) (Sl.mk (8:Int) (128:Int) (7:Int) (0:Int) (0:Int) (0:Int) (0:Int) (0:Int) (0:Int) (0:Int))).M (mrgM true (rtT (TS.mk op0.fst.M (0:Int) (0:Int)) (256:Int) (Sl.mk (8:Int) (0:Int) (7:Int) (0:Int) (0:Int) (0:Int) (0:Int) (0:Int) (0:Int) (0:Int))).M op0.fst.M)))))
theorem n_f52_5 (v : V52) : f52_5 v := by
  unfold f52_5
  (repeat' first | intro _ | apply And.intro) <;> first | rfl | exact absurd (by assumption) (Nat.not_lt_zero _) | exact scpL_rowSet (by rfl) (by rfl) | exact scpL_rowEl (by kernel_rfl) _ | omega | decide
theorem n_f52_7 (v : V52) : f52_7 v := by
  unfold f52_7
  (repeat' first | intro _ | apply And.intro) <;> first | rfl | exact absurd (by assumption) (Nat.not_lt_zero _) | exact scpL_rowSet (by rfl) (by rfl) | exact scpL_rowEl (by kernel_rfl) _ | omega | decide
theorem n_f52_8 (v : V52) : f52_8 v := by
  unfold f52_8
  (repeat' first | intro _ | apply And.intro) <;> first | rfl | exact absurd (by assumption) (Nat.not_lt_zero _) | exact scpL_rowSet (by rfl) (by rfl) | exact scpL_rowEl (by kernel_rfl) _ | omega | decide
theorem n_f52_9 (v : V52) : f52_9 v := by
  unfold f52_9
  (repeat' first | intro _ | apply And.intro) <;> first | rfl | exact absurd (by assumption) (Nat.not_lt_zero _) | exact scpL_rowSet (by rfl) (by rfl) | exact scpL_rowEl (by kernel_rfl) _ | omega | decide
theorem n_f52_10 (v : V52) : f52_10 v := by
  unfold f52_10
  (repeat' first | intro _ | apply And.intro) <;> first | rfl | exact absurd (by assumption) (Nat.not_lt_zero _) | exact scpL_rowSet (by rfl) (by rfl) | exact scpL_rowEl (by kernel_rfl) _ | omega | decide
theorem n_f52_11 (v : V52) : f52_11 v := by
  unfold f52_11
  (repeat' first | intro _ | apply And.intro) <;> first | rfl | exact absurd (by assumption) (Nat.not_lt_zero _) | exact scpL_rowSet (by rfl) (by rfl) | exact scpL_rowEl (by kernel_rfl) _ | omega | decide
noncomputable def ff52 (v : V52) : Tr (Fin th.R) := (Tr.need (f52_0 v) (Tr.need (f52_1 v) (Tr.need (f52_2 v) (Tr.need (f52_3 v) (Tr.need (f52_4 v) (Tr.need (f52_5 v) (Tr.need (f52_6 v) (Tr.need (f52_7 v) (Tr.need (f52_8 v) (Tr.need (f52_9 v) (Tr.need (f52_10 v) (Tr.need (f52_11 v) (Tr.need (f52_12 v) (Tr.need (f52_13 v) (Tr.need (f52_14 v) (Tr.need (f52_15 v) (Tr.leaf (SV.bool (true), List.nil, List.nil))))))))))))))))))
noncomputable def f52 (v : V52) : Tr (Fin th.R) := (Tr.need (f52_0 v) (Tr.need (f52_1 v) (Tr.need (f52_2 v) (Tr.need (f52_3 v) (Tr.need (f52_4 v) (Tr.need (f52_6 v) (Tr.need (f52_12 v) (Tr.need (f52_13 v) (Tr.need (f52_14 v) (Tr.need (f52_15 v) (Tr.leaf (SV.bool (true), List.nil, []))))))))))))
noncomputable def C52 : CF th.R := fnC d52 ofV52 (f52 )
theorem q52 (v : V52) : (evFn th Try.prog (auto th Try.prog nice62n [] 20) (autoH [] [] [] [] : Hints th) 52) (A52 v) (H52 v) = some (ff52 v) := by kernel_rfl
theorem qg52 (v : V52) : ((ff52 v).map (setD [])).get = (f52 v).get := by kernel_rfl
theorem qd52 (v : V52) : allD 0 [] (ff52 v) = true := by kernel_rfl
theorem s52 : Sound Try.prog th 52 (C52 ) := fnC_sound (evFn_sound' (T := th) (P := Try.prog) (tbl := (auto th Try.prog nice62n [] 20)) (auto_sound (nice := nice62n) (us := []) nok62n 20) (H := (autoH [] [] [] [] : Hints th)) (k := 52) (fnLoops (LoopsOk_mem (fun _ => rfl) _ fun _ _ _ e => by cases e))) d52 A52 H52 toV52 (by kernel_rfl) (fun v => by kernel_rfl)
  (fun l v h => by
    unfold ofV52 at h
    split at h
    · cases h; rfl
    · cases h)
  [] (fun v => ⟨ff52 v, q52 v, fun h => by
    unfold f52 at h; unfold ff52
    simp only [Tr.ok, n_f52_5, n_f52_7, n_f52_8, n_f52_9, n_f52_10, n_f52_11, true_and, and_true, forall_const, implies_true] at h ⊢
    try exact h, qg52 v, qd52 v⟩)
theorem qdd52 (v : V52) : (f52 v).get.2.2 = [] := by
  rw [← qg52, Tr.map_get]; rfl
set_option maxRecDepth 100000
def pre52 (v : V52) : Prop := True
theorem n52 (v : V52) (h : pre52 v) : (f52 v).ok ∧ (f52 v).get.1 = .bool true ∧ HOws (f52 v).get.2.1 [] := by
  have u256 : U64 256 := ⟨by decide, by decide⟩
  have u288 : U64 288 := ⟨by decide, by decide⟩
  have u320 : U64 320 := ⟨by decide, by decide⟩
  have i64_2 : I64 2 := ⟨by decide, by decide⟩
  have i64_3 : I64 3 := ⟨by decide, by decide⟩
  have le3 : (3:Int) ≤ 100000 := by decide
  have z0 : SlR ⟨8, 0, 7, 0, 0, 0, 0, 0, 0, 0⟩ := by (repeat' first | apply SlR.mk | apply And.intro) <;> decide
  have z1 : SlR ⟨8, 128, 7, 0, 0, 0, 0, 0, 0, 0⟩ := by (repeat' first | apply SlR.mk | apply And.intro) <;> decide
  have z2 : SlR ⟨8, 256, 7, 0, 0, 0, 0, 0, 0, 0⟩ := by (repeat' first | apply SlR.mk | apply And.intro) <;> decide
  have T0 : TR ⟨op0.1.M, 0, 0⟩ := op0_R
  have r1 := rtT_R T0 u256 z0
  have T1 : TR ⟨mrgM true (rtT ⟨op0.1.M, 0, 0⟩ 256 ⟨8, 0, 7, 0, 0, 0, 0, 0, 0, 0⟩).M op0.1.M, 256, 1⟩ := ⟨mrg_ind (fun _ => r1.1) (fun e => by cases e), u256, by decide, by decide⟩
  have r2 := chT_R T1 u256 u288 z1
  have T2 : ∀ B, TR ⟨mrgM true (chT ⟨mrgM true (rtT ⟨op0.1.M, 0, 0⟩ 256 ⟨8, 0, 7, 0, 0, 0, 0, 0, 0, 0⟩).M op0.1.M, 256, 1⟩ 256 288 ⟨8, 128, 7, 0, 0, 0, 0, 0, 0, 0⟩).M B, 256, 2⟩ := fun B => ⟨mrg_ind (fun _ => r2.1) (fun e => by cases e), u256, i64_2⟩
  have r3 := fun B => chT_R (T2 B) u256 u320 z2
  have T3 : ∀ B C, TR ⟨mrgM true (chT ⟨mrgM true (chT ⟨mrgM true (rtT ⟨op0.1.M, 0, 0⟩ 256 ⟨8, 0, 7, 0, 0, 0, 0, 0, 0, 0⟩).M op0.1.M, 256, 1⟩ 256 288 ⟨8, 128, 7, 0, 0, 0, 0, 0, 0, 0⟩).M B, 256, 2⟩ 256 320 ⟨8, 256, 7, 0, 0, 0, 0, 0, 0, 0⟩).M C, 256, 3⟩ := fun B C => ⟨mrg_ind (fun _ => (r3 B).1) (fun e => by cases e), u256, i64_3⟩
  refine ⟨⟨trivial, fun _ => ⟨u256, z0, T0⟩, fun _ => ⟨⟨u256, u288⟩, z1, T1⟩, fun _ => ⟨⟨u256, u320⟩, z2, T2 _⟩, fun _ => ⟨T3 _ _, le3⟩, fun _ => ⟨u256, T3 _ _, le3⟩, fun _ _ => ⟨u256, T3 _ _, le3⟩, fun _ _ => u320, fun _ _ => u288, fun _ _ => u256, trivial⟩, rfl, .refl _⟩
noncomputable def f52n (v : V52) : Tr (Fin th.R) := .need (pre52 v) (.leaf (.bool true, [], []))
theorem s52n : Sound Try.prog th 52 (fnC d52 ofV52 f52n) := fnC_refine s52 fun v h => by
  obtain ⟨hp, _⟩ := h
  obtain ⟨a, b, c⟩ := n52 v hp
  exact ⟨a, b.symm, (qdd52 v).symm, c, by show 0 ≤ 0; decide⟩
noncomputable def nice52n : List (Nat × CF th.R) := (52, lift (fnC d52 ofV52 f52n)) :: nice62n
theorem nok52n : NiceOk Try.prog th nice52n := ⟨lift_sound s52n, nok62n⟩
set_option maxRecDepth 100000
noncomputable def f58c (v : V58) : Tr (Fin th.R) := .need (pre58 v) (.leaf (.slc 2 1 0 (blw v.M v.c v.at_).length, [.cells 175 [.ptr 1 0, .int .u64 v.f, .int .i64 v.c], .res v.M, .row 22 1 (blw v.M v.c v.at_).length (fun j => [.int .u64 ((blw v.M v.c v.at_).getD j 0)])], []))
theorem cw58 (v : V58) : fnC d58 ofV58 f58n (A58 v) (H58 v) = some ((f58n v).map (fixF (H58 v))) := by kernel_rfl
theorem s58c : Sound Try.prog th 58 (fnC d58 ofV58 f58c) := by
  refine fnC_direct (T := th) d58 A58 H58 toV58 (by kernel_rfl) (fun v => by kernel_rfl) ?_ ?_ (fun v _ => by show 2 ≤ 3; decide) (fun v _ n hn _ => ?_)
  · intro l v h
    unfold ofV58 at h
    split at h
    · cases h; rfl
    · cases h
  · intro v hok K w0 ρ w vargs I hr
    exact fnC_out s58n (cw58 v) ⟨hok.1, trivial⟩ I hr
  · have hn : n < 2 := hn
    rcases n with _ | _ | n
    · rfl
    · rfl
    · omega
noncomputable def nice12b : List (Nat × CF th.R) := nice52n
theorem nok12b : NiceOk Try.prog th nice12b := nok52n
noncomputable def nice12c : List (Nat × CF th.R) := (58, lift (fnC d58 ofV58 f58c)) :: nice12b
theorem nok12c : NiceOk Try.prog th nice12c := ⟨lift_sound s58c, nok12b⟩
end Go.Sx.M

namespace Go.Sx
set_option maxRecDepth 10000
open Go.RowKit Go.Maps
/-! ### Words and pages that aren't nought -/
def cntW (W : Int → Int) (p:Int) : Nat := ((List.range 512).filter (fun (i:Nat) => W (p * 4096 + 8 * (i:Int)) != 0)).length
def cntK (W : Int → Int) (p:Int) (k:Nat) : Nat := ((List.range k).filter (fun (i:Nat) => W (p * 4096 + 8 * (i:Int)) != 0)).length
theorem cntK_succ (W : Int → Int) (p:Int) (k:Nat) : cntK W p (k + 1) = cntK W p k + (if W (p * 4096 + 8 * (k:Int)) = 0 then 0 else 1) := by
  unfold cntK
  rw [List.range_succ, List.filter_append, List.length_append]
  congr 1
  by_cases h : W (p * 4096 + 8 * (k:Int)) = 0
  · simp [h]
  · simp [h]
theorem cntK_le (W : Int → Int) (p:Int) (k:Nat) : cntK W p k ≤ k := by
  have := List.length_filter_le (fun (i:Nat) => W (p * 4096 + 8 * (i:Int)) != 0) (List.range k)
  simpa [cntK] using this
theorem cntW_le (W : Int → Int) (p:Int) : cntW W p ≤ 512 := cntK_le W p 512
theorem cntW_zero {W : Int → Int} {p : Int} (h : ∀ a, a / 4096 = p → W a = 0) : cntW W p = 0 := by
  unfold cntW
  have : (List.range 512).filter (fun (i:Nat) => W (p * 4096 + 8 * (i:Int)) != 0) = [] := List.filter_eq_nil_iff.2 fun i hi => by
    have hi := List.mem_range.1 hi
    rw [h _ (by omega)]
    simp
  rw [this]; rfl
theorem cntW_pos {W : Int → Int} {p : Int} : 0 < cntW W p ↔ ∃ i : Nat, i < 512 ∧ W (p * 4096 + 8 * (i:Int)) ≠ 0 := by
  unfold cntW
  rw [List.length_pos_iff_exists_mem]
  constructor
  · rintro ⟨i, hi⟩
    obtain ⟨h1, h2⟩ := List.mem_filter.1 hi
    exact ⟨i, List.mem_range.1 h1, by simpa using h2⟩
  · rintro ⟨i, hi, h⟩
    exact ⟨i, List.mem_filter.2 ⟨List.mem_range.2 hi, by simpa using h⟩⟩
def sumN (f : Nat → Nat) : Nat → Nat
  | 0 => 0
  | n + 1 => sumN f n + f n
theorem sumN_eq {f g : Nat → Nat} : ∀ {n : Nat}, (∀ i, i < n → f i = g i) → sumN f n = sumN g n
  | 0, _ => rfl
  | n + 1, h => by
    show sumN f n + f n = sumN g n + g n
    rw [sumN_eq fun i hi => h i (by omega), h n (by omega)]
theorem sumN_zero {f : Nat → Nat} {n : Nat} (h : ∀ i, i < n → f i = 0) : sumN f n = 0 := by
  induction n with
  | zero => rfl
  | succ n ih => show sumN f n + f n = 0; rw [ih fun i hi => h i (by omega), h n (by omega)]
theorem sumN_add {f g : Nat → Nat} {x c : Nat} : ∀ {n : Nat}, x < n → (∀ i, i < n → i ≠ x → g i = f i) → g x = f x + c → sumN g n = sumN f n + c
  | 0, h, _, _ => absurd h (Nat.not_lt_zero _)
  | n + 1, h, ho, hx => by
    show sumN g n + g n = sumN f n + f n + c
    by_cases e : x = n
    · subst e
      rw [sumN_eq (g := f) fun i hi => ho i (by omega) (by omega), hx]
      omega
    · rw [sumN_add (c := c) (by omega) (fun i hi => ho i (by omega)) hx, ho n (by omega) (by omega)]
      omega
theorem sumN_le {f : Nat → Nat} {c : Nat} : ∀ {n : Nat}, (∀ i, i < n → f i ≤ c) → sumN f n ≤ n * c
  | 0, _ => Nat.zero_le _
  | n + 1, h => by
    have h1 := sumN_le (n := n) fun i hi => h i (by omega)
    have h2 := h n (by omega)
    show sumN f n + f n ≤ (n + 1) * c
    rw [Nat.succ_mul]; omega
def pagN (M : Mem) : Nat := (M.size / 4096).toNat
def wcn (M : Mem) : Nat := sumN (fun p => cntW M.W (p:Int)) (pagN M)
end Go.Sx

namespace Go.Sx
open Go.RowKit
section
variable {T : Theory} {K : Nat → Prop} {w0 w w' : World} {ρ : Env} {h : List (HO T.R)}
theorem Inv.grow (I : Inv T K w0 ρ h w) (ht : Turns (fun _ => False) w w') : Inv T K w0 ρ h w' :=
  ⟨I.len, I.kept.turns ht fun _ x => x.elim, by
    obtain ⟨F, h1, h2, h3⟩ := I.foot
    exact ⟨F, fun n o l hn hl => OHolds.mono (Pre.refl _) (h1 n o l hn hl) fun i hi => ht.rest i (h3 n i hi).1 id, h2, fun n i hi => ⟨Nat.lt_of_lt_of_le (h3 n i hi).1 ht.size, (h3 n i hi).2⟩⟩⟩
end
theorem Turns.range {H : Type} {P : Program} {k : TypeId} {R : Value → Option (DataW H × List MemPlace)} {w w' : World} {b n cnt : Nat} {D : DataW H} {left : Lit → Bool} (h : w'.ranges P k R b w.heap.size n D left cnt) (hg : w.grownBy w' none) (hs : w'.heap.size = w.heap.size + 1) : Turns (fun _ => False) w w' := by
  obtain ⟨es, clock, since, seen, c0, _, _, _, _, hit, _⟩ := h
  refine ⟨hg.os, hg.tape, hg.output, hg.size, fun i hi _ => hg.block i hi (by simp), fun a => ?_⟩
  by_cases h1 : a.block < w.heap.size
  · exact World.frozen?_of_block (hg.block _ h1 (by simp))
  · have e2 : w.frozen? a = false := by
      simp [World.frozen?, Array.getElem?_eq_none (Nat.le_of_not_lt h1)]
    rw [e2]
    by_cases h2 : a.block = w.heap.size
    · simp [World.frozen?, h2, hit]
    · simp [World.frozen?, Array.getElem?_eq_none (show w'.heap.size ≤ a.block by omega)]
theorem Turns.step {H : Type} {P : Program} {k : TypeId} {R : Value → Option (DataW H × List MemPlace)} {w w' : World} {b r n n' cnt cnt' : Nat} {D D' : DataW H} {left left' : Lit → Bool} (h : w.ranges P k R b r n D left cnt) (h' : w'.ranges P k R b r n' D' left' cnt') (hg : w.grownBy w' (some r)) (hs : w'.heap.size = w.heap.size) : Turns (fun i => i = r) w w' := by
  obtain ⟨es, clock, since, seen, c0, _, _, _, _, hit, _⟩ := h
  obtain ⟨es', clock', since', seen', c0', _, _, _, _, hit', _⟩ := h'
  refine ⟨hg.os, hg.tape, hg.output, hg.size, fun i hi hr => hg.block i hi (fun e => hr (Option.some.inj e)), fun a => ?_⟩
  by_cases h1 : a.block = r
  · simp [World.frozen?, h1, hit, hit']
  · by_cases h2 : a.block < w.heap.size
    · exact World.frozen?_of_block (hg.block _ h2 (fun e => h1 (Option.some.inj e)))
    · simp [World.frozen?, Array.getElem?_eq_none (Nat.le_of_not_lt h2), Array.getElem?_eq_none (show w'.heap.size ≤ a.block by omega)]
end Go.Sx
namespace Go.Sx.M
open Go Go.Sx Go.Proofs Go.RowKit Go.Maps
theorem sheet_cell {w : World} {s : Nat} {W : Int → Int} {p : Int} (hd : w.heap[s]? = some (.cells (sheet W p).toArray 193 (0, 0))) {i : Nat} (hi : i < 512) : w.cell? ⟨s, i, none⟩ = some (.int .u64 (W (p * 4096 + 8 * (i:Int)))) := by
  unfold World.cell?
  simp only [hd, List.getElem?_toArray, sheet_get W p hi]
  rfl
set_option maxRecDepth 100000 in
theorem count_ok {s : Nat} {W : Int → Int} {p : Int} (w : World) (hd : w.heap[s]? = some (.cells (sheet W p).toArray 193 (0, 0))) :
    Calls Try.prog 149 #[.pointer (some ⟨s, 0, none⟩)] w fun e w' => e = .returned (.int .i64 (cntW W p:Nat)) ∧ w' = w := by
  go_enter Try.func149, Try.ntmps149
  go_wp2
  go_loop [3, 7] (fun n i => ∃ k : Nat, k ≤ 512 ∧ n = .int .i64 (cntK W p k:Nat) ∧ i = .int .i64 k) (fun _ i => 512 - (Go.RowKit.intOf i).toNat)
  case atStart => exact ⟨0, by omega, rfl, rfl⟩
  case round =>
    obtain ⟨k, hk, rfl, rfl⟩ := hrel
    have hle := cntK_le W p k
    have hsc := cntK_succ W p k
    by_cases hk2 : k < 512
    · have hc := sheet_cell hd hk2
      generalize hx : W (p * 4096 + 8 * (k:Int)) = x at hc hsc
      go_wp2
      · go_round
        case rel => exact ⟨k + 1, hk2, by rw [hsc]; simp_all, by simp⟩
        case measure => simp [Go.RowKit.intOf]; omega
      · go_round
        case rel => exact ⟨k + 1, hk2, by rw [hsc]; simp_all, by simp⟩
        case measure => simp [Go.RowKit.intOf]; omega
    · have : k = 512 := by omega
      subst this
      go_wp2
      go_ret
      exact ⟨rfl, rfl⟩
end Go.Sx.M

namespace Go.Sx.M
open Go Go.Sx Go.Proofs Go.RowKit Go.Maps
def ptrV (o : Option Nat) : Value := .pointer (o.map fun s => ⟨s, 0, none⟩)
theorem ptrV_inv (v : Value) (y : DataW Unit × List MemPlace) (h : ptrElem v = some y) : ∃ o, v = ptrV o := by
  rcases ptrElem_inv h with ⟨rfl, _⟩ | ⟨b, rfl, _⟩
  · exact ⟨none, rfl⟩
  · exact ⟨some b, rfl⟩
theorem key22_inv (key : Value) (kl : Lit) (h : keyOf Try.prog 22 key = some kl) : ∃ x : Int, key = Value.int .u64 x := by
  obtain ⟨x, rfl, _⟩ := Maps.keyOf_int_inv Try.underlying22 h
  exact ⟨x, rfl⟩
theorem memEntry {w : World} {M : Mem} {b mb : Nat} {D : DataW Unit} {S : Int → Option Nat} (h : MemAt Try.prog 187 193 22 M b w mb D S) {x : Int} {c : Option Nat} {kl : Lit} {y : DataW Unit × List MemPlace}
    (hkey : keyOf Try.prog 22 (Value.int .u64 x) = some kl) (hv : ptrElem (ptrV c) = some y) (hat : ∀ zd, D.atKey kl zd = y.1) :
    kl = .int .u64 x ∧ ∃ s, S x = some s ∧ c = some s ∧ 0 ≤ x ∧ x * 4096 < M.size := by
  obtain ⟨x', ex, rfl, _⟩ := Maps.keyOf_int_inv Try.underlying22 hkey
  cases ex
  refine ⟨rfl, ?_⟩
  cases hs : S x with
  | none =>
    have hh := h.no x hs
    have h1 := hat .nil
    have h2 := hat (.lit (.bool true))
    rw [Maps.atKey_of_not_has hh] at h1 h2
    rw [← h1] at h2
    cases h2
  | some s =>
    obtain ⟨_, ha⟩ := h.yes x s hs
    have h1 := hat .nil
    rw [ha] at h1
    rcases ptrElem_inv hv with ⟨e1, rfl⟩ | ⟨b', e1, rfl⟩
    · cases h1
    · have e2 : s = b' := by
        have h1 : (DataW.lit (.int .i64 (s:Nat)) : DataW Unit) = .lit (.int .i64 (b':Nat)) := h1
        simp only [DataW.lit.injEq, Lit.int.injEq, true_and] at h1
        omega
      subst e2
      obtain ⟨r1, r2⟩ := h.rng x s hs
      refine ⟨s, rfl, ?_, r1, r2⟩
      cases c with
      | none => cases e1
      | some q =>
        have : (⟨q, 0, none⟩ : Addr) = ⟨s, 0, none⟩ := by simpa [ptrV] using e1
        cases this; rfl
def wsum (M : Mem) (left : Lit → Bool) : Nat := sumN (fun p => if left (.int .u64 (p:Nat)) = true then 0 else cntW M.W (p:Nat)) (pagN M)
theorem wsum0 {w : World} {M : Mem} {b mb : Nat} {D : DataW Unit} {S : Int → Option Nat} (h : MemAt Try.prog 187 193 22 M b w mb D S) : wsum M (Maps.has D) = 0 := by
  refine sumN_zero fun p _ => ?_
  show (if Maps.has D (.int .u64 (p:Nat)) = true then 0 else cntW M.W (p:Nat)) = 0
  cases hs : S (p:Nat) with
  | some s => rw [if_pos (h.yes _ s hs).1]
  | none =>
    rw [h.no _ hs, if_neg (by simp)]
    exact cntW_zero fun a ha => h.word (by rw [ha]; exact hs)
theorem wsum_step {M : Mem} {left : Lit → Bool} {x : Int} (hl : left (.int .u64 x) = true) (h0 : 0 ≤ x) (h1 : x * 4096 < M.size) (hz : M.size % 4096 = 0) : wsum M (fun z => left z && !z.sameKey (.int .u64 x)) = wsum M left + cntW M.W x := by
  obtain ⟨n, rfl⟩ : ∃ n : Nat, x = n := ⟨x.toNat, by omega⟩
  refine sumN_add (x := n) (by unfold pagN; omega) (fun i _ hi => ?_) ?_
  · have : (Lit.int .u64 (i:Nat)).sameKey (.int .u64 (n:Nat)) = false := by
      simp [Lit.sameKey]
      omega
    show (if (left (.int .u64 (i:Nat)) && !(Lit.int .u64 (i:Nat)).sameKey (.int .u64 (n:Nat))) = true then 0 else cntW M.W (i:Nat)) = _
    rw [this]
    simp
  · have : (Lit.int .u64 (n:Nat)).sameKey (.int .u64 (n:Nat)) = true := by simp [Lit.sameKey]
    show (if (left (.int .u64 (n:Nat)) && !(Lit.int .u64 (n:Nat)).sameKey (.int .u64 (n:Nat))) = true then 0 else cntW M.W (n:Nat)) = (if left (.int .u64 (n:Nat)) = true then 0 else cntW M.W (n:Nat)) + cntW M.W (n:Nat)
    rw [this, hl]
    simp
theorem wsum_end {M : Mem} {left : Lit → Bool} (hl : ∀ kl, left kl = false) : wsum M left = wcn M := sumN_eq fun p _ => by
  show (if left (.int .u64 (p:Nat)) = true then 0 else cntW M.W (p:Nat)) = cntW M.W (p:Nat)
  rw [hl, if_neg (by simp)]
theorem wsum_le (M : Mem) (hM : MemOk M) (left : Lit → Bool) : wsum M left ≤ 536870912 := by
  have h1 := sumN_le (c := 512) (n := pagN M) (f := fun p => if left (.int .u64 (p:Nat)) = true then 0 else cntW M.W (p:Nat)) fun i _ => by
    show (if left (.int .u64 (i:Nat)) = true then 0 else cntW M.W (i:Nat)) ≤ 512
    have := cntW_le M.W (i:Nat)
    split <;> omega
  have h2 : pagN M ≤ 1048576 := by have := hM.hi; unfold pagN; omega
  unfold wsum
  omega
set_option maxRecDepth 100000 in
theorem words_ok {M : Mem} {b mb : Nat} {D : DataW Unit} {S : Int → Option Nat} (w : World) (h : MemAt Try.prog 187 193 22 M b w mb D S) :
    Calls Try.prog 76 #[.pointer (some ⟨b, 0, none⟩)] w fun e w' => e = .returned (.int .i64 (wcn M:Nat)) ∧ Turns (fun _ => False) w w' := by
  have c1 : w.cell? ⟨b, 1, none⟩ = some (.map (some mb)) := by simp [World.cell?, h.cells]
  have hown := h.map
  generalize hnn : Maps.size D = nn at hown
  go_enter Try.func76, Try.ntmps76
  go_wp2_with (first
    | (at_range; refine wpList_range_own _ rfl _ 185 rfl 22 190 law22 Try.underlying185 ptrElem mb nn D rfl hown ?_; intro w0 hrg0 hg0 hs0)
    | go_in)
  go_frame
  have ht0 := Turns.range hrg0 hg0 hs0
  go_loopw [3] (fun n wr => ∃ (left : Lit → Bool) (cnt:Nat), wr.ranges Try.prog 22 ptrElem mb w.heap.size nn D left cnt ∧ n = .int .i64 (wsum M left:Nat) ∧ Turns (fun _ => False) w wr) (fun _ wr => wr.rangeLeft mb w.heap.size)
  case atStart => exact ⟨_, _, hrg0, by rw [wsum0 h]; rfl, ht0⟩
  case round =>
    obtain ⟨left, cnt, hrg, rfl, ht⟩ := hrel
    go_wp2_with (first
      | (at_next; refine wpList_next_ranges _ rfl _ rfl 22 law22 ptrElem (Value.int .u64) ptrV key22_inv ptrV_inv mb w.heap.size nn D left cnt rfl hrg ?_ ?_)
      | go_in)
    · intro hc0 hl0
      go_wp2
      go_ret
      exact ⟨by rw [wsum_end hl0]; rfl, ht⟩
    · intro x c kl yd yp w2 cnt2 hkey hlk hv hat hrg2 hlt hg2 hs2 hen
      obtain ⟨rfl, s, hs, rfl, x0, x1⟩ := memEntry h hkey hv hat
      have ht2 : Turns (fun _ => False) w w2 := by
        have := (ht.mono (G := fun i => i = w.heap.size) (fun _ _ h => h.elim)).trans (Turns.step hrg hrg2 hg2 hs2)
        exact this.mono fun i hi e => by omega
      have hslt : s < w.heap.size := (Array.getElem?_eq_some_iff.1 (h.data x s hs)).1
      have hd2 : w2.heap[s]? = some (.cells (sheet M.W x).toArray 193 (0, 0)) := (ht2.rest s hslt id).trans (h.data x s hs)
      have hcnt := count_ok w2 hd2
      have hstep := wsum_step hlk x0 x1 h.ok.al
      have hle := wsum_le M h.ok (fun z => left z && !z.sameKey (.int .u64 x))
      simp only [ptrV, Option.map] at hen
      clear hs2
      generalize hcc : cntW M.W x = cc at hcnt hstep
      go_wp2_with (first | (go_at_call 149; refine hcnt.mono ?_; rintro e w3 ⟨rfl, rfl⟩) | go_in)
      go_roundw
      case rel => exact ⟨_, cnt2, hrg2, by rw [hstep]; rw [hstep] at hle; simp, ht2⟩
      case measure => rw [hrg2.left_eq, hrg.left_eq]; exact hlt
end Go.Sx.M

namespace Go.Sx.M
open Go Go.Sx Go.Proofs Go.RowKit Go.Maps
/-! ### Words -/
structure V76 where
  M : th.R
def A76 (v : V76) : List SV := [.ptr 0 0]
def H76 (v : V76) : List (HO th.R) := [.res v.M]
def toV76 (v : V76) : List (Vl th.R) := [.r v.M]
def ofV76 : List (Vl th.R) → Option V76
  | [.r M] => some ⟨M⟩
  | _ => none
def d76 : Ft := ⟨[.ptr 0 0], [.res]⟩
noncomputable def f76 (v : V76) : Tr (Fin th.R) := .leaf (.int .i64 ((wcn v.M:Nat):Int), [.res v.M], [])
theorem s76 : Sound Try.prog th 76 (fnC d76 ofV76 f76) := by
  refine fnC_direct (T := th) d76 A76 H76 toV76 (by kernel_rfl) (fun v => by kernel_rfl) ?_ ?_ (fun v _ => Nat.le_refl _) (fun v _ n hn _ => rfl)
  · intro l v h
    unfold ofV76 at h
    split at h
    · cases h; rfl
    · cases h
  · intro v hok K w0 ρ w vargs I hr
    obtain ⟨x, xs, rfl, ⟨l, hl, rfl⟩, hxs⟩ := hr
    have hxs : xs = [] := hxs
    subst hxs
    obtain ⟨mb, D, S, h0, h, c0, c1⟩ := open_mem I hl
    rw [show l.off + 0 = 0 by omega]
    refine (words_ok w h).mono ?_
    rintro e w' ⟨rfl, ht⟩
    exact ⟨ρ, _, rfl, Pre.refl _, I.grow ht, rfl⟩
end Go.Sx.M

namespace Go.Sx.M
open Go Go.Sx Go.Proofs Go.RowKit
noncomputable def nice14c : List (Nat × CF th.R) := (76, lift (fnC d76 ofV76 f76)) :: nice12c
theorem nok14c : NiceOk Try.prog th nice14c := ⟨lift_sound s76, nok12c⟩
set_option maxRecDepth 100000
structure V14 where
  L : Nat
  x : Int
  y : Int
  Q : Nat
  ob_ : Obj
  ok : Nat → Int
  oa : Nat → Int
  ob : Nat → Int
  kc : Nat → Int
  ac : Nat → Int
  bc : Nat → Int
  rc : Nat → Int
  gc : Nat → Int
  sc : Nat → Int
  mc : Nat → Int
def A14 (v : V14) : List SV := [.slc 0 10 0 v.L, .int .u64 v.x, .int .u64 v.y]
def H14 (v : V14) : List (HO th.R) := [.ro 85 10 v.Q (rw10 v.ok v.oa v.ob v.kc v.ac v.bc v.rc v.gc v.sc v.mc) v.ob_]
def toV14 (v : V14) : List (Vl th.R) := [.n v.L, .i v.x, .i v.y, .n v.Q, .o v.ob_, .c v.ok, .c v.oa, .c v.ob, .c v.kc, .c v.ac, .c v.bc, .c v.rc, .c v.gc, .c v.sc, .c v.mc]
def ofV14 : List (Vl th.R) → Option V14
  | [.n L, .i x, .i y, .n Q, .o ob_, .c ok, .c oa, .c ob, .c kc, .c ac, .c bc, .c rc, .c gc, .c sc, .c mc] => some ⟨L, x, y, Q, ob_, ok, oa, ob, kc, ac, bc, rc, gc, sc, mc⟩
  | _ => none
def d14 : Ft := ⟨[.slc0 0 10, .int .u64, .int .u64], [.roc 85 [.int .i64, .int .u64, .int .u64, .int .i64, .int .u64, .int .i64, .int .i64, .int .i64, .int .i64, .int .u64]]⟩
structure P14_0 where
  n0 : Nat
  x1 : Int
  x2 : Int
  b6 : Bool
  n43 : Nat
  x44 : Int
  N0 : Nat
  O0 : Obj
  F0_0 : Nat → Int
  F0_1 : Nat → Int
  F0_2 : Nat → Int
  F0_3 : Nat → Int
  F0_4 : Nat → Int
  F0_5 : Nat → Int
  F0_6 : Nat → Int
  F0_7 : Nat → Int
  F0_8 : Nat → Int
  F0_9 : Nat → Int
  xh3_0 : Int
structure S14_0 where
  x45 : Int
  xh1_1 : Int
  xh1_2 : Int
  R2 : th.R
noncomputable instance : Inhabited S14_0 := ⟨⟨0, 0, 0, dR⟩⟩
def I14_0 (p : P14_0) (s : S14_0) : St th.R := ⟨[some (.slc 0 10 0 p.n0), some (.int .u64 p.x1), some (.int .u64 p.x2), none, none, none, some (.bool p.b6), some (.ptr 1 0), some (.ptr 2 0), none, none, none, none, none, none, none, none, none, none, none, none, none, none, none, none, none, none, none, none, none, none, none, none, none, none, none, none, none, none, none, none, none, none, some (.slc 0 10 0 p.n43), some (.int .i64 p.x44), some (.int .i64 s.x45), none, none, none, none, none, none, none, none, none, none, none, none, none, none, none, none, none, none, none, none, none, none, none, none, none, none, none, none, none, none, none, none, none, none, none, none, none, none, none, none, none, none, none, none, none, none, none, none, none, none, none, none, none, none, none, none, none, none, none, none, none, none, none], [.ro 85 10 p.N0 (rw10 p.F0_0 p.F0_1 p.F0_2 p.F0_3 p.F0_4 p.F0_5 p.F0_6 p.F0_7 p.F0_8 p.F0_9) p.O0, .cells 175 [.ptr 2 0, .int .u64 s.xh1_1, .int .i64 s.xh1_2], .res s.R2, .cells 55 [.int .u64 p.xh3_0, .nils]], [], []⟩
def d14_0 : Lp := ⟨⟨109, [(0, .slc0 0 10), (1, .int .u64), (2, .int .u64), (6, .bool), (7, .ptr 1 0), (8, .ptr 2 0), (43, .slc0 0 10), (44, .int .i64), (45, .int .i64)], [.roc 85 [.int .i64, .int .u64, .int .u64, .int .i64, .int .u64, .int .i64, .int .i64, .int .i64, .int .i64, .int .u64], .cells 175 [.ptr 2 0, .int .u64, .int .i64], .res, .cells 55 [.int .u64, .nils]]⟩, [], 4, [1, 2], [0, 1, 2, 6, 7, 8, 76, 77, 78, 93, 94, 95, 96, 97, 98, 105, 106, 107], []⟩
def toV14_0 (p : P14_0) (s : S14_0) : List (Vl th.R) := [.n p.n0, .i p.x1, .i p.x2, .b p.b6, .n p.n43, .i p.x44, .i s.x45, .n p.N0, .o p.O0, .c p.F0_0, .c p.F0_1, .c p.F0_2, .c p.F0_3, .c p.F0_4, .c p.F0_5, .c p.F0_6, .c p.F0_7, .c p.F0_8, .c p.F0_9, .i s.xh1_1, .i s.xh1_2, .r s.R2, .i p.xh3_0]
def ofV14_0 : List (Vl th.R) → Option (P14_0 × S14_0)
  | [.n n0, .i x1, .i x2, .b b6, .n n43, .i x44, .i x45, .n N0, .o O0, .c F0_0, .c F0_1, .c F0_2, .c F0_3, .c F0_4, .c F0_5, .c F0_6, .c F0_7, .c F0_8, .c F0_9, .i xh1_1, .i xh1_2, .r R2, .i xh3_0] => some (⟨n0, x1, x2, b6, n43, x44, N0, O0, F0_0, F0_1, F0_2, F0_3, F0_4, F0_5, F0_6, F0_7, F0_8, F0_9, xh3_0⟩, ⟨x45, xh1_1, xh1_2, R2⟩)
  | _ => none
noncomputable def e14_0_13 (p : P14_0) (s : S14_0) : (Nat) := (0:Nat) + s.x45.toNat
noncomputable def e14_0_14 (p : P14_0) (s : S14_0) : (Int) := p.F0_1 (e14_0_13 p s)
noncomputable def e14_0_15 (p : P14_0) (s : S14_0) : (Bool) := (e14_0_14 p s).fdiv (32:Int) == p.x1.fdiv (32:Int)
noncomputable def e14_0_16 (p : P14_0) (s : S14_0) : (Int) := p.F0_2 (e14_0_13 p s)
noncomputable def e14_0_17 (p : P14_0) (s : S14_0) : (Int) := p.F0_0 (e14_0_13 p s)
noncomputable def e14_0_18 (p : P14_0) (s : S14_0) : (Int) := p.F0_3 (e14_0_13 p s)
noncomputable def e14_0_19 (p : P14_0) (s : S14_0) : (Int) := p.F0_4 (e14_0_13 p s)
noncomputable def e14_0_20 (p : P14_0) (s : S14_0) : (Int) := p.F0_5 (e14_0_13 p s)
noncomputable def e14_0_21 (p : P14_0) (s : S14_0) : (Int) := p.F0_6 (e14_0_13 p s)
noncomputable def e14_0_22 (p : P14_0) (s : S14_0) : (Int) := p.F0_7 (e14_0_13 p s)
noncomputable def e14_0_23 (p : P14_0) (s : S14_0) : (Int) := p.F0_8 (e14_0_13 p s)
noncomputable def e14_0_24 (p : P14_0) (s : S14_0) : (Int) := p.F0_9 (e14_0_13 p s)
noncomputable def e14_0_25 (p : P14_0) (s : S14_0) : (TS) := dnT (TS.mk s.R2 s.xh1_1 s.xh1_2) (Op.mk (e14_0_17 p s) (e14_0_14 p s) (e14_0_16 p s) (Sl.mk (e14_0_18 p s) (e14_0_19 p s) (e14_0_20 p s) (e14_0_21 p s) (e14_0_22 p s) (e14_0_23 p s) (e14_0_24 p s) (0:Int) (0:Int) (0:Int)))
noncomputable def e14_0_0 (p : P14_0) (s : S14_0) : (Bool) := cnd (decide (s.x45 < p.x44)) false true
noncomputable def e14_0_1 (p : P14_0) (s : S14_0) : (Prop) := ∀ (i:Nat), scpL (0:Nat) ((rw10 p.F0_0 p.F0_1 p.F0_2 p.F0_3 p.F0_4 p.F0_5 p.F0_6 p.F0_7 p.F0_8 p.F0_9) i) = true
noncomputable def e14_0_2 (p : P14_0) (s : S14_0) : (Prop) := (0:Int) ≤ s.x45 ∧ s.x45 < (↑p.n43:Int)
noncomputable def e14_0_3 (p : P14_0) (s : S14_0) : (Prop) := e14_0_13 p s < p.N0
noncomputable def e14_0_4 (p : P14_0) (s : S14_0) : (Prop) := (0:Int) ≤ (5:Int)
noncomputable def e14_0_5 (p : P14_0) (s : S14_0) : (Prop) := cnd (!e14_0_15 p s) true false = true → (0:Int) ≤ (5:Int)
noncomputable def e14_0_6 (p : P14_0) (s : S14_0) : (Bool) := cnd (e14_0_15 p s) true ((e14_0_16 p s).fdiv (32:Int) == p.x1.fdiv (32:Int))
noncomputable def e14_0_7 (p : P14_0) (s : S14_0) : (Prop) := pre54 (V54.mk (e14_0_17 p s) (e14_0_14 p s) (e14_0_16 p s) (e14_0_18 p s) (e14_0_19 p s) (e14_0_20 p s) (e14_0_21 p s) (e14_0_22 p s) (e14_0_23 p s) (e14_0_24 p s) s.xh1_1 s.xh1_2 s.R2)
noncomputable def e14_0_8 (p : P14_0) (s : S14_0) : (Prop) := (∀ (i:Nat), scpL (0:Nat) ((rw10 p.F0_0 p.F0_1 p.F0_2 p.F0_3 p.F0_4 p.F0_5 p.F0_6 p.F0_7 p.F0_8 p.F0_9) i) = true) ∧ ∀ (i:Nat), i < p.N0 → (rw10 p.F0_0 p.F0_1 p.F0_2 p.F0_3 p.F0_4 p.F0_5 p.F0_6 p.F0_7 p.F0_8 p.F0_9) i = elC (rw10 p.F0_0 p.F0_1 p.F0_2 p.F0_3 p.F0_4 p.F0_5 p.F0_6 p.F0_7 p.F0_8 p.F0_9) (0:Nat) [Ck.int IntKind.i64, Ck.int IntKind.u64, Ck.int IntKind.u64, Ck.int IntKind.i64, Ck.int IntKind.u64, Ck.int IntKind.i64, Ck.int IntKind.i64, Ck.int IntKind.i64, Ck.int IntKind.i64, Ck.int IntKind.u64] i
noncomputable def e14_0_9 (p : P14_0) (s : S14_0) : (Int) := IntKind.i64.wrap (s.x45 + (1:Int))
noncomputable def e14_0_10 (p : P14_0) (s : S14_0) : (Int) := (e14_0_25 p s).f
noncomputable def e14_0_11 (p : P14_0) (s : S14_0) : (Int) := (e14_0_25 p s).c
noncomputable def e14_0_12 (p : P14_0) (s : S14_0) : (Mem) := (e14_0_25 p s).M
theorem n_e14_0_1 (p : P14_0) (s : S14_0) : e14_0_1 p s := by
  unfold e14_0_1
  (repeat' first | intro _ | apply And.intro) <;> first | rfl | exact absurd (by assumption) (Nat.not_lt_zero _) | exact scpL_rowSet (by rfl) (by rfl) | exact scpL_rowEl (by kernel_rfl) _ | omega | decide
theorem n_e14_0_4 (p : P14_0) (s : S14_0) : e14_0_4 p s := by
  unfold e14_0_4
  (repeat' first | intro _ | apply And.intro) <;> first | rfl | exact absurd (by assumption) (Nat.not_lt_zero _) | exact scpL_rowSet (by rfl) (by rfl) | exact scpL_rowEl (by kernel_rfl) _ | omega | decide
theorem n_e14_0_5 (p : P14_0) (s : S14_0) : e14_0_5 p s := by
  unfold e14_0_5
  (repeat' first | intro _ | apply And.intro) <;> first | rfl | exact absurd (by assumption) (Nat.not_lt_zero _) | exact scpL_rowSet (by rfl) (by rfl) | exact scpL_rowEl (by kernel_rfl) _ | omega | decide
theorem n_e14_0_8 (p : P14_0) (s : S14_0) : e14_0_8 p s := by
  unfold e14_0_8
  (repeat' first | intro _ | apply And.intro) <;> first | rfl | exact absurd (by assumption) (Nat.not_lt_zero _) | exact scpL_rowSet (by rfl) (by rfl) | exact scpL_rowEl (by kernel_rfl) _ | omega | decide
noncomputable def rf14_0 (p : P14_0) (s : S14_0) : Tr (Rs th.R S14_0) := (Tr.ite (e14_0_0 p s) (Tr.need (e14_0_1 p s) (Tr.leaf (Rs.out (Ex.exit (0:Nat)) [(some (SV.slc (0:Nat) (10:Nat) (0:Nat) (p.n0))), some (SV.int .u64 (p.x1)), some (SV.int .u64 (p.x2)), none, none, none, some (SV.bool (p.b6)), (some (SV.ptr (1:Nat) (0:Nat))), (some (SV.ptr (2:Nat) (0:Nat))), none, none, none, none, none, none, none, none, none, none, none, none, none, none, none, none, none, none, none, none, none, none, none, none, none, none, none, none, none, none, none, none, none, none, none, none, none, none, none, none, none, none, none, none, none, none, none, none, none, none, none, none, none, none, none, none, none, none, none, none, none, none, none, none, none, none, none, none, none, none, none, none, none, none, none, none, none, none, none, none, none, none, none, none, none, none, none, none, none, none, none, none, none, none, none, none, none, none, none, none] [(HO.ro (85:Nat) (10:Nat) (p.N0) (rw10 p.F0_0 p.F0_1 p.F0_2 p.F0_3 p.F0_4 p.F0_5 p.F0_6 p.F0_7 p.F0_8 p.F0_9) (p.O0)), (HO.cells (175:Nat) [(SV.ptr (2:Nat) (0:Nat)), SV.int .u64 (s.xh1_1), SV.int .i64 (s.xh1_2)]), HO.res (s.R2), (HO.cells (55:Nat) [SV.int .u64 (p.xh3_0), SV.nils])]))) (Tr.need (e14_0_2 p s) (Tr.need (e14_0_3 p s) (Tr.need (e14_0_4 p s) (Tr.need (e14_0_4 p s) (Tr.need (e14_0_5 p s) (Tr.need (e14_0_5 p s) (Tr.ite (e14_0_6 p s) (Tr.need (e14_0_1 p s) (Tr.leaf (Rs.out (Ex.ret) [(some (SV.slc (0:Nat) (10:Nat) (0:Nat) (p.n0))), some (SV.int .u64 (p.x1)), some (SV.int .u64 (p.x2)), none, none, none, some (SV.bool (true)), (some (SV.ptr (1:Nat) (0:Nat))), (some (SV.ptr (2:Nat) (0:Nat))), none, none, none, none, none, none, none, none, none, none, none, none, none, none, none, none, none, none, none, none, none, none, none, none, none, none, none, none, none, none, none, none, none, none, none, none, none, none, none, none, none, none, none, none, none, none, none, none, none, none, none, none, none, none, none, none, none, none, none, none, none, none, none, none, none, none, none, none, none, none, none, none, none, none, none, none, none, none, none, none, none, none, none, none, none, none, none, none, none, none, none, none, none, none, none, none, none, none, none, none] [(HO.ro (85:Nat) (10:Nat) (p.N0) (rw10 p.F0_0 p.F0_1 p.F0_2 p.F0_3 p.F0_4 p.F0_5 p.F0_6 p.F0_7 p.F0_8 p.F0_9) (p.O0)), (HO.cells (175:Nat) [(SV.ptr (2:Nat) (0:Nat)), SV.int .u64 (s.xh1_1), SV.int .i64 (s.xh1_2)]), HO.res (s.R2), (HO.cells (55:Nat) [SV.int .u64 (p.xh3_0), SV.nils])]))) (Tr.need (e14_0_7 p s) (Tr.need (e14_0_8 p s) (Tr.leaf (Rs.on (S14_0.mk ((e14_0_9 p s)) ((e14_0_10 p s)) ((e14_0_11 p s)) ((e14_0_12 p s)))))))))))))))
noncomputable def r14_0 (p : P14_0) (s : S14_0) : Tr (Rs th.R S14_0) := (Tr.ite (e14_0_0 p s) (Tr.leaf (Rs.out (Ex.exit (0:Nat)) [(some (SV.slc (0:Nat) (10:Nat) (0:Nat) (p.n0))), some (SV.int .u64 (p.x1)), some (SV.int .u64 (p.x2)), none, none, none, some (SV.bool (p.b6)), (some (SV.ptr (1:Nat) (0:Nat))), (some (SV.ptr (2:Nat) (0:Nat))), none, none, none, none, none, none, none, none, none, none, none, none, none, none, none, none, none, none, none, none, none, none, none, none, none, none, none, none, none, none, none, none, none, none, none, none, none, none, none, none, none, none, none, none, none, none, none, none, none, none, none, none, none, none, none, none, none, none, none, none, none, none, none, none, none, none, none, none, none, none, none, none, none, none, none, none, none, none, none, none, none, none, none, none, none, none, none, none, none, none, none, none, none, none, none, none, none, none, none, none] [(HO.ro (85:Nat) (10:Nat) (p.N0) (rw10 p.F0_0 p.F0_1 p.F0_2 p.F0_3 p.F0_4 p.F0_5 p.F0_6 p.F0_7 p.F0_8 p.F0_9) (p.O0)), (HO.cells (175:Nat) [(SV.ptr (2:Nat) (0:Nat)), SV.int .u64 (s.xh1_1), SV.int .i64 (s.xh1_2)]), HO.res (s.R2), (HO.cells (55:Nat) [SV.int .u64 (p.xh3_0), SV.nils])])) (Tr.need (e14_0_2 p s) (Tr.need (e14_0_3 p s) (Tr.ite (e14_0_6 p s) (Tr.leaf (Rs.out (Ex.ret) [(some (SV.slc (0:Nat) (10:Nat) (0:Nat) (p.n0))), some (SV.int .u64 (p.x1)), some (SV.int .u64 (p.x2)), none, none, none, some (SV.bool (true)), (some (SV.ptr (1:Nat) (0:Nat))), (some (SV.ptr (2:Nat) (0:Nat))), none, none, none, none, none, none, none, none, none, none, none, none, none, none, none, none, none, none, none, none, none, none, none, none, none, none, none, none, none, none, none, none, none, none, none, none, none, none, none, none, none, none, none, none, none, none, none, none, none, none, none, none, none, none, none, none, none, none, none, none, none, none, none, none, none, none, none, none, none, none, none, none, none, none, none, none, none, none, none, none, none, none, none, none, none, none, none, none, none, none, none, none, none, none, none, none, none, none, none, none] [(HO.ro (85:Nat) (10:Nat) (p.N0) (rw10 p.F0_0 p.F0_1 p.F0_2 p.F0_3 p.F0_4 p.F0_5 p.F0_6 p.F0_7 p.F0_8 p.F0_9) (p.O0)), (HO.cells (175:Nat) [(SV.ptr (2:Nat) (0:Nat)), SV.int .u64 (s.xh1_1), SV.int .i64 (s.xh1_2)]), HO.res (s.R2), (HO.cells (55:Nat) [SV.int .u64 (p.xh3_0), SV.nils])])) (Tr.need (e14_0_7 p s) (Tr.leaf (Rs.on (S14_0.mk ((e14_0_9 p s)) ((e14_0_10 p s)) ((e14_0_11 p s)) ((e14_0_12 p s))))))))))
noncomputable def E14_0 : St th.R → Out th := evCode th Try.prog (auto th Try.prog nice14c [] 20) (autoH [] [] [] [] : Hints th) (lpAt Try.prog 14 0)
theorem B14_0 : CodeSound th Try.prog (lpAt Try.prog 14 0) E14_0 := evCode_sound (T := th) (P := Try.prog) (tbl := (auto th Try.prog nice14c [] 20)) (auto_sound (nice := nice14c) (us := []) nok14c 20) (autoH [] [] [] [] : Hints th) _ (LoopsOk_mem (fun _ => rfl) _ fun b hb L hL => by cases hL)
noncomputable def L14_0 : St th.R → Out th := loopL d14_0 ofV14_0 r14_0
theorem h1_14_0 (p : P14_0) (s : S14_0) : bld d14_0.tm (toV14_0 p s) = some (I14_0 p s) := by kernel_rfl
theorem h2_14_0 (l : List (Vl th.R)) (p : P14_0) (s : S14_0) (h : ofV14_0 l = some (p, s)) : l = toV14_0 p s := by
  unfold ofV14_0 at h
  split at h
  · cases h; rfl
  · cases h
theorem h3_14_0 (p : P14_0) (s : S14_0) : cvE d14_0 (E14_0 (I14_0 p s)) = some ((rf14_0 p s).map (Rs.map (toV14_0 p))) := by kernel_rfl
theorem h3g_14_0 (p : P14_0) (s : S14_0) : (rf14_0 p s).get = (r14_0 p s).get := by kernel_rfl
theorem h4_14_0 (p : P14_0) (s s1 : S14_0) : outH d14_0.dirt d14_0.n0 (r14_0 p s) = repH (maskH d14_0.dirt 0 d14_0.n0 (I14_0 p s1).heap) (r14_0 p s) := by kernel_rfl
theorem ls14_0 : CodeSound th Try.prog (.loop (lpAt Try.prog 14 0)) L14_0 := loopL_sound B14_0 d14_0 I14_0 toV14_0 (by kernel_rfl) h1_14_0 h2_14_0
  (fun p s => ⟨(rf14_0 p s).map (Rs.map (toV14_0 p)), h3_14_0 p s, fun h => by
    rw [Tr.map_ok]
    unfold r14_0 at h; unfold rf14_0
    simp only [Tr.ok, n_e14_0_1, n_e14_0_4, n_e14_0_5, n_e14_0_8, true_and, and_true, forall_const, implies_true] at h ⊢
    try exact h, by rw [Tr.map_get, h3g_14_0 p s]⟩) h4_14_0
structure P14_1 where
  b6 : Bool
  x84 : Int
  N0 : Nat
  O0 : Obj
  F0_0 : Nat → Int
  F0_1 : Nat → Int
  F0_2 : Nat → Int
  F0_3 : Nat → Int
  F0_4 : Nat → Int
  F0_5 : Nat → Int
  F0_6 : Nat → Int
  F0_7 : Nat → Int
  F0_8 : Nat → Int
  F0_9 : Nat → Int
  xh3_0 : Int
structure S14_1 where
  x85 : Int
  xh1_1 : Int
  xh1_2 : Int
  R2 : th.R
noncomputable instance : Inhabited S14_1 := ⟨⟨0, 0, 0, dR⟩⟩
def I14_1 (p : P14_1) (s : S14_1) : St th.R := ⟨[none, none, none, none, none, none, some (.bool p.b6), some (.ptr 1 0), some (.ptr 2 0), none, none, none, none, none, none, none, none, none, none, none, none, none, none, none, none, none, none, none, none, none, none, none, none, none, none, none, none, none, none, none, none, none, none, none, none, none, none, none, none, none, none, none, none, none, none, none, none, none, none, none, none, none, none, none, none, none, none, none, none, none, none, none, none, none, none, none, none, none, none, none, none, none, none, none, some (.int .i64 p.x84), some (.int .i64 s.x85), none, none, none, none, none, none, none, none, none, none, none, none, none, none, none, none, none, none, none, none, none, none, none], [.ro 85 10 p.N0 (rw10 p.F0_0 p.F0_1 p.F0_2 p.F0_3 p.F0_4 p.F0_5 p.F0_6 p.F0_7 p.F0_8 p.F0_9) p.O0, .cells 175 [.ptr 2 0, .int .u64 s.xh1_1, .int .i64 s.xh1_2], .res s.R2, .cells 55 [.int .u64 p.xh3_0, .nils]], [], []⟩
def d14_1 : Lp := ⟨⟨109, [(6, .bool), (7, .ptr 1 0), (8, .ptr 2 0), (84, .int .i64), (85, .int .i64)], [.roc 85 [.int .i64, .int .u64, .int .u64, .int .i64, .int .u64, .int .i64, .int .i64, .int .i64, .int .i64, .int .u64], .cells 175 [.ptr 2 0, .int .u64, .int .i64], .res, .cells 55 [.int .u64, .nils]]⟩, [], 4, [1, 2], [6, 7, 8, 105, 106, 107], []⟩
def toV14_1 (p : P14_1) (s : S14_1) : List (Vl th.R) := [.b p.b6, .i p.x84, .i s.x85, .n p.N0, .o p.O0, .c p.F0_0, .c p.F0_1, .c p.F0_2, .c p.F0_3, .c p.F0_4, .c p.F0_5, .c p.F0_6, .c p.F0_7, .c p.F0_8, .c p.F0_9, .i s.xh1_1, .i s.xh1_2, .r s.R2, .i p.xh3_0]
def ofV14_1 : List (Vl th.R) → Option (P14_1 × S14_1)
  | [.b b6, .i x84, .i x85, .n N0, .o O0, .c F0_0, .c F0_1, .c F0_2, .c F0_3, .c F0_4, .c F0_5, .c F0_6, .c F0_7, .c F0_8, .c F0_9, .i xh1_1, .i xh1_2, .r R2, .i xh3_0] => some (⟨b6, x84, N0, O0, F0_0, F0_1, F0_2, F0_3, F0_4, F0_5, F0_6, F0_7, F0_8, F0_9, xh3_0⟩, ⟨x85, xh1_1, xh1_2, R2⟩)
  | _ => none
noncomputable def e14_1_13 (p : P14_1) (s : S14_1) : (Int) := (↑(chF s.R2 s.xh1_2.toNat s.xh1_1).length:Int)
noncomputable def e14_1_14 (p : P14_1) (s : S14_1) : (Bool) := cnd (decide (e14_1_13 p s > (0:Int))) true false
noncomputable def e14_1_15 (p : P14_1) (s : S14_1) : (Int) := (chF s.R2 s.xh1_2.toNat s.xh1_1).getD (0:Nat) (0:Int)
noncomputable def e14_1_16 (p : P14_1) (s : S14_1) : (TS) := rmT (TS.mk s.R2 s.xh1_1 s.xh1_2) (e14_1_15 p s)
noncomputable def e14_1_0 (p : P14_1) (s : S14_1) : (Bool) := cnd (decide (s.x85 < p.x84)) false true
noncomputable def e14_1_1 (p : P14_1) (s : S14_1) : (Prop) := ∀ (i:Nat), scpL (0:Nat) ((rw10 p.F0_0 p.F0_1 p.F0_2 p.F0_3 p.F0_4 p.F0_5 p.F0_6 p.F0_7 p.F0_8 p.F0_9) i) = true
noncomputable def e14_1_2 (p : P14_1) (s : S14_1) : (Prop) := pre75 (V75.mk s.xh1_1 s.xh1_2 s.R2)
noncomputable def e14_1_3 (p : P14_1) (s : S14_1) : (Prop) := ∀ (i:Nat), scpL (0:Nat) ((fun (j:Nat) => [SV.int IntKind.u64 ((chF s.R2 s.xh1_2.toNat s.xh1_1).getD j (0:Int))]) i) = true
noncomputable def e14_1_4 (p : P14_1) (s : S14_1) : (Prop) := e14_1_14 p s = true → (0:Int) ≤ (0:Int) ∧ (0:Int) < e14_1_13 p s
noncomputable def e14_1_5 (p : P14_1) (s : S14_1) : (Prop) := e14_1_14 p s = true → (0:Nat) < (chF s.R2 s.xh1_2.toNat s.xh1_1).length
noncomputable def e14_1_6 (p : P14_1) (s : S14_1) : (Prop) := e14_1_14 p s = true → pre63 (V63.mk (e14_1_15 p s) s.xh1_1 s.xh1_2 s.R2)
noncomputable def e14_1_7 (p : P14_1) (s : S14_1) : (Bool) := cnd (decide (e14_1_13 p s > (0:Int))) (rmE (TS.mk s.R2 s.xh1_1 s.xh1_2) (e14_1_15 p s) != (0:Int)) false
noncomputable def e14_1_8 (p : P14_1) (s : S14_1) : (Int) := cnd (e14_1_14 p s) (e14_1_16 p s).f s.xh1_1
noncomputable def e14_1_9 (p : P14_1) (s : S14_1) : (Int) := cnd (e14_1_14 p s) (e14_1_16 p s).c s.xh1_2
noncomputable def e14_1_10 (p : P14_1) (s : S14_1) : (Mem) := mrgM (e14_1_14 p s) (e14_1_16 p s).M s.R2
noncomputable def e14_1_11 (p : P14_1) (s : S14_1) : (Prop) := (∀ (i:Nat), scpL (0:Nat) ((rw10 p.F0_0 p.F0_1 p.F0_2 p.F0_3 p.F0_4 p.F0_5 p.F0_6 p.F0_7 p.F0_8 p.F0_9) i) = true) ∧ ∀ (i:Nat), i < p.N0 → (rw10 p.F0_0 p.F0_1 p.F0_2 p.F0_3 p.F0_4 p.F0_5 p.F0_6 p.F0_7 p.F0_8 p.F0_9) i = elC (rw10 p.F0_0 p.F0_1 p.F0_2 p.F0_3 p.F0_4 p.F0_5 p.F0_6 p.F0_7 p.F0_8 p.F0_9) (0:Nat) [Ck.int IntKind.i64, Ck.int IntKind.u64, Ck.int IntKind.u64, Ck.int IntKind.i64, Ck.int IntKind.u64, Ck.int IntKind.i64, Ck.int IntKind.i64, Ck.int IntKind.i64, Ck.int IntKind.i64, Ck.int IntKind.u64] i
noncomputable def e14_1_12 (p : P14_1) (s : S14_1) : (Int) := IntKind.i64.wrap (s.x85 + (1:Int))
theorem n_e14_1_1 (p : P14_1) (s : S14_1) : e14_1_1 p s := by
  unfold e14_1_1
  (repeat' first | intro _ | apply And.intro) <;> first | rfl | exact absurd (by assumption) (Nat.not_lt_zero _) | exact scpL_rowSet (by rfl) (by rfl) | exact scpL_rowEl (by kernel_rfl) _ | omega | decide
theorem n_e14_1_3 (p : P14_1) (s : S14_1) : e14_1_3 p s := by
  unfold e14_1_3
  (repeat' first | intro _ | apply And.intro) <;> first | rfl | exact absurd (by assumption) (Nat.not_lt_zero _) | exact scpL_rowSet (by rfl) (by rfl) | exact scpL_rowEl (by kernel_rfl) _ | omega | decide
theorem n_e14_1_11 (p : P14_1) (s : S14_1) : e14_1_11 p s := by
  unfold e14_1_11
  (repeat' first | intro _ | apply And.intro) <;> first | rfl | exact absurd (by assumption) (Nat.not_lt_zero _) | exact scpL_rowSet (by rfl) (by rfl) | exact scpL_rowEl (by kernel_rfl) _ | omega | decide
noncomputable def rf14_1 (p : P14_1) (s : S14_1) : Tr (Rs th.R S14_1) := (Tr.ite (e14_1_0 p s) (Tr.need (e14_1_1 p s) (Tr.leaf (Rs.out (Ex.exit (2:Nat)) [none, none, none, none, none, none, some (SV.bool (p.b6)), (some (SV.ptr (1:Nat) (0:Nat))), (some (SV.ptr (2:Nat) (0:Nat))), none, none, none, none, none, none, none, none, none, none, none, none, none, none, none, none, none, none, none, none, none, none, none, none, none, none, none, none, none, none, none, none, none, none, none, none, none, none, none, none, none, none, none, none, none, none, none, none, none, none, none, none, none, none, none, none, none, none, none, none, none, none, none, none, none, none, none, none, none, none, none, none, none, none, none, none, none, none, none, none, none, none, none, none, none, none, none, none, none, none, none, none, none, none, none, none, none, none, none, none] [(HO.ro (85:Nat) (10:Nat) (p.N0) (rw10 p.F0_0 p.F0_1 p.F0_2 p.F0_3 p.F0_4 p.F0_5 p.F0_6 p.F0_7 p.F0_8 p.F0_9) (p.O0)), (HO.cells (175:Nat) [(SV.ptr (2:Nat) (0:Nat)), SV.int .u64 (s.xh1_1), SV.int .i64 (s.xh1_2)]), HO.res (s.R2), (HO.cells (55:Nat) [SV.int .u64 (p.xh3_0), SV.nils])]))) (Tr.need (e14_1_2 p s) (Tr.need (e14_1_3 p s) (Tr.need (e14_1_4 p s) (Tr.need (e14_1_5 p s) (Tr.need (e14_1_6 p s) (Tr.ite (e14_1_7 p s) (Tr.need (e14_1_1 p s) (Tr.leaf (Rs.out (Ex.ret) [none, none, none, none, none, none, some (SV.bool (false)), (some (SV.ptr (1:Nat) (0:Nat))), (some (SV.ptr (2:Nat) (0:Nat))), none, none, none, none, none, none, none, none, none, none, none, none, none, none, none, none, none, none, none, none, none, none, none, none, none, none, none, none, none, none, none, none, none, none, none, none, none, none, none, none, none, none, none, none, none, none, none, none, none, none, none, none, none, none, none, none, none, none, none, none, none, none, none, none, none, none, none, none, none, none, none, none, none, none, none, none, none, none, none, none, none, none, none, none, none, none, none, none, none, none, none, none, none, none, none, none, none, none, none, none] [(HO.ro (85:Nat) (10:Nat) (p.N0) (rw10 p.F0_0 p.F0_1 p.F0_2 p.F0_3 p.F0_4 p.F0_5 p.F0_6 p.F0_7 p.F0_8 p.F0_9) (p.O0)), (HO.cells (175:Nat) [(SV.ptr (2:Nat) (0:Nat)), SV.int .u64 (e14_1_8 p s), SV.int .i64 (e14_1_9 p s)]), HO.res (e14_1_10 p s), (HO.cells (55:Nat) [SV.int .u64 (p.xh3_0), SV.nils])]))) (Tr.need (e14_1_11 p s) (Tr.leaf (Rs.on (S14_1.mk ((e14_1_12 p s)) ((e14_1_8 p s)) ((e14_1_9 p s)) ((e14_1_10 p s)))))))))))))
noncomputable def r14_1 (p : P14_1) (s : S14_1) : Tr (Rs th.R S14_1) := (Tr.ite (e14_1_0 p s) (Tr.leaf (Rs.out (Ex.exit (2:Nat)) [none, none, none, none, none, none, some (SV.bool (p.b6)), (some (SV.ptr (1:Nat) (0:Nat))), (some (SV.ptr (2:Nat) (0:Nat))), none, none, none, none, none, none, none, none, none, none, none, none, none, none, none, none, none, none, none, none, none, none, none, none, none, none, none, none, none, none, none, none, none, none, none, none, none, none, none, none, none, none, none, none, none, none, none, none, none, none, none, none, none, none, none, none, none, none, none, none, none, none, none, none, none, none, none, none, none, none, none, none, none, none, none, none, none, none, none, none, none, none, none, none, none, none, none, none, none, none, none, none, none, none, none, none, none, none, none, none] [(HO.ro (85:Nat) (10:Nat) (p.N0) (rw10 p.F0_0 p.F0_1 p.F0_2 p.F0_3 p.F0_4 p.F0_5 p.F0_6 p.F0_7 p.F0_8 p.F0_9) (p.O0)), (HO.cells (175:Nat) [(SV.ptr (2:Nat) (0:Nat)), SV.int .u64 (s.xh1_1), SV.int .i64 (s.xh1_2)]), HO.res (s.R2), (HO.cells (55:Nat) [SV.int .u64 (p.xh3_0), SV.nils])])) (Tr.need (e14_1_2 p s) (Tr.need (e14_1_4 p s) (Tr.need (e14_1_5 p s) (Tr.need (e14_1_6 p s) (Tr.ite (e14_1_7 p s) (Tr.leaf (Rs.out (Ex.ret) [none, none, none, none, none, none, some (SV.bool (false)), (some (SV.ptr (1:Nat) (0:Nat))), (some (SV.ptr (2:Nat) (0:Nat))), none, none, none, none, none, none, none, none, none, none, none, none, none, none, none, none, none, none, none, none, none, none, none, none, none, none, none, none, none, none, none, none, none, none, none, none, none, none, none, none, none, none, none, none, none, none, none, none, none, none, none, none, none, none, none, none, none, none, none, none, none, none, none, none, none, none, none, none, none, none, none, none, none, none, none, none, none, none, none, none, none, none, none, none, none, none, none, none, none, none, none, none, none, none, none, none, none, none, none, none] [(HO.ro (85:Nat) (10:Nat) (p.N0) (rw10 p.F0_0 p.F0_1 p.F0_2 p.F0_3 p.F0_4 p.F0_5 p.F0_6 p.F0_7 p.F0_8 p.F0_9) (p.O0)), (HO.cells (175:Nat) [(SV.ptr (2:Nat) (0:Nat)), SV.int .u64 (e14_1_8 p s), SV.int .i64 (e14_1_9 p s)]), HO.res (e14_1_10 p s), (HO.cells (55:Nat) [SV.int .u64 (p.xh3_0), SV.nils])])) (Tr.leaf (Rs.on (S14_1.mk ((e14_1_12 p s)) ((e14_1_8 p s)) ((e14_1_9 p s)) ((e14_1_10 p s)))))))))))
noncomputable def E14_1 : St th.R → Out th := evCode th Try.prog (auto th Try.prog nice14c [] 20) (autoH [] [] [] [] : Hints th) (lpAt Try.prog 14 1)
theorem B14_1 : CodeSound th Try.prog (lpAt Try.prog 14 1) E14_1 := evCode_sound (T := th) (P := Try.prog) (tbl := (auto th Try.prog nice14c [] 20)) (auto_sound (nice := nice14c) (us := []) nok14c 20) (autoH [] [] [] [] : Hints th) _ (LoopsOk_mem (fun _ => rfl) _ fun b hb L hL => by cases hL)
noncomputable def L14_1 : St th.R → Out th := loopL d14_1 ofV14_1 r14_1
theorem h1_14_1 (p : P14_1) (s : S14_1) : bld d14_1.tm (toV14_1 p s) = some (I14_1 p s) := by kernel_rfl
theorem h2_14_1 (l : List (Vl th.R)) (p : P14_1) (s : S14_1) (h : ofV14_1 l = some (p, s)) : l = toV14_1 p s := by
  unfold ofV14_1 at h
  split at h
  · cases h; rfl
  · cases h
theorem h3_14_1 (p : P14_1) (s : S14_1) : cvE d14_1 (E14_1 (I14_1 p s)) = some ((rf14_1 p s).map (Rs.map (toV14_1 p))) := by kernel_rfl
theorem h3g_14_1 (p : P14_1) (s : S14_1) : (rf14_1 p s).get = (r14_1 p s).get := by kernel_rfl
theorem h4_14_1 (p : P14_1) (s s1 : S14_1) : outH d14_1.dirt d14_1.n0 (r14_1 p s) = repH (maskH d14_1.dirt 0 d14_1.n0 (I14_1 p s1).heap) (r14_1 p s) := by kernel_rfl
theorem ls14_1 : CodeSound th Try.prog (.loop (lpAt Try.prog 14 1)) L14_1 := loopL_sound B14_1 d14_1 I14_1 toV14_1 (by kernel_rfl) h1_14_1 h2_14_1
  (fun p s => ⟨(rf14_1 p s).map (Rs.map (toV14_1 p)), h3_14_1 p s, fun h => by
    rw [Tr.map_ok]
    unfold r14_1 at h; unfold rf14_1
    simp only [Tr.ok, n_e14_1_1, n_e14_1_3, n_e14_1_11, true_and, and_true, forall_const, implies_true] at h ⊢
    try exact h, by rw [Tr.map_get, h3g_14_1 p s]⟩) h4_14_1
theorem ok14 : LoopsOk th Try.prog (autoH [(9, L14_0), (20, L14_1)] [] [] [] : Hints th) (bodyOf Try.prog 14) := autoH_ok (bs := [lpAt Try.prog 14 0, lpAt Try.prog 14 1]) (by kernel_rfl) fun b hb L hL => by
  simp only [List.mem_cons, List.not_mem_nil, or_false] at hb
  rcases hb with rfl | rfl
  · have e : lookL [(9, L14_0), (20, L14_1)] (firstReg (lpAt Try.prog 14 0)) = some L14_0 := by kernel_rfl
    rw [e] at hL; cases hL
    exact ls14_0
  · have e : lookL [(9, L14_0), (20, L14_1)] (firstReg (lpAt Try.prog 14 1)) = some L14_1 := by kernel_rfl
    rw [e] at hL; cases hL
    exact ls14_1
noncomputable def f14_11 (v : V14) : (Bool) := decide ((↑v.L:Int) > (60:Int))
noncomputable def f14_12 (v : V14) : (Bool) := cnd (cnd (f14_11 v) true (v.x.tmod (8:Int) != (0:Int))) true (decide (v.x ≥ (65536:Int)))
noncomputable def f14_13 (v : V14) : (Bool) := errI (szM op0.fst.M) v.x != (0:Int)
noncomputable def f14_14 (v : V14) : (P14_0) := P14_0.mk v.L v.x v.y false v.L (↑v.L:Int) v.Q v.ob_ v.ok v.oa v.ob v.kc v.ac v.bc v.rc v.gc v.sc v.mc (65536:Int)
noncomputable def f14_15 (v : V14) : (S14_0) := S14_0.mk (0:Int) (0:Int) (0:Int) (mrgM true (wrM op0.fst.M v.x v.y) op0.fst.M)
noncomputable def f14_16 (v : V14) : (S14_0) := lastS (r14_0 (f14_14 v)) (f14_15 v)
noncomputable def f14_17 (v : V14) : (Bool) := cnd (e14_0_0 (f14_14 v) (f14_16 v)) false true
noncomputable def f14_18 (v : V14) : (th.R) := (f14_16 v).R2
noncomputable def f14_19 (v : V14) : (Bool) := cnd (errI (szM (f14_18 v)) v.x != (0:Int)) true (rdM (f14_18 v) v.x != v.y)
noncomputable def f14_20 (v : V14) : (P14_1) := P14_1.mk false (↑v.L:Int) v.Q v.ob_ v.ok v.oa v.ob v.kc v.ac v.bc v.rc v.gc v.sc v.mc (65536:Int)
noncomputable def f14_21 (v : V14) : (S14_1) := S14_1.mk (0:Int) (f14_16 v).xh1_1 (f14_16 v).xh1_2 (wrM (f14_18 v) v.x (0:Int))
noncomputable def f14_22 (v : V14) : (S14_1) := lastS (r14_1 (f14_20 v)) (f14_21 v)
noncomputable def f14_0 (v : V14) : (Prop) := pre52 V52.mk
noncomputable def f14_1 (v : V14) : (Prop) := false = false → cnd (!f14_11 v) true false = true → (8:Int) ≠ (0:Int)
noncomputable def f14_2 (v : V14) : (Prop) := false = false → f14_12 v = false → pre53 V53.mk
noncomputable def f14_3 (v : V14) : (Prop) := false = false → f14_12 v = false → true = true → ((0:Int) ≤ v.x ∧ v.x < (18446744073709551616:Int)) ∧ (0:Int) ≤ v.y ∧ v.y < (18446744073709551616:Int)
noncomputable def f14_4 (v : V14) : (Prop) := false = false → f14_12 v = false → f14_13 v = false → ∀ (i:Nat), i < v.Q → (rw10 v.ok v.oa v.ob v.kc v.ac v.bc v.rc v.gc v.sc v.mc) i = elC (rw10 v.ok v.oa v.ob v.kc v.ac v.bc v.rc v.gc v.sc v.mc) (0:Nat) [Ck.int IntKind.i64, Ck.int IntKind.u64, Ck.int IntKind.u64, Ck.int IntKind.i64, Ck.int IntKind.u64, Ck.int IntKind.i64, Ck.int IntKind.i64, Ck.int IntKind.i64, Ck.int IntKind.i64, Ck.int IntKind.u64] i
noncomputable def f14_5 (v : V14) : (Prop) := false = false → f14_12 v = false → f14_13 v = false → LT (r14_0 (f14_14 v)) (f14_15 v)
noncomputable def f14_6 (v : V14) : (Prop) := false = false → f14_12 v = false → f14_13 v = false → f14_17 v = false → (0:Int) ≤ v.x ∧ v.x < (18446744073709551616:Int)
noncomputable def f14_7 (v : V14) : (Prop) := false = false → f14_12 v = false → f14_13 v = false → f14_17 v = false → f14_19 v = false → ((0:Int) ≤ v.x ∧ v.x < (18446744073709551616:Int)) ∧ (0:Int) ≤ (0:Int) ∧ (0:Int) < (18446744073709551616:Int)
noncomputable def f14_8 (v : V14) : (Prop) := false = false → f14_12 v = false → f14_13 v = false → f14_17 v = false → f14_19 v = false → ∀ (i:Nat), i < v.Q → (rw10 v.ok v.oa v.ob v.kc v.ac v.bc v.rc v.gc v.sc v.mc) i = elC (rw10 v.ok v.oa v.ob v.kc v.ac v.bc v.rc v.gc v.sc v.mc) (0:Nat) [Ck.int IntKind.i64, Ck.int IntKind.u64, Ck.int IntKind.u64, Ck.int IntKind.i64, Ck.int IntKind.u64, Ck.int IntKind.i64, Ck.int IntKind.i64, Ck.int IntKind.i64, Ck.int IntKind.i64, Ck.int IntKind.u64] i
noncomputable def f14_9 (v : V14) : (Prop) := false = false → f14_12 v = false → f14_13 v = false → f14_17 v = false → f14_19 v = false → LT (r14_1 (f14_20 v)) (f14_21 v)
noncomputable def f14_10 (v : V14) : (Bool) := cnd (f14_12 v) true (cnd (f14_13 v) false (cnd (f14_17 v) true (cnd (f14_19 v) false (cnd (cnd (e14_1_0 (f14_20 v) (f14_22 v)) false true) false (cnd ((f14_22 v).xh1_2 == (0:Int)) ((↑(wcn (f14_22 v).R2):Int) == (0:Int)) false)))))
theorem n_f14_1 (v : V14) : f14_1 v := by
  unfold f14_1
  (repeat' first | intro _ | apply And.intro) <;> first | rfl | exact absurd (by assumption) (Nat.not_lt_zero _) | exact scpL_rowSet (by rfl) (by rfl) | exact scpL_rowEl (by kernel_rfl) _ | omega | decide
theorem n_f14_4 (v : V14) : f14_4 v := by
  unfold f14_4
  (repeat' first | intro _ | apply And.intro) <;> first | rfl | exact absurd (by assumption) (Nat.not_lt_zero _) | exact scpL_rowSet (by rfl) (by rfl) | exact scpL_rowEl (by kernel_rfl) _ | omega | decide
theorem n_f14_8 (v : V14) : f14_8 v := by
  unfold f14_8
  (repeat' first | intro _ | apply And.intro) <;> first | rfl | exact absurd (by assumption) (Nat.not_lt_zero _) | exact scpL_rowSet (by rfl) (by rfl) | exact scpL_rowEl (by kernel_rfl) _ | omega | decide
noncomputable def ff14 (v : V14) : Tr (Fin th.R) := (Tr.need (f14_0 v) (Tr.need (f14_1 v) (Tr.need (f14_2 v) (Tr.need (f14_3 v) (Tr.need (f14_4 v) (Tr.need (f14_5 v) (Tr.need (f14_6 v) (Tr.need (f14_7 v) (Tr.need (f14_8 v) (Tr.need (f14_9 v) (Tr.leaf (SV.bool (f14_10 v), [(HO.ro (85:Nat) (10:Nat) (v.Q) (rw10 v.ok v.oa v.ob v.kc v.ac v.bc v.rc v.gc v.sc v.mc) (v.ob_))], List.nil))))))))))))
noncomputable def f14 (v : V14) : Tr (Fin th.R) := (Tr.need (f14_0 v) (Tr.need (f14_2 v) (Tr.need (f14_3 v) (Tr.need (f14_5 v) (Tr.need (f14_6 v) (Tr.need (f14_7 v) (Tr.need (f14_9 v) (Tr.leaf (SV.bool (f14_10 v), [(HO.ro (85:Nat) (10:Nat) (v.Q) (fun j => [SV.int .i64 (v.ok j), SV.int .u64 (v.oa j), SV.int .u64 (v.ob j), SV.int .i64 (v.kc j), SV.int .u64 (v.ac j), SV.int .i64 (v.bc j), SV.int .i64 (v.rc j), SV.int .i64 (v.gc j), SV.int .i64 (v.sc j), SV.int .u64 (v.mc j)]) (v.ob_))], [])))))))))
noncomputable def C14 : CF th.R := fnC d14 ofV14 (f14 )
theorem q14 (v : V14) : (evFn th Try.prog (auto th Try.prog nice14c [] 20) (autoH [(9, L14_0), (20, L14_1)] [] [] [] : Hints th) 14) (A14 v) (H14 v) = some (ff14 v) := by kernel_rfl
theorem qg14 (v : V14) : ((ff14 v).map (setD [])).get = (f14 v).get := by kernel_rfl
theorem qd14 (v : V14) : allD 1 [] (ff14 v) = true := by kernel_rfl
theorem s14 : Sound Try.prog th 14 (C14 ) := fnC_sound (evFn_sound' (T := th) (P := Try.prog) (tbl := (auto th Try.prog nice14c [] 20)) (auto_sound (nice := nice14c) (us := []) nok14c 20) (H := (autoH [(9, L14_0), (20, L14_1)] [] [] [] : Hints th)) (k := 14) (fnLoops ok14)) d14 A14 H14 toV14 (by kernel_rfl) (fun v => by kernel_rfl)
  (fun l v h => by
    unfold ofV14 at h
    split at h
    · cases h; rfl
    · cases h)
  [] (fun v => ⟨ff14 v, q14 v, fun h => by
    unfold f14 at h; unfold ff14
    simp only [Tr.ok, n_f14_1, n_f14_4, n_f14_8, true_and, and_true, forall_const, implies_true] at h ⊢
    try exact h, qg14 v, qd14 v⟩)
theorem qdd14 (v : V14) : (f14 v).get.2.2 = [] := by
  rw [← qg14, Tr.map_get]; rfl
set_option maxRecDepth 100000
structure S114_0 where
  x26 : Int
  R2 : th.R
  n6_1 : Nat
  xh4_1 : Int
  xh4_2 : Int
  N5 : Nat
  F5_0 : Nat → Int
  F5_1 : Nat → Int
  F5_2 : Nat → Int
  F5_3 : Nat → Int
  F5_4 : Nat → Int
  F5_5 : Nat → Int
  F5_6 : Nat → Int
  F5_7 : Nat → Int
  F5_8 : Nat → Int
noncomputable instance : Inhabited S114_0 := ⟨⟨0, dR, 0, 0, 0, 0, fun _ => 0, fun _ => 0, fun _ => 0, fun _ => 0, fun _ => 0, fun _ => 0, fun _ => 0, fun _ => 0, fun _ => 0⟩⟩
set_option maxRecDepth 100000
set_option maxRecDepth 100000
set_option maxRecDepth 100000
set_option maxRecDepth 100000
structure V47 where
  k : Int
  a : Int
  b : Int
  r : Int
  g : Int
  s : Int
  m : Int
  x : Int
noncomputable def f47_9 (v : V47) : (Bool) := !f45_1 v.k v.a v.b v.r v.g v.s v.m
noncomputable def f47_10 (v : V47) : (Bool) := cnd (v.k == (9:Int)) (v.m != (0:Int)) false
noncomputable def f47_11 (v : V47) : (Int) := cnd (v.k == (9:Int)) v.k (cnd (v.k == (2:Int)) v.k v.k)
noncomputable def f47_12 (v : V47) : (Int) := cnd (v.k == (9:Int)) v.a (cnd (v.k == (2:Int)) v.a v.a)
noncomputable def f47_13 (v : V47) : (Int) := cnd (v.k == (9:Int)) v.b (cnd (v.k == (2:Int)) v.b v.b)
noncomputable def f47_14 (v : V47) : (Int) := cnd (v.k == (9:Int)) v.r (cnd (v.k == (2:Int)) v.r v.r)
noncomputable def f47_15 (v : V47) : (Int) := cnd (v.k == (9:Int)) v.g (cnd (v.k == (2:Int)) (IntKind.i64.wrap (Go.bits Go.BinOp.and IntKind.u64 v.x (63:Int))) v.g)
noncomputable def f47_16 (v : V47) : (Int) := cnd (v.k == (9:Int)) v.s (cnd (v.k == (2:Int)) v.s v.s)
noncomputable def f47_17 (v : V47) : (Int) := cnd (v.k == (9:Int)) v.x (cnd (v.k == (2:Int)) (v.x.fdiv (64:Int)) v.m)
noncomputable def f47_1 (v : V47) : (Int) := cnd (f47_9 v) (0:Int) (cnd (f47_10 v) (0:Int) (cnd (cnd (v.k == (9:Int)) false (cnd (v.k == (2:Int)) false (v.x != (0:Int)))) (0:Int) (cnd (!f45_1 (f47_11 v) (f47_12 v) (f47_13 v) (f47_14 v) (f47_15 v) (f47_16 v) (f47_17 v)) (0:Int) (f47_11 v))))
noncomputable def f47_2 (v : V47) : (Int) := cnd (f47_9 v) (0:Int) (cnd (f47_10 v) (0:Int) (cnd (cnd (v.k == (9:Int)) false (cnd (v.k == (2:Int)) false (v.x != (0:Int)))) (0:Int) (cnd (!f45_1 (f47_11 v) (f47_12 v) (f47_13 v) (f47_14 v) (f47_15 v) (f47_16 v) (f47_17 v)) (0:Int) (f47_12 v))))
noncomputable def f47_3 (v : V47) : (Int) := cnd (f47_9 v) (0:Int) (cnd (f47_10 v) (0:Int) (cnd (cnd (v.k == (9:Int)) false (cnd (v.k == (2:Int)) false (v.x != (0:Int)))) (0:Int) (cnd (!f45_1 (f47_11 v) (f47_12 v) (f47_13 v) (f47_14 v) (f47_15 v) (f47_16 v) (f47_17 v)) (0:Int) (f47_13 v))))
noncomputable def f47_4 (v : V47) : (Int) := cnd (f47_9 v) (0:Int) (cnd (f47_10 v) (0:Int) (cnd (cnd (v.k == (9:Int)) false (cnd (v.k == (2:Int)) false (v.x != (0:Int)))) (0:Int) (cnd (!f45_1 (f47_11 v) (f47_12 v) (f47_13 v) (f47_14 v) (f47_15 v) (f47_16 v) (f47_17 v)) (0:Int) (f47_14 v))))
noncomputable def f47_5 (v : V47) : (Int) := cnd (f47_9 v) (0:Int) (cnd (f47_10 v) (0:Int) (cnd (cnd (v.k == (9:Int)) false (cnd (v.k == (2:Int)) false (v.x != (0:Int)))) (0:Int) (cnd (!f45_1 (f47_11 v) (f47_12 v) (f47_13 v) (f47_14 v) (f47_15 v) (f47_16 v) (f47_17 v)) (0:Int) (f47_15 v))))
noncomputable def f47_6 (v : V47) : (Int) := cnd (f47_9 v) (0:Int) (cnd (f47_10 v) (0:Int) (cnd (cnd (v.k == (9:Int)) false (cnd (v.k == (2:Int)) false (v.x != (0:Int)))) (0:Int) (cnd (!f45_1 (f47_11 v) (f47_12 v) (f47_13 v) (f47_14 v) (f47_15 v) (f47_16 v) (f47_17 v)) (0:Int) (f47_16 v))))
noncomputable def f47_7 (v : V47) : (Int) := cnd (f47_9 v) (0:Int) (cnd (f47_10 v) (0:Int) (cnd (cnd (v.k == (9:Int)) false (cnd (v.k == (2:Int)) false (v.x != (0:Int)))) (0:Int) (cnd (!f45_1 (f47_11 v) (f47_12 v) (f47_13 v) (f47_14 v) (f47_15 v) (f47_16 v) (f47_17 v)) (0:Int) (f47_17 v))))
set_option maxRecDepth 100000
set_option maxRecDepth 100000
set_option maxRecDepth 100000
noncomputable def mkC (z : Sl) (x:Int) : Sl := ⟨f47_1 ⟨z.k, z.a, z.b, z.r, z.g, z.s, z.m, x⟩, f47_2 ⟨z.k, z.a, z.b, z.r, z.g, z.s, z.m, x⟩, f47_3 ⟨z.k, z.a, z.b, z.r, z.g, z.s, z.m, x⟩, f47_4 ⟨z.k, z.a, z.b, z.r, z.g, z.s, z.m, x⟩,
  f47_5 ⟨z.k, z.a, z.b, z.r, z.g, z.s, z.m, x⟩, f47_6 ⟨z.k, z.a, z.b, z.r, z.g, z.s, z.m, x⟩, f47_7 ⟨z.k, z.a, z.b, z.r, z.g, z.s, z.m, x⟩, 0, 0, 0⟩
def selS (c : Bool) (A B : Sl) : Sl := ⟨cnd c A.k B.k, cnd c A.a B.a, cnd c A.b B.b, cnd c A.r B.r, cnd c A.g B.g, cnd c A.s B.s, cnd c A.m B.m, 0, 0, 0⟩
set_option maxRecDepth 100000
set_option maxRecDepth 100000
set_option maxRecDepth 100000
set_option maxRecDepth 100000
end Go.Sx.M

