/- Contracts of the functions of this seat, each by the executor and the kernel; part 1. Their conditions stand in each. -/
import Derived.Test.YtoldganbhlgboaaTx3
import Derived.Test.YtoldganbhlgboaaProg
import Derived.Test.YtoldganbhlgboaaB1
import Derived.Maps.RangeWalk
import Derived.WalkKit
import Derived.Laws.BitsAllLaws
set_option linter.unusedVariables false
set_option linter.unusedSimpArgs false
namespace Go.Sx.M
open Go Go.Sx Go.Proofs Go.RowKit
noncomputable def th : Theory := memTh Try.prog 187 193 22
noncomputable def dR : th.R := (default : Mem)
def us173 : List Un := [⟨173, [(2, 6)], [6]⟩]
def f173_0 (x:Int) : Int := cnd ((39:Int) == x) (0:Int) (cnd ((30:Int) == x) (1:Int) (cnd ((21:Int) == x) (2:Int) (cnd ((12:Int) == x) (3:Int) (0:Int))))
def f173_1 (x:Int) : Bool := cnd ((39:Int) == x) true (cnd ((30:Int) == x) true (cnd ((21:Int) == x) true (cnd ((12:Int) == x) true false)))
def f173 : List SV → Option (Tr SV)
  | [.int .i64 x] => some (Tr.leaf (SV.tup [SV.int .i64 (f173_0 x), SV.bool (f173_1 x)]))
  | _ => none
theorem s173 : Sound Try.prog th 173 (pureC f173) := pure_auto (us := us173) (nice := ([] : List (Nat × CF th.R))) trivial 20 fun args t h => by
  unfold f173 at h
  split at h
  · cases h; kernel_rfl
  · cases h
noncomputable def nice173 : List (Nat × CF th.R) := (173, pureC f173) :: ([] : List (Nat × CF th.R))
theorem nok173 : NiceOk Try.prog th nice173 := ⟨s173, trivial⟩
def f172_0 (k:Int) (b:Int) : Int := cnd (cnd (k == (0:Int)) (k == (0:Int)) (k == (6:Int))) (-1:Int) (cnd (k == (1:Int)) b (cnd (cnd (k == (2:Int)) (k == (2:Int)) (k == (10:Int))) (IntKind.i64.wrap (b + (5:Int))) (cnd (k == (3:Int)) b (cnd (cnd (k == (4:Int)) (k == (4:Int)) (cnd (k == (5:Int)) (k == (5:Int)) (k == (7:Int)))) b (cnd (k == (8:Int)) b (cnd (k == (9:Int)) b (-1:Int)))))))
def f172_1 (k:Int) (b:Int) : Bool := cnd (cnd (k == (0:Int)) (k == (0:Int)) (k == (6:Int))) (b == (0:Int)) (cnd (k == (1:Int)) (cnd (decide (b ≥ (5:Int))) (decide (b ≤ (32:Int))) false) (cnd (cnd (k == (2:Int)) (k == (2:Int)) (k == (10:Int))) (cnd (decide (b ≥ (1:Int))) (decide (b ≤ (12:Int))) false) (cnd (k == (3:Int)) (cnd (f173_1 b) (decide (f173_0 b > (0:Int))) false) (cnd (cnd (k == (4:Int)) (k == (4:Int)) (cnd (k == (5:Int)) (k == (5:Int)) (k == (7:Int)))) (b == (12:Int)) (cnd (k == (8:Int)) (b == (7:Int)) (cnd (k == (9:Int)) (b == (5:Int)) false))))))
noncomputable def nice172 : List (Nat × CF th.R) := nice173
theorem nok172 : NiceOk Try.prog th nice172 := nok173
def us123 : List Un := [⟨173, [(2, 6)], [6]⟩]
def f123_0 (n:Int) : Prop := decide (n < (1:Int)) = false → decide (n ≥ (64:Int)) = false → (0:Int) ≤ n
def f123_1 (n:Int) : Int := cnd (decide (n < (1:Int))) (0:Int) (cnd (decide (n ≥ (64:Int))) (18446744073709551615:Int) (IntKind.u64.wrap (IntKind.u64.wrap ((1:Int) * (2:Int) ^ Min.min n.toNat IntKind.u64.bits) - (1:Int))))
theorem n123_0 (n:Int) : f123_0 n := by
  simp only [f123_0, cnd_eq]
  grind (splits := 40)
def f123 : List SV → Option (Tr SV)
  | [.int .i64 n] => some (Tr.leaf (SV.int .u64 (f123_1 n)))
  | _ => none
theorem s123 : Sound Try.prog th 123 (pureC f123) := pure_auto2 (us := us123) (nice := nice172) nok172 20 fun args t h => by
  unfold f123 at h
  split at h
  · rename_i n
    cases h
    refine ⟨(Tr.need (f123_0 n) (Tr.leaf (SV.int .u64 (f123_1 n)))), by kernel_rfl, fun ok => ?_, rfl⟩
    first
    | (simp only [Tr.ok, n123_0, true_and, and_true, forall_const, implies_true]; done)
    | (simp only [Tr.ok, n123_0, true_and, and_true, forall_const, implies_true]; done)
    | (simpa only [Tr.ok, n123_0, true_and, and_true, forall_const, implies_true] using ok; done)
    | (simp only [Tr.ok, n123_0, true_and, and_true, forall_const, implies_true] at ok ⊢; grind)
  · cases h
noncomputable def nice123 : List (Nat × CF th.R) := (123, pureC f123) :: nice172
theorem nok123 : NiceOk Try.prog th nice123 := ⟨s123, nok172⟩
def f116_0 (r:Int) : Bool := cnd (decide (r ≥ (0:Int))) (decide (r ≤ (7:Int))) false
noncomputable def nice116 : List (Nat × CF th.R) := nice123
theorem nok116 : NiceOk Try.prog th nice116 := nok123
def f119_0 (a:Int) (b:Int) : Bool := cnd (cnd (f116_0 a) (f116_0 b) false) (Go.bits Go.BinOp.andNot IntKind.i64 a b == (0:Int)) false
noncomputable def nice119 : List (Nat × CF th.R) := nice116
theorem nok119 : NiceOk Try.prog th nice119 := nok116
def us125 : List Un := [⟨173, [(2, 6)], [6]⟩]
def f125_0 (w:Int) (n:Int) : Bool := Go.bits Go.BinOp.and IntKind.u64 w (f123_1 n) == (0:Int)
def f125 : List SV → Option (Tr SV)
  | [.int .u64 w, .int .i64 n] => some (Tr.leaf (SV.bool (f125_0 w n)))
  | _ => none
theorem s125 : Sound Try.prog th 125 (pureC f125) := pure_auto (us := us125) (nice := nice119) nok119 20 fun args t h => by
  unfold f125 at h
  split at h
  · cases h; kernel_rfl
  · cases h
noncomputable def nice125 : List (Nat × CF th.R) := (125, pureC f125) :: nice119
theorem nok125 : NiceOk Try.prog th nice125 := ⟨s125, nok119⟩
def f194_0 (l:Int) : Int := cnd (cnd (decide (l < (0:Int))) true (decide (l ≥ (4:Int)))) (0:Int) (IntKind.i64.wrap ((12:Int) + IntKind.i64.wrap ((9:Int) * IntKind.i64.wrap ((3:Int) - l))))
noncomputable def nice194 : List (Nat × CF th.R) := nice125
theorem nok194 : NiceOk Try.prog th nice194 := nok125
def f120_0 (k:Int) (a:Int) (b:Int) (r:Int) (g:Int) (s:Int) (m:Int) : Bool := cnd (cnd (!f172_1 k b) true (decide (f172_0 k b < (0:Int)))) (cnd (f172_1 k b) (a == (0:Int)) false) (cnd (cnd (f125_0 a (f172_0 k b)) (decide (a < (4294967296:Int))) false) (decide (IntKind.u64.wrap (f123_1 (f172_0 k b) + (1:Int)) ≤ IntKind.u64.wrap ((4294967296:Int) - a))) false)
noncomputable def nice120 : List (Nat × CF th.R) := nice194
theorem nok120 : NiceOk Try.prog th nice120 := nok194
def f195_1 (w:Int) : Bool := w.fdiv (281474976710656:Int) == (0:Int)
noncomputable def nice195 : List (Nat × CF th.R) := nice120
theorem nok195 : NiceOk Try.prog th nice195 := nok120
def f210_0 (n:Int) : Bool := cnd (decide (n ≥ (0:Int))) (decide (n < (4:Int))) false
noncomputable def nice210 : List (Nat × CF th.R) := nice195
theorem nok210 : NiceOk Try.prog th nice210 := nok195
def f211_0 (w:Int) (n:Int) : Int := Go.bits Go.BinOp.andNot IntKind.u64 w (f123_1 n)
noncomputable def nice211 : List (Nat × CF th.R) := nice210
theorem nok211 : NiceOk Try.prog th nice211 := nok210
def f196_0 (w:Int) (n:Int) : Int := cnd (!f210_0 n) (0:Int) (f211_0 (Go.bits Go.BinOp.and IntKind.u64 w (281474976710655:Int)) (f194_0 n))
noncomputable def nice196 : List (Nat × CF th.R) := nice211
theorem nok196 : NiceOk Try.prog th nice196 := nok211
def f174_0 (k:Int) (a:Int) (b:Int) (r:Int) (g:Int) (s:Int) (m:Int) (l:Int) : Bool := cnd (s == (0:Int)) (m == (0:Int)) (cnd (f195_1 m) (f196_0 m l == m) false)
noncomputable def nice174 : List (Nat × CF th.R) := nice196
theorem nok174 : NiceOk Try.prog th nice174 := nok196
def f121_1 (k:Int) (a:Int) (b:Int) (r:Int) (g:Int) (s:Int) (m:Int) : Bool := cnd (k == (1:Int)) (cnd (decide (m ≤ IntKind.u64.wrap (f123_1 b + (1:Int)))) (f125_0 m (5:Int)) false) (cnd (k == (2:Int)) (cnd (decide (g ≤ if (63:Int) < IntKind.i64.wrap ((64:Int) - b) then (63:Int) else IntKind.i64.wrap ((64:Int) - b))) (Go.bits Go.BinOp.andNot IntKind.u64 m (f123_1 g) == (0:Int)) false) (cnd (k == (3:Int)) (f174_0 k a b r g s m (f173_0 b)) (cnd (k == (4:Int)) (cnd (cnd (f174_0 k a b r g s m (IntKind.i64.wrap (g - (1:Int)))) (decide (g ≥ (1:Int)) == (s != (0:Int))) false) (decide (g < (4:Int))) false) (cnd (k == (7:Int)) (decide (m < (8:Int))) (cnd (k == (9:Int)) true (cnd (k == (10:Int)) (decide (m ≤ IntKind.u64.wrap ((1:Int) * (2:Int) ^ Min.min b.toNat IntKind.u64.bits))) (m == (0:Int))))))))
noncomputable def nice121 : List (Nat × CF th.R) := nice174
theorem nok121 : NiceOk Try.prog th nice121 := nok174
def f45_1 (k:Int) (a:Int) (b:Int) (r:Int) (g:Int) (s:Int) (m:Int) : Bool := cnd (cnd (cnd (cnd (cnd (cnd (cnd (f120_0 k a b r g s m) (decide (g ≥ (0:Int))) false) (cnd (cnd (k == (2:Int)) true (k == (4:Int))) true (g == (0:Int))) false) (decide (s ≥ (0:Int))) false) (decide (s < (4096:Int))) false) (cnd (cnd (cnd (k == (3:Int)) true (k == (4:Int))) true (k == (5:Int))) true (s == (0:Int))) false) (cnd (cnd (cnd (k == (3:Int)) (f116_0 r) false) true (cnd (k == (9:Int)) (f119_0 r (3:Int)) false)) true (r == (0:Int))) false) (f121_1 k a b r g s m) false
noncomputable def nice45 : List (Nat × CF th.R) := nice121
theorem nok45 : NiceOk Try.prog th nice45 := nok121
def f162_0 (k:Int) (a:Int) (b:Int) (r:Int) (g:Int) (s:Int) (m:Int) : Int := cnd (cnd (!f172_1 k b) true !f45_1 k a b r g s m) (-1:Int) (f172_0 k b)
noncomputable def nice162 : List (Nat × CF th.R) := nice45
theorem nok162 : NiceOk Try.prog th nice162 := nok45
noncomputable def nice126 : List (Nat × CF th.R) := nice162
theorem nok126 : NiceOk Try.prog th nice126 := nok162
noncomputable def nice129 : List (Nat × CF th.R) := nice126
theorem nok129 : NiceOk Try.prog th nice129 := nok126
noncomputable def nice26 : List (Nat × CF th.R) := nice129
theorem nok26 : NiceOk Try.prog th nice26 := nok129
noncomputable def nice176 : List (Nat × CF th.R) := nice26
theorem nok176 : NiceOk Try.prog th nice176 := nok26
noncomputable def nice118 : List (Nat × CF th.R) := nice176
theorem nok118 : NiceOk Try.prog th nice118 := nok176
noncomputable def nice166 : List (Nat × CF th.R) := nice118
theorem nok166 : NiceOk Try.prog th nice166 := nok118
noncomputable def nice167 : List (Nat × CF th.R) := nice166
theorem nok167 : NiceOk Try.prog th nice167 := nok166
noncomputable def nice212 : List (Nat × CF th.R) := nice167
theorem nok212 : NiceOk Try.prog th nice212 := nok167
noncomputable def nice213 : List (Nat × CF th.R) := nice212
theorem nok213 : NiceOk Try.prog th nice213 := nok212
noncomputable def nice197 : List (Nat × CF th.R) := nice213
theorem nok197 : NiceOk Try.prog th nice197 := nok213
noncomputable def nice177 : List (Nat × CF th.R) := nice197
theorem nok177 : NiceOk Try.prog th nice177 := nok197
noncomputable def nice127 : List (Nat × CF th.R) := nice177
theorem nok127 : NiceOk Try.prog th nice127 := nok177
noncomputable def nice128 : List (Nat × CF th.R) := nice127
theorem nok128 : NiceOk Try.prog th nice128 := nok127
noncomputable def nice50 : List (Nat × CF th.R) := nice128
theorem nok50 : NiceOk Try.prog th nice50 := nok128
noncomputable def nice160 : List (Nat × CF th.R) := nice50
theorem nok160 : NiceOk Try.prog th nice160 := nok50
def f25_0 (k:Int) (b:Int) : Int := cnd (cnd (k == (1:Int)) (cnd (decide (b ≥ (5:Int))) (decide (b ≤ (32:Int))) false) false) b (cnd (k == (1:Int)) (-2:Int) (cnd (cnd (k == (2:Int)) (cnd (decide (b ≥ (1:Int))) (decide (b ≤ (12:Int))) false) false) (IntKind.i64.wrap (b + (5:Int))) (cnd (k == (2:Int)) (-2:Int) (cnd (cnd (k == (3:Int)) (cnd (cnd (b == (12:Int)) true (b == (21:Int))) true (b == (30:Int))) false) b (cnd (k == (3:Int)) (-2:Int) (cnd (cnd (k == (9:Int)) (5:Int) (cnd (k == (8:Int)) (7:Int) (cnd (cnd (k == (4:Int)) true (k == (5:Int))) (12:Int) (0:Int))) == (0:Int)) (-1:Int) (cnd (b != (0:Int)) (-2:Int) (cnd (k == (9:Int)) (5:Int) (cnd (k == (8:Int)) (7:Int) (cnd (cnd (k == (4:Int)) true (k == (5:Int))) (12:Int) (0:Int)))))))))))
noncomputable def nice25 : List (Nat × CF th.R) := nice160
theorem nok25 : NiceOk Try.prog th nice25 := nok160
def f191_0 (k:Int) (b:Int) : Int := cnd (cnd (k == (1:Int)) (k == (1:Int)) (k == (2:Int))) k (cnd (k == (3:Int)) k (cnd (cnd (k == (9:Int)) false (cnd (k == (8:Int)) false (cnd (cnd (k == (4:Int)) (k == (4:Int)) (k == (5:Int))) false true))) (0:Int) (cnd (b != (0:Int)) (cnd (k == (9:Int)) k (cnd (k == (8:Int)) k k)) (cnd (k == (9:Int)) k (cnd (k == (8:Int)) k k)))))
def f191_1 (k:Int) (b:Int) : Int := cnd (cnd (k == (1:Int)) (k == (1:Int)) (k == (2:Int))) (0:Int) (cnd (k == (3:Int)) (0:Int) (cnd (cnd (k == (9:Int)) false (cnd (k == (8:Int)) false (cnd (cnd (k == (4:Int)) (k == (4:Int)) (k == (5:Int))) false true))) (0:Int) (cnd (b != (0:Int)) (cnd (k == (9:Int)) (0:Int) (cnd (k == (8:Int)) (0:Int) (0:Int))) (cnd (k == (9:Int)) (0:Int) (cnd (k == (8:Int)) (0:Int) (0:Int))))))
def f191_2 (k:Int) (b:Int) : Int := cnd (cnd (k == (1:Int)) (k == (1:Int)) (k == (2:Int))) b (cnd (k == (3:Int)) b (cnd (cnd (k == (9:Int)) false (cnd (k == (8:Int)) false (cnd (cnd (k == (4:Int)) (k == (4:Int)) (k == (5:Int))) false true))) (0:Int) (cnd (b != (0:Int)) (-1:Int) (cnd (k == (9:Int)) (5:Int) (cnd (k == (8:Int)) (7:Int) (12:Int))))))
def f191_3 (k:Int) (b:Int) : Int := cnd (cnd (k == (1:Int)) (k == (1:Int)) (k == (2:Int))) (0:Int) (cnd (k == (3:Int)) (7:Int) (cnd (cnd (k == (9:Int)) false (cnd (k == (8:Int)) false (cnd (cnd (k == (4:Int)) (k == (4:Int)) (k == (5:Int))) false true))) (0:Int) (cnd (b != (0:Int)) (cnd (k == (9:Int)) (3:Int) (cnd (k == (8:Int)) (0:Int) (0:Int))) (cnd (k == (9:Int)) (3:Int) (cnd (k == (8:Int)) (0:Int) (0:Int))))))
def f191_4 (k:Int) (b:Int) : Bool := cnd (cnd (k == (1:Int)) (k == (1:Int)) (k == (2:Int))) true (cnd (k == (3:Int)) true (cnd (cnd (k == (9:Int)) false (cnd (k == (8:Int)) false (cnd (cnd (k == (4:Int)) (k == (4:Int)) (k == (5:Int))) false true))) false true))
noncomputable def nice191 : List (Nat × CF th.R) := nice25
theorem nok191 : NiceOk Try.prog th nice191 := nok25
def f161_0 (k:Int) (b:Int) : Int := cnd (!f191_4 k b) (f191_0 k b) (cnd (!f45_1 (f191_0 k b) (f191_1 k b) (f191_2 k b) (f191_3 k b) (f191_1 k b) (f191_1 k b) (f191_1 k b)) (f191_0 k b) (f191_0 k b))
def f161_1 (k:Int) (b:Int) : Int := cnd (!f191_4 k b) (f191_1 k b) (cnd (!f45_1 (f191_0 k b) (f191_1 k b) (f191_2 k b) (f191_3 k b) (f191_1 k b) (f191_1 k b) (f191_1 k b)) (f191_1 k b) (f191_1 k b))
def f161_2 (k:Int) (b:Int) : Int := cnd (!f191_4 k b) (f191_2 k b) (cnd (!f45_1 (f191_0 k b) (f191_1 k b) (f191_2 k b) (f191_3 k b) (f191_1 k b) (f191_1 k b) (f191_1 k b)) (f191_2 k b) (f191_2 k b))
def f161_3 (k:Int) (b:Int) : Int := cnd (!f191_4 k b) (f191_3 k b) (cnd (!f45_1 (f191_0 k b) (f191_1 k b) (f191_2 k b) (f191_3 k b) (f191_1 k b) (f191_1 k b) (f191_1 k b)) (f191_3 k b) (f191_3 k b))
def f161_4 (k:Int) (b:Int) : Int := cnd (!f191_4 k b) (20:Int) (cnd (!f45_1 (f191_0 k b) (f191_1 k b) (f191_2 k b) (f191_3 k b) (f191_1 k b) (f191_1 k b) (f191_1 k b)) (11:Int) (0:Int))
noncomputable def nice161 : List (Nat × CF th.R) := nice191
theorem nok161 : NiceOk Try.prog th nice161 := nok191
noncomputable def nice95 : List (Nat × CF th.R) := nice161
theorem nok95 : NiceOk Try.prog th nice95 := nok161
noncomputable def nice97 : List (Nat × CF th.R) := nice95
theorem nok97 : NiceOk Try.prog th nice97 := nok95
noncomputable def nice106 : List (Nat × CF th.R) := nice97
theorem nok106 : NiceOk Try.prog th nice106 := nok97
def f165_0 (l:Int) (d:Int) : Bool := cnd (cnd (cnd (decide (l ≥ (0:Int))) (decide (l < (64:Int))) false) (decide (d ≥ (1:Int))) false) (decide (d ≤ IntKind.i64.wrap ((64:Int) - l))) false
noncomputable def nice165 : List (Nat × CF th.R) := nice106
theorem nok165 : NiceOk Try.prog th nice165 := nok106
def f209_1 (l:Int) (d:Int) : Int := cnd (!f165_0 l d) (0:Int) (IntKind.u64.wrap (f123_1 d * (2:Int) ^ Min.min l.toNat IntKind.u64.bits))
noncomputable def nice209 : List (Nat × CF th.R) := nice165
theorem nok209 : NiceOk Try.prog th nice209 := nok165
def f102_1 (l:Int) (d:Int) (w:Int) : Int := cnd (!f165_0 l d) (0:Int) (Go.bits Go.BinOp.and IntKind.u64 (w.fdiv ((2:Int) ^ Min.min l.toNat IntKind.u64.bits)) (f123_1 d))
noncomputable def nice102 : List (Nat × CF th.R) := nice209
theorem nok102 : NiceOk Try.prog th nice102 := nok209
def f192_1 (l:Int) (d:Int) (w:Int) (v:Int) : Int := cnd (!f165_0 l d) (0:Int) (cnd (Go.bits Go.BinOp.andNot IntKind.u64 v (f123_1 d) != (0:Int)) (0:Int) (Go.bits Go.BinOp.or IntKind.u64 (Go.bits Go.BinOp.andNot IntKind.u64 w (f209_1 l d)) (IntKind.u64.wrap (v * (2:Int) ^ Min.min l.toNat IntKind.u64.bits))))
noncomputable def nice192 : List (Nat × CF th.R) := nice102
theorem nok192 : NiceOk Try.prog th nice192 := nok102
def f164_14 (k:Int) (a:Int) (b:Int) (r:Int) (g:Int) (s:Int) (m:Int) : Int := cnd (!f45_1 k a b r g s m) (0:Int) (f192_1 (35:Int) (27:Int) (f192_1 (19:Int) (16:Int) (f192_1 (13:Int) (6:Int) (f192_1 (10:Int) (3:Int) (f192_1 (4:Int) (6:Int) (f192_1 (0:Int) (4:Int) (0:Int) (IntKind.u64.wrap k)) (IntKind.u64.wrap b)) (IntKind.u64.wrap r)) (IntKind.u64.wrap g)) (IntKind.u64.wrap s)) (a.fdiv (32:Int)))
def f164_15 (k:Int) (a:Int) (b:Int) (r:Int) (g:Int) (s:Int) (m:Int) : Int := cnd (!f45_1 k a b r g s m) (0:Int) m
def f164_16 (k:Int) (a:Int) (b:Int) (r:Int) (g:Int) (s:Int) (m:Int) : Int := cnd (!f45_1 k a b r g s m) (10:Int) (0:Int)
noncomputable def nice164 : List (Nat × CF th.R) := nice192
theorem nok164 : NiceOk Try.prog th nice164 := nok192
def f100_3 (a:Int) (b:Int) : Int := cnd (cnd (f164_16 (IntKind.i64.wrap (f102_1 (0:Int) (4:Int) a)) (IntKind.u64.wrap (f102_1 (35:Int) (27:Int) a * (32:Int))) (IntKind.i64.wrap (f102_1 (4:Int) (6:Int) a)) (IntKind.i64.wrap (f102_1 (10:Int) (3:Int) a)) (IntKind.i64.wrap (f102_1 (13:Int) (6:Int) a)) (IntKind.i64.wrap (f102_1 (19:Int) (16:Int) a)) b != (0:Int)) true (f164_14 (IntKind.i64.wrap (f102_1 (0:Int) (4:Int) a)) (IntKind.u64.wrap (f102_1 (35:Int) (27:Int) a * (32:Int))) (IntKind.i64.wrap (f102_1 (4:Int) (6:Int) a)) (IntKind.i64.wrap (f102_1 (10:Int) (3:Int) a)) (IntKind.i64.wrap (f102_1 (13:Int) (6:Int) a)) (IntKind.i64.wrap (f102_1 (19:Int) (16:Int) a)) b != a)) (0:Int) (IntKind.i64.wrap (f102_1 (0:Int) (4:Int) a))
def f100_4 (a:Int) (b:Int) : Int := cnd (cnd (f164_16 (IntKind.i64.wrap (f102_1 (0:Int) (4:Int) a)) (IntKind.u64.wrap (f102_1 (35:Int) (27:Int) a * (32:Int))) (IntKind.i64.wrap (f102_1 (4:Int) (6:Int) a)) (IntKind.i64.wrap (f102_1 (10:Int) (3:Int) a)) (IntKind.i64.wrap (f102_1 (13:Int) (6:Int) a)) (IntKind.i64.wrap (f102_1 (19:Int) (16:Int) a)) b != (0:Int)) true (f164_14 (IntKind.i64.wrap (f102_1 (0:Int) (4:Int) a)) (IntKind.u64.wrap (f102_1 (35:Int) (27:Int) a * (32:Int))) (IntKind.i64.wrap (f102_1 (4:Int) (6:Int) a)) (IntKind.i64.wrap (f102_1 (10:Int) (3:Int) a)) (IntKind.i64.wrap (f102_1 (13:Int) (6:Int) a)) (IntKind.i64.wrap (f102_1 (19:Int) (16:Int) a)) b != a)) (0:Int) (IntKind.u64.wrap (f102_1 (35:Int) (27:Int) a * (32:Int)))
def f100_5 (a:Int) (b:Int) : Int := cnd (cnd (f164_16 (IntKind.i64.wrap (f102_1 (0:Int) (4:Int) a)) (IntKind.u64.wrap (f102_1 (35:Int) (27:Int) a * (32:Int))) (IntKind.i64.wrap (f102_1 (4:Int) (6:Int) a)) (IntKind.i64.wrap (f102_1 (10:Int) (3:Int) a)) (IntKind.i64.wrap (f102_1 (13:Int) (6:Int) a)) (IntKind.i64.wrap (f102_1 (19:Int) (16:Int) a)) b != (0:Int)) true (f164_14 (IntKind.i64.wrap (f102_1 (0:Int) (4:Int) a)) (IntKind.u64.wrap (f102_1 (35:Int) (27:Int) a * (32:Int))) (IntKind.i64.wrap (f102_1 (4:Int) (6:Int) a)) (IntKind.i64.wrap (f102_1 (10:Int) (3:Int) a)) (IntKind.i64.wrap (f102_1 (13:Int) (6:Int) a)) (IntKind.i64.wrap (f102_1 (19:Int) (16:Int) a)) b != a)) (0:Int) (IntKind.i64.wrap (f102_1 (4:Int) (6:Int) a))
def f100_6 (a:Int) (b:Int) : Int := cnd (cnd (f164_16 (IntKind.i64.wrap (f102_1 (0:Int) (4:Int) a)) (IntKind.u64.wrap (f102_1 (35:Int) (27:Int) a * (32:Int))) (IntKind.i64.wrap (f102_1 (4:Int) (6:Int) a)) (IntKind.i64.wrap (f102_1 (10:Int) (3:Int) a)) (IntKind.i64.wrap (f102_1 (13:Int) (6:Int) a)) (IntKind.i64.wrap (f102_1 (19:Int) (16:Int) a)) b != (0:Int)) true (f164_14 (IntKind.i64.wrap (f102_1 (0:Int) (4:Int) a)) (IntKind.u64.wrap (f102_1 (35:Int) (27:Int) a * (32:Int))) (IntKind.i64.wrap (f102_1 (4:Int) (6:Int) a)) (IntKind.i64.wrap (f102_1 (10:Int) (3:Int) a)) (IntKind.i64.wrap (f102_1 (13:Int) (6:Int) a)) (IntKind.i64.wrap (f102_1 (19:Int) (16:Int) a)) b != a)) (0:Int) (IntKind.i64.wrap (f102_1 (10:Int) (3:Int) a))
def f100_7 (a:Int) (b:Int) : Int := cnd (cnd (f164_16 (IntKind.i64.wrap (f102_1 (0:Int) (4:Int) a)) (IntKind.u64.wrap (f102_1 (35:Int) (27:Int) a * (32:Int))) (IntKind.i64.wrap (f102_1 (4:Int) (6:Int) a)) (IntKind.i64.wrap (f102_1 (10:Int) (3:Int) a)) (IntKind.i64.wrap (f102_1 (13:Int) (6:Int) a)) (IntKind.i64.wrap (f102_1 (19:Int) (16:Int) a)) b != (0:Int)) true (f164_14 (IntKind.i64.wrap (f102_1 (0:Int) (4:Int) a)) (IntKind.u64.wrap (f102_1 (35:Int) (27:Int) a * (32:Int))) (IntKind.i64.wrap (f102_1 (4:Int) (6:Int) a)) (IntKind.i64.wrap (f102_1 (10:Int) (3:Int) a)) (IntKind.i64.wrap (f102_1 (13:Int) (6:Int) a)) (IntKind.i64.wrap (f102_1 (19:Int) (16:Int) a)) b != a)) (0:Int) (IntKind.i64.wrap (f102_1 (13:Int) (6:Int) a))
def f100_8 (a:Int) (b:Int) : Int := cnd (cnd (f164_16 (IntKind.i64.wrap (f102_1 (0:Int) (4:Int) a)) (IntKind.u64.wrap (f102_1 (35:Int) (27:Int) a * (32:Int))) (IntKind.i64.wrap (f102_1 (4:Int) (6:Int) a)) (IntKind.i64.wrap (f102_1 (10:Int) (3:Int) a)) (IntKind.i64.wrap (f102_1 (13:Int) (6:Int) a)) (IntKind.i64.wrap (f102_1 (19:Int) (16:Int) a)) b != (0:Int)) true (f164_14 (IntKind.i64.wrap (f102_1 (0:Int) (4:Int) a)) (IntKind.u64.wrap (f102_1 (35:Int) (27:Int) a * (32:Int))) (IntKind.i64.wrap (f102_1 (4:Int) (6:Int) a)) (IntKind.i64.wrap (f102_1 (10:Int) (3:Int) a)) (IntKind.i64.wrap (f102_1 (13:Int) (6:Int) a)) (IntKind.i64.wrap (f102_1 (19:Int) (16:Int) a)) b != a)) (0:Int) (IntKind.i64.wrap (f102_1 (19:Int) (16:Int) a))
def f100_9 (a:Int) (b:Int) : Int := cnd (cnd (f164_16 (IntKind.i64.wrap (f102_1 (0:Int) (4:Int) a)) (IntKind.u64.wrap (f102_1 (35:Int) (27:Int) a * (32:Int))) (IntKind.i64.wrap (f102_1 (4:Int) (6:Int) a)) (IntKind.i64.wrap (f102_1 (10:Int) (3:Int) a)) (IntKind.i64.wrap (f102_1 (13:Int) (6:Int) a)) (IntKind.i64.wrap (f102_1 (19:Int) (16:Int) a)) b != (0:Int)) true (f164_14 (IntKind.i64.wrap (f102_1 (0:Int) (4:Int) a)) (IntKind.u64.wrap (f102_1 (35:Int) (27:Int) a * (32:Int))) (IntKind.i64.wrap (f102_1 (4:Int) (6:Int) a)) (IntKind.i64.wrap (f102_1 (10:Int) (3:Int) a)) (IntKind.i64.wrap (f102_1 (13:Int) (6:Int) a)) (IntKind.i64.wrap (f102_1 (19:Int) (16:Int) a)) b != a)) (0:Int) b
def f100_10 (a:Int) (b:Int) : Int := cnd (cnd (f164_16 (IntKind.i64.wrap (f102_1 (0:Int) (4:Int) a)) (IntKind.u64.wrap (f102_1 (35:Int) (27:Int) a * (32:Int))) (IntKind.i64.wrap (f102_1 (4:Int) (6:Int) a)) (IntKind.i64.wrap (f102_1 (10:Int) (3:Int) a)) (IntKind.i64.wrap (f102_1 (13:Int) (6:Int) a)) (IntKind.i64.wrap (f102_1 (19:Int) (16:Int) a)) b != (0:Int)) true (f164_14 (IntKind.i64.wrap (f102_1 (0:Int) (4:Int) a)) (IntKind.u64.wrap (f102_1 (35:Int) (27:Int) a * (32:Int))) (IntKind.i64.wrap (f102_1 (4:Int) (6:Int) a)) (IntKind.i64.wrap (f102_1 (10:Int) (3:Int) a)) (IntKind.i64.wrap (f102_1 (13:Int) (6:Int) a)) (IntKind.i64.wrap (f102_1 (19:Int) (16:Int) a)) b != a)) (10:Int) (0:Int)
noncomputable def nice100 : List (Nat × CF th.R) := nice164
theorem nok100 : NiceOk Try.prog th nice100 := nok164
noncomputable def nice105 : List (Nat × CF th.R) := nice100
theorem nok105 : NiceOk Try.prog th nice105 := nok100
noncomputable def nice122 : List (Nat × CF th.R) := nice105
theorem nok122 : NiceOk Try.prog th nice122 := nok105
noncomputable def nice117 : List (Nat × CF th.R) := nice122
theorem nok117 : NiceOk Try.prog th nice117 := nok122
noncomputable def nice98 : List (Nat × CF th.R) := nice117
theorem nok98 : NiceOk Try.prog th nice98 := nok117
def us148 : List Un := [⟨173, [(2, 6)], [6]⟩, ⟨164, [(5, 7)], [15]⟩]
def f148_0 (w:Int) : Prop := (0:Int) ≤ (12:Int)
def f148_1 (w:Int) : Prop := (4096:Int) ≠ (0:Int)
def f148_2 (w:Int) : Prop := (8:Int) ≠ (0:Int)
def f148_3 (w:Int) : Int := w.fdiv (4096:Int)
def f148_4 (w:Int) : Int := IntKind.u64.wrap ((w.tmod (4096:Int)).tdiv (8:Int))
theorem n148_0 (w:Int) : f148_0 w := by
  simp only [f148_0, cnd_eq]
  grind (splits := 40)
theorem n148_1 (w:Int) : f148_1 w := by
  simp only [f148_1, cnd_eq]
  grind (splits := 40)
theorem n148_2 (w:Int) : f148_2 w := by
  simp only [f148_2, cnd_eq]
  grind (splits := 40)
def f148 : List SV → Option (Tr SV)
  | [.int .u64 w] => some (Tr.leaf (SV.tup [SV.int .u64 (f148_3 w), SV.int .u64 (f148_4 w)]))
  | _ => none
theorem s148 : Sound Try.prog th 148 (pureC f148) := pure_auto2 (us := us148) (nice := nice98) nok98 20 fun args t h => by
  unfold f148 at h
  split at h
  · rename_i w
    cases h
    refine ⟨(Tr.need (f148_0 w) (Tr.need (f148_1 w) (Tr.need (f148_2 w) (Tr.leaf (SV.tup [SV.int .u64 (f148_3 w), SV.int .u64 (f148_4 w)]))))), by kernel_rfl, fun ok => ?_, rfl⟩
    first
    | (simp only [Tr.ok, n148_0, n148_1, n148_2, true_and, and_true, forall_const, implies_true]; done)
    | (simp only [Tr.ok, n148_0, n148_1, n148_2, true_and, and_true, forall_const, implies_true]; done)
    | (simpa only [Tr.ok, n148_0, n148_1, n148_2, true_and, and_true, forall_const, implies_true] using ok; done)
    | (simp only [Tr.ok, n148_0, n148_1, n148_2, true_and, and_true, forall_const, implies_true] at ok ⊢; grind)
  · cases h
noncomputable def nice148 : List (Nat × CF th.R) := (148, pureC f148) :: nice98
theorem nok148 : NiceOk Try.prog th nice148 := ⟨s148, nok98⟩
noncomputable def nice30 : List (Nat × CF th.R) := nice148
theorem nok30 : NiceOk Try.prog th nice30 := nok148
def f107_1 (w:Int) : Bool := cnd (w.fdiv (4294967296:Int) == (0:Int)) (f125_0 w (5:Int)) false
noncomputable def nice107 : List (Nat × CF th.R) := nice30
theorem nok107 : NiceOk Try.prog th nice107 := nok30
noncomputable def nice180 : List (Nat × CF th.R) := nice107
theorem nok180 : NiceOk Try.prog th nice180 := nok107
noncomputable def nice178 : List (Nat × CF th.R) := nice180
theorem nok178 : NiceOk Try.prog th nice178 := nok180
end Go.Sx.M

namespace Go.Sx.M
open Go Go.Sx Go.Proofs Go.RowKit Go.Maps
theorem and7 {a : Int} (h0 : 0 ≤ a) (h1 : a < 18446744073709551616) : (Go.bits .and .u64 a 7 = 0) ↔ a % 8 = 0 := by
  have := f125_0
  obtain ⟨w, rfl⟩ : ∃ w : Nat, a = w := ⟨a.toNat, by omega⟩
  have e : (7:Int) = ((2 ^ 3 - 1:Nat):Int) := by decide
  rw [e, u64_and_nat w _ (by omega) (by decide), Nat.and_two_pow_sub_one_eq_mod]
  omega
def errI (size a:Int) : Int := if a % 8 = 0 then if size ≤ a then 12 else 0 else 13
theorem errI_ok {size a : Int} (h : a % 8 = 0) (h2 : a < size) : errI size a = 0 := by
  unfold errI; rw [if_pos h, if_neg (by omega)]
theorem errI_bad {size a : Int} (h : errI size a = 0) : a % 8 = 0 ∧ a < size := by
  unfold errI at h
  split at h
  · split at h
    · omega
    · omega
  · omega
theorem may_ok {b : Nat} {size a : Int} (w : World) (h0 : 0 ≤ a) (h1 : a < 18446744073709551616) (c0 : w.cell? ⟨b, 0, none⟩ = some (.int .u64 size)) :
    Calls Try.prog 145 #[.pointer (some ⟨b, 0, none⟩), .int .u64 a] w fun e w' => e = .returned (.int .i64 (errI size a)) ∧ w' = w := by
  unfold errI
  have key := and7 h0 h1
  generalize hq : Go.bits .and .u64 a 7 = q at key
  by_cases hz : q = 0 <;> by_cases hs : size ≤ a
  all_goals
    go_enter Try.func145, Try.ntmps145
    go_wp2
  all_goals (go_ret; refine ⟨?_, rfl⟩; simp_all)
theorem place_ok {a : Int} (w : World) (h0 : 0 ≤ a) (h1 : a < 18446744073709551616) :
    Calls Try.prog 148 #[.int .u64 a] w fun e w' => e = .returned (.tuple #[.int .u64 (a / 4096), .int .u64 (a % 4096 / 8)]) ∧ w' = w := by
  go_enter Try.func148, Try.ntmps148
  go_wp2
  go_ret2
  simp
theorem size_ok {b : Nat} {size : Int} (w : World) (c0 : w.cell? ⟨b, 0, none⟩ = some (.int .u64 size)) :
    Calls Try.prog 156 #[.pointer (some ⟨b, 0, none⟩)] w fun e w' => e = .returned (.int .u64 size) ∧ w' = w := by
  go_enter Try.func156, Try.ntmps156
  go_wp2
  go_ret
  exact ⟨rfl, rfl⟩
theorem read_err {b : Nat} {size a : Int} (w : World) (h0 : 0 ≤ a) (h1 : a < 18446744073709551616) (c0 : w.cell? ⟨b, 0, none⟩ = some (.int .u64 size)) (hne : errI size a ≠ 0) :
    Calls Try.prog 74 #[.pointer (some ⟨b, 0, none⟩), .int .u64 a] w fun e w' => e = .returned (.tuple #[.int .u64 0, .int .i64 (errI size a)]) ∧ w' = w := by
  have hmay := may_ok (size := size) w h0 h1 c0
  generalize errI size a = er at hmay hne ⊢
  go_enter Try.func74, Try.ntmps74
  go_wp2_with (first | (go_at_call 145; refine hmay.mono ?_; rintro e w' ⟨rfl, rfl⟩) | go_in)
  all_goals (go_ret2; exact ⟨rfl, rfl⟩)
theorem read_none {b mb : Nat} {size a : Int} (w : World) (h0 : 0 ≤ a) (h1 : a < 18446744073709551616) (c0 : w.cell? ⟨b, 0, none⟩ = some (.int .u64 size)) (c1 : w.cell? ⟨b, 1, none⟩ = some (.map (some mb))) (hz : errI size a = 0)
    (hlook : (Instr.lookup 185 (.map (some mb)) (.int .u64 (a / 4096)) true).run Try.prog w = .ok (.tuple #[.pointer none, .bool false]) w) :
    Calls Try.prog 74 #[.pointer (some ⟨b, 0, none⟩), .int .u64 a] w fun e w' => e = .returned (.tuple #[.int .u64 0, .int .i64 0]) ∧ w' = w := by
  have hmay := may_ok (size := size) w h0 h1 c0
  have hpl := place_ok (a := a) w h0 h1
  rw [hz] at hmay
  generalize a / 4096 = p at hpl hlook
  generalize a % 4096 / 8 = q at hpl
  go_enter Try.func74, Try.ntmps74
  go_wp2_with (first | (go_at_call 145; refine hmay.mono ?_; rintro e w' ⟨rfl, rfl⟩) | (go_at_call 148; refine hpl.mono ?_; rintro e w' ⟨rfl, rfl⟩) | go_in)
  all_goals (go_ret2; exact ⟨rfl, rfl⟩)
theorem read_some {b mb s : Nat} {size a x : Int} (w : World) (h0 : 0 ≤ a) (h1 : a < 18446744073709551616) (c0 : w.cell? ⟨b, 0, none⟩ = some (.int .u64 size)) (c1 : w.cell? ⟨b, 1, none⟩ = some (.map (some mb))) (hz : errI size a = 0)
    (hlook : (Instr.lookup 185 (.map (some mb)) (.int .u64 (a / 4096)) true).run Try.prog w = .ok (.tuple #[.pointer (some ⟨s, 0, none⟩), .bool true]) w)
    (cs : w.cell? ⟨s, (a % 4096 / 8).toNat, none⟩ = some (.int .u64 x)) :
    Calls Try.prog 74 #[.pointer (some ⟨b, 0, none⟩), .int .u64 a] w fun e w' => e = .returned (.tuple #[.int .u64 x, .int .i64 0]) ∧ w' = w := by
  have hmay := may_ok (size := size) w h0 h1 c0
  have hpl := place_ok (a := a) w h0 h1
  rw [hz] at hmay
  have hq0 : 0 ≤ a % 4096 / 8 := by omega
  have hq1 : a % 4096 / 8 < 512 := by omega
  generalize a / 4096 = p at hpl hlook
  generalize a % 4096 / 8 = q at hpl cs hq0 hq1
  obtain ⟨n, rfl⟩ : ∃ n : Nat, q = n := ⟨q.toNat, by omega⟩
  have cs : w.cell? ⟨s, n, none⟩ = some (.int .u64 x) := by simpa using cs
  have hn : n < 512 := by omega
  go_enter Try.func74, Try.ntmps74
  go_wp2_with (first | (go_at_call 145; refine hmay.mono ?_; rintro e w' ⟨rfl, rfl⟩) | (go_at_call 148; refine hpl.mono ?_; rintro e w' ⟨rfl, rfl⟩) | go_in)
  all_goals (go_ret2; first | exact ⟨rfl, rfl⟩ | trace_state)
end Go.Sx.M

namespace Go.Sx.M
open Go Go.Sx Go.Proofs Go.RowKit Go.Maps
theorem put_some {b mb s : Nat} {a x y : Int} (w : World) (h0 : 0 ≤ a) (h1 : a < 18446744073709551616) (c1 : w.cell? ⟨b, 1, none⟩ = some (.map (some mb)))
    (hlook : (Instr.lookup 185 (.map (some mb)) (.int .u64 (a / 4096)) true).run Try.prog w = .ok (.tuple #[.pointer (some ⟨s, 0, none⟩), .bool true]) w)
    (cs : w.cell? ⟨s, (a % 4096 / 8).toNat, none⟩ = some (.int .u64 y)) (fs : w.frozen? ⟨s, (a % 4096 / 8).toNat, none⟩ = false) :
    Calls Try.prog 146 #[.pointer (some ⟨b, 0, none⟩), .int .u64 a, .int .u64 x] w fun e w' => e = .returned (.tuple #[]) ∧ w' = w.setCell ⟨s, (a % 4096 / 8).toNat, none⟩ (.int .u64 x) := by
  have hpl := place_ok (a := a) w h0 h1
  have hq0 : 0 ≤ a % 4096 / 8 := by omega
  have hq1 : a % 4096 / 8 < 512 := by omega
  generalize a / 4096 = p at hpl hlook
  generalize a % 4096 / 8 = q at hpl cs fs hq0 hq1
  obtain ⟨n, rfl⟩ : ∃ n : Nat, q = n := ⟨q.toNat, by omega⟩
  have cs : w.cell? ⟨s, n, none⟩ = some (.int .u64 y) := by simpa using cs
  have fs : w.frozen? ⟨s, n, none⟩ = false := by simpa using fs
  have hn : n < 512 := by omega
  simp only [Int.toNat_natCast]
  go_enter Try.func146, Try.ntmps146
  go_wp2_with (first | (go_at_call 148; refine hpl.mono ?_; rintro e w' ⟨rfl, rfl⟩) | go_in)
  all_goals (go_end0; first | exact ⟨rfl, rfl⟩ | trace_state)
theorem put_zero {b mb : Nat} {a : Int} (w : World) (h0 : 0 ≤ a) (h1 : a < 18446744073709551616) (c1 : w.cell? ⟨b, 1, none⟩ = some (.map (some mb)))
    (hlook : (Instr.lookup 185 (.map (some mb)) (.int .u64 (a / 4096)) true).run Try.prog w = .ok (.tuple #[.pointer none, .bool false]) w) :
    Calls Try.prog 146 #[.pointer (some ⟨b, 0, none⟩), .int .u64 a, .int .u64 0] w fun e w' => e = .returned (.tuple #[]) ∧ w' = w := by
  have hpl := place_ok (a := a) w h0 h1
  generalize a / 4096 = p at hpl hlook
  generalize a % 4096 / 8 = q at hpl
  go_enter Try.func146, Try.ntmps146
  go_wp2_with (first | (go_at_call 148; refine hpl.mono ?_; rintro e w' ⟨rfl, rfl⟩) | go_in)
  all_goals (go_end0; first | exact ⟨rfl, rfl⟩ | trace_state)
theorem law22 : Keyed Try.prog 22 := int_keyed Try.underlying22
theorem rel_noughts : ∀ (n:Nat) (l : List Value), RelL [] (List.replicate n (SV.int .u64 0)) l → l = List.replicate n (Value.int .u64 0)
  | 0, l, h => by simpa [RelL] using h
  | n + 1, l, h => by
    obtain ⟨y, ys, rfl, h1, h2⟩ := h
    have h1 : y = .int .u64 0 := h1
    rw [h1, rel_noughts n ys h2]; rfl
theorem sheet0 : ∃ zs : Array Value, (∀ w, (Instr.alloc 193 true (.tuple #[])).run Try.prog w = .ok (.pointer (some ⟨w.heap.size, 0, none⟩)) (w.alloc (.cells zs 193))) ∧ (∀ n : Nat, n < 512 → zs[n]? = some (.int .u64 0)) ∧
    ∀ n v, zs.setIfInBounds n v = ((List.replicate 512 (.int .u64 0)).set n v).toArray := by
  have hz : zeroCellsOf Try.prog 193 = some ((List.replicate 512 (SV.int .u64 0))) := by kernel_rfl
  generalize 512 = N at hz ⊢
  refine ⟨(List.replicate N (Value.int .u64 0)).toArray, fun w => ?_, fun n hn => ?_, fun n v => ?_⟩
  · obtain ⟨z, e1, k1⟩ := zeroCellsOf_sound hz [] w
    have e2 : z.cells = (List.replicate N (Value.int .u64 0)).toArray := by rw [← rel_noughts _ _ k1]
    rw [← e2]
    simp [Instr.alloc, e1, newVar, newRow]
  · simp [hn]
  · apply Array.toList_inj.1; simp
theorem wpList_alloc193 {P : Program} {w : World} {ops : Array Oper} {rest : List Oper} {d ty : Nat} {pos : String} {after : Array Edge} {a : Act} {Q : Exit → Act → World → Prop} {zs : Array Value}
    (hal : ∀ w, (Instr.alloc 193 true (.tuple #[])).run P w = .ok (.pointer (some ⟨w.heap.size, 0, none⟩)) (w.alloc (.cells zs 193)))
    (hK : wpList P ops Q rest (a.put (some d) (.pointer (some ⟨w.heap.size, 0, none⟩))) (w.alloc (.cells zs 193))) :
    wpList P ops Q ({ dst := some d, op := Op.alloc 193, type := ty, pos := pos, after := after, guard := none } :: rest) a w := by
  refine wpList_plain rfl fun K' hK' => ?_
  unfold Oper.wp
  simp [execOp, hal, Result.andThen]
  exact hK' _ _ hK
set_option maxRecDepth 100000 in
theorem put_none {b mb : Nat} {a x : Int} {D : DataW Unit} {zs : Array Value} (hal : ∀ w, (Instr.alloc 193 true (.tuple #[])).run Try.prog w = .ok (.pointer (some ⟨w.heap.size, 0, none⟩)) (w.alloc (.cells zs 193))) (hzn : ∀ n : Nat, n < 512 → zs[n]? = some (.int .u64 0))
    (w : World) (h0 : 0 ≤ a) (h1 : a < 18446744073709551616) (hx : x ≠ 0) (c1 : w.cell? ⟨b, 1, none⟩ = some (.map (some mb)))
    (hlook : (Instr.lookup 185 (.map (some mb)) (.int .u64 (a / 4096)) true).run Try.prog w = .ok (.tuple #[.pointer none, .bool false]) w) {n0 : Nat} (hown : w.ownsMap Try.prog 22 ptrElem mb n0 D) (hn0 : n0 < maxLen) (hb : b < w.heap.size) (hmb : mb < w.heap.size) (hbm : b ≠ mb)
    (hw : (Lit.int .u64 (a / 4096)).wf = true) :
    Calls Try.prog 146 #[.pointer (some ⟨b, 0, none⟩), .int .u64 a, .int .u64 x] w fun e w' => e = .returned (.tuple #[]) ∧ 
      w'.heap[w.heap.size]? = some (.cells (zs.setIfInBounds (a % 4096 / 8).toNat (.int .u64 x)) 193 (0, 0)) ∧ (∀ i, i < w.heap.size → i ≠ mb → w'.heap[i]? = w.heap[i]?) ∧
      w'.ownsMap Try.prog 22 ptrElem mb (n0 + 1) (D.put (.int .u64 (a / 4096)) (.lit (.int .i64 (w.heap.size:Nat)))) ∧ Turns (fun i => i = mb) w w' := by
  have hpl := place_ok (a := a) w h0 h1
  have hq0 : 0 ≤ a % 4096 / 8 := by omega
  have hq1 : a % 4096 / 8 < 512 := by omega
  generalize a / 4096 = p at hpl hlook hw ⊢
  generalize a % 4096 / 8 = q at hpl hq0 hq1 ⊢
  obtain ⟨n, rfl⟩ : ∃ n : Nat, q = n := ⟨q.toNat, by omega⟩
  have hn : n < 512 := by omega
  simp only [Int.toNat_natCast]
  have hkey := keyOf_int_mk Try.underlying22 hw
  have hzn := hzn n hn
  go_enter Try.func146, Try.ntmps146
  go_wp2_with (first | (go_at_call 148; refine hpl.mono ?_; rintro e w' ⟨rfl, rfl⟩) | (with_reducible refine wpList_alloc193 hal ?_) | (at_mapUpdate; go_loud (refine wpList_mapUpdate_in _ rfl _ _ _ 185 rfl 22 190 law22 Try.underlying185 _ mb n0 D rfl (hown.alloc _) hn0 _ _ _ rfl rfl hkey _ [] rfl ?_); intro w1 hown1 hturn1) | go_in)
  go_end0
  have hg := hturn1.grown
  have hf := hturn1.frozen
  generalize hw2 : w'.alloc _ = w2 at hg hf hown1
  have b2 : ∀ i, i < w'.heap.size → w2.heap[i]? = w'.heap[i]? := fun i hi => by
    rw [← hw2, Below.heap_alloc _ _ _ hi]
  have sz2 : w2.heap.size = w'.heap.size + 1 := by rw [← hw2]; exact Array.size_push ..
  refine ⟨rfl, ?_, fun i hi hne => ?_, hown1, ?_⟩
  · rw [hg.block _ (by omega) (by simp; omega), ← hw2]
    exact (MapKept.heap_alloc _ _).1
  · rw [hg.block _ (by omega) (by simpa using hne), b2 i hi]
  · refine ⟨?_, ?_, ?_, by have := hg.size; omega, fun i hi hne => ?_, fun c => ?_⟩
    · rw [hg.os, ← hw2]; rfl
    · rw [hg.tape, ← hw2]; rfl
    · rw [hg.output, ← hw2]; rfl
    · rw [hg.block _ (by omega) (by simpa using hne), b2 i hi]
    · rw [hf, ← hw2, frozen?_alloc_cells]
end Go.Sx.M

namespace Go.Sx.M
open Go Go.Sx Go.Proofs Go.RowKit Go.Maps
theorem and4095 {a : Int} (h0 : 0 ≤ a) (h1 : a < 18446744073709551616) : (Go.bits .and .u64 a 4095 = 0) ↔ a % 4096 = 0 := by
  obtain ⟨w, rfl⟩ : ∃ w : Nat, a = w := ⟨a.toNat, by omega⟩
  have e : (4095:Int) = ((2 ^ 12 - 1:Nat):Int) := by decide
  rw [e, u64_and_nat w _ (by omega) (by decide), Nat.and_two_pow_sub_one_eq_mod]
  omega
def sizeOk (a:Int) : Prop := 65536 ≤ a ∧ a ≤ 4294967296 ∧ a % 4096 = 0
instance (a:Int) : Decidable (sizeOk a) := by unfold sizeOk; infer_instance
theorem new_good {a : Int} (w : World) (hn : sizeOk a) :
    Calls Try.prog 71 #[.int .u64 a] w fun e w' => e = .returned (.tuple #[.pointer (some ⟨w.heap.size + 1, 0, none⟩), .int .i64 0]) ∧
      w' = (w.alloc (.map #[] 0)).alloc (.cells #[.int .u64 a, .map (some w.heap.size)] 187) := by
  obtain ⟨g1, g2, g3⟩ := hn
  have key := and4095 (a := a) (by omega) (by omega)
  generalize hq : Go.bits .and .u64 a 4095 = q at key
  have hz : q = 0 := key.2 g3
  subst hz
  have hmm := @run_makeMap Try.prog
  go_enter Try.func71, Try.ntmps71
  go_wp2
  go_ret2
  exact ⟨rfl, rfl⟩
end Go.Sx.M

namespace Go.Sx.M
open Go Go.Sx Go.Proofs Go.RowKit
noncomputable def nice46 : List (Nat × CF th.R) := nice178
theorem nok46 : NiceOk Try.prog th nice46 := nok178
def f34_0 (k:Int) (a:Int) (b:Int) (r:Int) (g:Int) (s:Int) (m:Int) (x:Int) (p:Int) (d:Int) : Bool := cnd (cnd (cnd (cnd (f45_1 k a b r g s m) (f107_1 x) false) (f107_1 p) false) (decide (d ≥ (0:Int))) false) (decide (d ≤ (4096:Int))) false
noncomputable def nice34 : List (Nat × CF th.R) := nice46
theorem nok34 : NiceOk Try.prog th nice34 := nok46
noncomputable def nice31 : List (Nat × CF th.R) := nice34
theorem nok31 : NiceOk Try.prog th nice31 := nok34
def f104_2 (k:Int) (a:Int) (b:Int) (r:Int) (g:Int) (s:Int) (m:Int) (x:Int) (p:Int) (d:Int) : Int := f164_14 k a b r g s m
def f104_3 (k:Int) (a:Int) (b:Int) (r:Int) (g:Int) (s:Int) (m:Int) (x:Int) (p:Int) (d:Int) : Int := f164_15 k a b r g s m
def f104_4 (k:Int) (a:Int) (b:Int) (r:Int) (g:Int) (s:Int) (m:Int) (x:Int) (p:Int) (d:Int) : Int := Go.bits Go.BinOp.or IntKind.u64 (x.fdiv (32:Int)) (IntKind.u64.wrap (p.fdiv (32:Int) * (4294967296:Int)))
def f104_5 (k:Int) (a:Int) (b:Int) (r:Int) (g:Int) (s:Int) (m:Int) (x:Int) (p:Int) (d:Int) : Int := IntKind.u64.wrap d
noncomputable def nice104 : List (Nat × CF th.R) := nice31
theorem nok104 : NiceOk Try.prog th nice104 := nok31
noncomputable def nice92 : List (Nat × CF th.R) := nice104
theorem nok92 : NiceOk Try.prog th nice92 := nok104
noncomputable def nice93 : List (Nat × CF th.R) := nice92
theorem nok93 : NiceOk Try.prog th nice93 := nok92
noncomputable def nice33 : List (Nat × CF th.R) := nice93
theorem nok33 : NiceOk Try.prog th nice33 := nok93
end Go.Sx.M

namespace Go.Sx.M
open Go Go.Sx Go.Proofs Go.RowKit Go.Maps
set_option maxRecDepth 10000
def szM (M : Mem) : Int := M.size
def rdM (M : Mem) (a:Int) : Int := M.W a
def wrM (M : Mem) (a x:Int) : Mem := ⟨M.size, cnd (decide (errI M.size a = 0)) (upd M.W a x) M.W⟩
def newM (a:Int) : Mem := ⟨a, fun _ => 0⟩
theorem open_mem {K : Nat → Prop} {w0 w : World} {ρ : Env} {M : Mem} (I : Inv th K w0 ρ [.res M] w) {l : Loc} (hl : ρ[0]? = some l) :
    ∃ mb D S, l.off = 0 ∧ MemAt Try.prog 187 193 22 M l.blk w mb D S ∧ w.cell? ⟨l.blk, 0, none⟩ = some (.int .u64 M.size) ∧ w.cell? ⟨l.blk, 1, none⟩ = some (.map (some mb)) := by
  obtain ⟨l', F, hl', ⟨h0, mb, D, S, h, hf⟩, _, _⟩ := I.opens (n := 0) (o := .res M) rfl
  rw [hl] at hl'; cases hl'
  exact ⟨mb, D, S, h0, h, by simp [World.cell?, h.cells], by simp [World.cell?, h.cells]⟩
theorem zero190 (w : World) : (zeroValue 190).run Try.prog w = .ok (.pointer none) w := by kernel_rfl
theorem wf64 {a : Int} (h0 : 0 ≤ a) (h1 : a < 18446744073709551616) : (Lit.int .u64 a).wf = true := by
  simp only [Lit.wf, Bool.and_eq_true, decide_eq_true_eq]
  have e1 : IntKind.u64.min = 0 := by decide +kernel
  have e2 : IntKind.u64.max = 18446744073709551615 := by decide +kernel
  rw [e1, e2]; omega
theorem look_mem {w : World} {M : Mem} {b mb : Nat} {D : DataW Unit} {S : Int → Option Nat} (h : MemAt Try.prog 187 193 22 M b w mb D S) {p : Int} (h0 : 0 ≤ p) (h1 : p < 18446744073709551616) :
    (Instr.lookup 185 (.map (some mb)) (.int .u64 p) true).run Try.prog w = .ok (.tuple #[.pointer ((S p).map fun s => ⟨s, 0, none⟩), .bool (S p).isSome]) w :=
  h.look law22 Try.underlying185 Try.underlying22 (zero190 w) (wf64 h0 h1)
theorem cell_sheet {w : World} {M : Mem} {b mb : Nat} {D : DataW Unit} {S : Int → Option Nat} (h : MemAt Try.prog 187 193 22 M b w mb D S) {a : Int} (h8 : a % 8 = 0) {s : Nat} (hs : S (a / 4096) = some s) :
    w.cell? ⟨s, (a % 4096 / 8).toNat, none⟩ = some (.int .u64 (M.W a)) ∧ w.frozen? ⟨s, (a % 4096 / 8).toNat, none⟩ = false := by
  have hd := h.data _ s hs
  have hlt : (a % 4096 / 8).toNat < 512 := by omega
  have hg := sheet_get M.W (a / 4096) hlt
  rw [show a / 4096 * 4096 + 8 * (((a % 4096 / 8).toNat:Nat):Int) = a by omega] at hg
  refine ⟨?_, ?_⟩
  · unfold World.cell?
    simp only [hd, List.getElem?_toArray, hg]
    rfl
  · unfold World.frozen?
    simp only [hd]
    simp
/-! ### Read -/
structure V74 where
  at_ : Int
  M : th.R
def A74 (v : V74) : List SV := [.ptr 0 0, .int .u64 v.at_]
def H74 (v : V74) : List (HO th.R) := [.res v.M]
def toV74 (v : V74) : List (Vl th.R) := [.i v.at_, .r v.M]
def ofV74 : List (Vl th.R) → Option V74
  | [.i a, .r M] => some ⟨a, M⟩
  | _ => none
def d74 : Ft := ⟨[.ptr 0 0, .int .u64], [.res]⟩
noncomputable def f74 (v : V74) : Tr (Fin th.R) := .need (0 ≤ v.at_ ∧ v.at_ < 18446744073709551616) (.leaf (.tup [.int .u64 (rdM v.M v.at_), .int .i64 (errI (szM v.M) v.at_)], [.res v.M], []))
theorem s74 : Sound Try.prog th 74 (fnC d74 ofV74 f74) := by
  refine fnC_direct (T := th) d74 A74 H74 toV74 (by kernel_rfl) (fun v => by kernel_rfl) ?_ ?_ (fun v _ => Nat.le_refl _) (fun v _ n hn _ => ?_)
  · intro l v h
    unfold ofV74 at h
    split at h
    · cases h; rfl
    · cases h
  · intro v hok K w0 ρ w vargs I hr
    obtain ⟨⟨g0, g1⟩, _⟩ := hok
    obtain ⟨x, xs, rfl, ⟨l, hl, rfl⟩, y, ys, rfl, hy, hys⟩ := hr
    have hy : y = .int .u64 v.at_ := hy
    have hys : ys = [] := hys
    subst hy hys
    obtain ⟨mb, D, S, h0, h, c0, c1⟩ := open_mem I hl
    rw [show l.off + 0 = 0 by omega]
    have hfin : ∀ (x:Int), x = rdM v.M v.at_ → ∀ e w', (e = Ending.returned (.tuple #[.int .u64 x, .int .i64 (errI v.M.size v.at_)]) ∧ w' = w) →
        ∃ ρ' cv, e = .returned cv ∧ Pre ρ ρ' ∧ Inv th K w0 ρ' (f74 v).get.2.1 w' ∧ Rel ρ' (f74 v).get.1 cv := by
      rintro x rfl e w' ⟨rfl, rfl⟩
      exact ⟨ρ, _, rfl, Pre.refl _, I, [_, _], rfl, _, _, rfl, rfl, _, _, rfl, rfl, rfl⟩
    by_cases he : errI v.M.size v.at_ = 0
    · obtain ⟨h8, hlt⟩ := errI_bad he
      have hlk := look_mem h (p := v.at_ / 4096) (by omega) (by omega)
      cases hS : S (v.at_ / 4096) with
      | none =>
        rw [hS] at hlk
        have := read_none w g0 g1 c0 c1 he hlk
        exact this.mono fun e w' hh => hfin 0 (h.word hS).symm e w' (by rw [he]; exact hh)
      | some s =>
        rw [hS] at hlk
        have := read_some w g0 g1 c0 c1 he hlk (cell_sheet h h8 hS).1
        exact this.mono fun e w' hh => hfin _ rfl e w' (by rw [he]; exact hh)
    · refine (read_err w g0 g1 c0 he).mono (hfin 0 ?_)
      show 0 = v.M.W v.at_
      refine Eq.symm (Decidable.byContradiction fun e => he ?_)
      have := h.ok.dom _ e
      exact errI_ok this.2.2 this.2.1
  · rfl
/-! ### Size -/
structure V156 where
  M : th.R
def A156 (v : V156) : List SV := [.ptr 0 0]
def H156 (v : V156) : List (HO th.R) := [.res v.M]
def toV156 (v : V156) : List (Vl th.R) := [.r v.M]
def ofV156 : List (Vl th.R) → Option V156
  | [.r M] => some ⟨M⟩
  | _ => none
def d156 : Ft := ⟨[.ptr 0 0], [.res]⟩
noncomputable def f156 (v : V156) : Tr (Fin th.R) := .leaf (.int .u64 (szM v.M), [.res v.M], [])
theorem s156 : Sound Try.prog th 156 (fnC d156 ofV156 f156) := by
  refine fnC_direct (T := th) d156 A156 H156 toV156 (by kernel_rfl) (fun v => by kernel_rfl) ?_ ?_ (fun v _ => Nat.le_refl _) (fun v _ n hn _ => rfl)
  · intro l v h
    unfold ofV156 at h
    split at h
    · cases h; rfl
    · cases h
  · intro v hok K w0 ρ w vargs I hr
    obtain ⟨x, xs, rfl, ⟨l, hl, rfl⟩, hxs⟩ := hr
    have hxs : xs = [] := hxs
    subst hxs
    obtain ⟨mb, D, S, h0, h, c0, c1⟩ := open_mem I hl
    rw [show l.off + 0 = 0 by omega]
    refine (size_ok w c0).mono ?_
    rintro e w' ⟨rfl, rfl⟩
    exact ⟨ρ, _, rfl, Pre.refl _, I, rfl⟩
/-! ### Write -/
theorem sheet_cells {w : World} {s n : Nat} {c : Array Value} {t : Nat} {v : Value} (h : w.heap[s]? = some (.cells c t (0, 0))) : (w.setCell ⟨s, n, none⟩ v).heap[s]? = some (.cells (c.setIfInBounds n v) t (0, 0)) := by
  unfold World.setCell
  simp [Array.getElem?_modify, h]
theorem write_good {w : World} {b : Nat} {a x : Int} (hmay : Calls Try.prog 145 #[.pointer (some ⟨b, 0, none⟩), .int .u64 a] w fun e w' => e = .returned (.int .i64 0) ∧ w' = w)
    {Q' : World → Prop} (hput : Calls Try.prog 146 #[.pointer (some ⟨b, 0, none⟩), .int .u64 a, .int .u64 x] w fun e w' => e = .returned (.tuple #[]) ∧ Q' w') :
    Calls Try.prog 72 #[.pointer (some ⟨b, 0, none⟩), .int .u64 a, .int .u64 x] w fun e w' => e = .returned (.int .i64 0) ∧ Q' w' := by
  go_enter Try.func72, Try.ntmps72
  go_wp2_with (first | (go_at_call 145; refine hmay.mono ?_; rintro e w' ⟨rfl, rfl⟩) | (go_at_call 146; refine hput.mono ?_; rintro e w' ⟨rfl, hq⟩) | go_in)
  go_ret
  exact ⟨rfl, hq⟩
theorem write_bad {w : World} {b : Nat} {a x : Int} {er : Int} (hmay : Calls Try.prog 145 #[.pointer (some ⟨b, 0, none⟩), .int .u64 a] w fun e w' => e = .returned (.int .i64 er) ∧ w' = w) (hne : er ≠ 0) :
    Calls Try.prog 72 #[.pointer (some ⟨b, 0, none⟩), .int .u64 a, .int .u64 x] w fun e w' => e = .returned (.int .i64 er) ∧ w' = w := by
  go_enter Try.func72, Try.ntmps72
  go_wp2_with (first | (go_at_call 145; refine hmay.mono ?_; rintro e w' ⟨rfl, rfl⟩) | go_in)
  all_goals (go_ret; exact ⟨rfl, rfl⟩)
theorem write_calls {w : World} {b : Nat} {a x : Int} {er : Int} {Q : Ending → World → Prop} (hmay : Calls Try.prog 145 #[.pointer (some ⟨b, 0, none⟩), .int .u64 a] w fun e w' => e = .returned (.int .i64 er) ∧ w' = w)
    (hbad : er ≠ 0 → Q (.returned (.int .i64 er)) w) {Q' : World → Prop} (hput : er = 0 → Calls Try.prog 146 #[.pointer (some ⟨b, 0, none⟩), .int .u64 a, .int .u64 x] w fun e w' => e = .returned (.tuple #[]) ∧ Q' w')
    (hgood : er = 0 → ∀ w', Q' w' → Q (.returned (.int .i64 0)) w') : Calls Try.prog 72 #[.pointer (some ⟨b, 0, none⟩), .int .u64 a, .int .u64 x] w Q := by
  by_cases he : er = 0
  · subst he
    exact (write_good hmay (hput rfl)).mono fun e w' h => by rw [h.1]; exact hgood rfl w' h.2
  · exact (write_bad hmay he).mono fun e w' h => by rw [h.1, h.2]; exact hbad he
structure V72 where
  at_ : Int
  x : Int
  M : th.R
def A72 (v : V72) : List SV := [.ptr 0 0, .int .u64 v.at_, .int .u64 v.x]
def H72 (v : V72) : List (HO th.R) := [.res v.M]
def toV72 (v : V72) : List (Vl th.R) := [.i v.at_, .i v.x, .r v.M]
def ofV72 : List (Vl th.R) → Option V72
  | [.i a, .i x, .r M] => some ⟨a, x, M⟩
  | _ => none
def d72 : Ft := ⟨[.ptr 0 0, .int .u64, .int .u64], [.res]⟩
noncomputable def f72 (v : V72) : Tr (Fin th.R) := .need ((0 ≤ v.at_ ∧ v.at_ < 18446744073709551616) ∧ 0 ≤ v.x ∧ v.x < 18446744073709551616) (.leaf (.int .i64 (errI (szM v.M) v.at_), [.res (wrM v.M v.at_ v.x)], [0]))
theorem s72 : Sound Try.prog th 72 (fnC d72 ofV72 f72) := by
  refine fnC_direct (T := th) d72 A72 H72 toV72 (by kernel_rfl) (fun v => by kernel_rfl) ?_ ?_ (fun v _ => Nat.le_refl _) (fun v _ n hn hd => ?_)
  · intro l v h
    unfold ofV72 at h
    split at h
    · cases h; rfl
    · cases h
  · intro v hok K w0 ρ w vargs I hr
    obtain ⟨⟨⟨g0, g1⟩, x0, x1⟩, _⟩ := hok
    obtain ⟨_, _, rfl, ⟨l, hl, rfl⟩, y, ys, rfl, hy, z, zs, rfl, hz, hzs⟩ := hr
    have hy : y = .int .u64 v.at_ := hy
    have hz : z = .int .u64 v.x := hz
    have hzs : zs = [] := hzs
    subst hy hz hzs
    obtain ⟨l', F, hl', ⟨h0, mb, D, S, h, hf⟩, hF, hcl⟩ := I.opens (n := 0) (o := .res v.M) rfl
    rw [hl] at hl'; cases hl'
    have c0 : w.cell? ⟨l.blk, 0, none⟩ = some (.int .u64 (Mem.size v.M)) := by simp [World.cell?, h.cells]
    have c1 : w.cell? ⟨l.blk, 1, none⟩ = some (.map (some mb)) := by simp [World.cell?, h.cells]
    rw [show l.off + 0 = 0 by omega]
    have fin : ∀ (M' : Mem) (w' : World) (er:Int), er = errI (Mem.size v.M) v.at_ → wrM v.M v.at_ v.x = M' → Inv th K w0 ρ [.res M'] w' → ∃ ρ' cv, Ending.returned (.int .i64 er) = .returned cv ∧ Pre ρ ρ' ∧ Inv th K w0 ρ' (f72 v).get.2.1 w' ∧ Rel ρ' (f72 v).get.1 cv := by
      rintro M' w' er rfl rfl I'
      exact ⟨ρ, _, rfl, Pre.refl _, I', rfl⟩
    refine write_calls (Q' := fun w' => Inv th K w0 ρ [.res (⟨Mem.size v.M, upd (Mem.W v.M) v.at_ v.x⟩ : Mem)] w') (may_ok (size := Mem.size v.M) w g0 g1 c0) ?_ ?_ ?_
    · intro he
      refine fin v.M w _ rfl ?_ I
      show wrM v.M v.at_ v.x = v.M
      unfold wrM
      rw [decide_eq_false he]; rfl
    · intro he
      obtain ⟨h8, hlt⟩ := errI_bad he
      have hlk := look_mem h (p := v.at_ / 4096) (by omega) (by omega)
      have hblt : l.blk < w.heap.size := (Array.getElem?_eq_some_iff.1 h.cells).1
      cases hS : S (v.at_ / 4096) with
      | some s =>
        rw [hS] at hlk
        have hc := cell_sheet h h8 hS
        have hd := h.data _ s hS
        refine (put_some (x := v.x) w g0 g1 c1 hlk hc.1 hc.2).mono ?_
        rintro e w' ⟨rfl, rfl⟩
        refine ⟨rfl, hcl _ _ F (Turns.setCell w ⟨s, _, none⟩ _ ((hf s).2 (.inr (.inr ⟨_, hS⟩)))) (fun i hi => .inl hi) ⟨h0, mb, D, S, ?_, hf⟩⟩
        refine h.put_old g0 hlt h8 ⟨x0, x1⟩ hS ?_ fun i hi => Below.heap_setCell _ _ _ _ hi
        rw [sheet_cells hd]
        simp
      | none =>
        rw [hS] at hlk
        by_cases hx : v.x = 0
        · have hu : upd (Mem.W v.M) v.at_ v.x = Mem.W v.M := by
            funext i
            by_cases e : i = v.at_
            · rw [e, upd_same, hx]; exact (h.word hS).symm
            · exact upd_other e
          rw [hu, hx]
          refine (put_zero w g0 g1 c1 hlk).mono ?_
          rintro e w' ⟨rfl, rfl⟩
          exact ⟨rfl, I⟩
        · obtain ⟨zs, hal, hzn, hzset⟩ := sheet0
          have hsm := h.small law22
          refine (put_none (x := v.x) hal hzn w g0 g1 hx c1 hlk h.map (by unfold maxLen; omega) hblt h.map.lt h.apart.1 (wf64 (by omega) (by omega))).mono ?_
          rintro e w' ⟨rfl, q1, q2, q3, q4⟩
          have hnew := h.put_new g0 hlt h8 ⟨x0, x1⟩ hS (Nat.le_refl _) (by rw [q1, hzset]) q2 q3 law22
          have hwlt : w.heap.size < w'.heap.size := (Array.getElem?_eq_some_iff.1 q1).1
          refine ⟨rfl, hcl _ _ (fun i => F i ∨ i = w.heap.size) (q4.mono fun i _ e => (hf i).2 (.inr (.inl e))) (fun i hi => hi.imp id fun e => ⟨by omega, by omega⟩) ⟨h0, mb, _, _, hnew, fun i => ?_⟩⟩
          show F i ∨ i = w.heap.size ↔ _
          rw [hf i]
          constructor
          · rintro ((e | e | ⟨p, e⟩) | e)
            · exact .inl e
            · exact .inr (.inl e)
            · refine .inr (.inr ⟨p, ?_⟩)
              have : p ≠ v.at_ / 4096 := fun e2 => by rw [e2, hS] at e; cases e
              rw [if_neg this]; exact e
            · exact .inr (.inr ⟨v.at_ / 4096, by rw [if_pos rfl, e]⟩)
          · rintro (e | e | ⟨p, e⟩)
            · exact .inl (.inl e)
            · exact .inl (.inr (.inl e))
            · by_cases e2 : p = v.at_ / 4096
              · rw [if_pos e2] at e; cases e; exact .inr rfl
              · rw [if_neg e2] at e; exact .inl (.inr (.inr ⟨p, e⟩))
    · intro he w' I'
      refine fin _ w' 0 he.symm ?_ I'
      unfold wrM
      rw [decide_eq_true he]; rfl
  · have hn : n < 1 := hn
    have : n = 0 := by omega
    subst this
    exact absurd List.mem_cons_self hd
/-! ### New -/
theorem ok_new {a : Int} (h : sizeOk a) : MemOk (newM a) := ⟨h.1, h.2.1, h.2.2, fun _ e => absurd rfl e, fun _ => ⟨Int.le_refl _, by show (0:Int) < _; decide⟩⟩
theorem inv_new {K : Nat → Prop} {w0 w : World} {ρ : Env} {hp : List (HO th.R)} (I : Inv th K w0 ρ hp w) {a : Int} (h : sizeOk a) :
    Inv th K w0 (ρ ++ [⟨w.heap.size + 1, 0, false, 0⟩]) (hp ++ [.res (newM a)]) ((w.alloc (.map #[] 0)).alloc (.cells #[.int .u64 a, .map (some w.heap.size)] 187)) := by
  have s1 : (w.alloc (.map #[] 0)).heap.size = w.heap.size + 1 := Array.size_push ..
  have s2 : ((w.alloc (.map #[] 0)).alloc (.cells #[.int .u64 a, .map (some w.heap.size)] 187)).heap.size = w.heap.size + 2 := by
    show (Array.push _ _).size = _
    rw [Array.size_push, s1]
  have hm : ((w.alloc (.map #[] 0)).alloc (.cells #[.int .u64 a, .map (some w.heap.size)] 187)).ownsMap (H := Unit) Try.prog 22 ptrElem w.heap.size 0 (.map []) := (World.ownsMap_made w Try.prog 22 ptrElem).alloc _
  refine I.news ⟨w.heap.size + 1, 0, false, 0⟩ _ (fun i => i = w.heap.size ∨ i = w.heap.size + 1) ?_ (fun i hi => ?_) ?_
  · refine ⟨rfl, rfl, rfl, by omega, fun i hi _ => ?_, fun c => ?_⟩
    · rw [Below.heap_alloc _ _ _ (by omega), Below.heap_alloc _ _ _ hi]
    · rw [frozen?_alloc_cells, frozen?_alloc_map]
  · omega
  · refine ⟨rfl, w.heap.size, .map [], fun _ => none, ⟨ok_new h, ?_, hm, (fun p _ => rfl), (fun p s e => by cases e), (fun kl e => by cases e), (fun p q s e => by cases e), ⟨(by show w.heap.size + 1 ≠ _; omega), (fun p s e => by cases e)⟩, (fun p s e => by cases e), (fun p s e => by cases e), (fun a e => absurd rfl e)⟩, fun i => ?_⟩
    · show ((w.alloc (.map #[] 0)).alloc _).heap[w.heap.size + 1]? = _
      have := (MapKept.heap_alloc (w.alloc (.map #[] 0)) (.cells #[.int .u64 a, .map (some w.heap.size)] 187)).1
      rw [s1] at this
      exact this
    · constructor
      · rintro (e | e)
        · exact .inr (.inl e)
        · exact .inl e
      · rintro (e | e | ⟨p, e⟩)
        · exact .inr e
        · exact .inl e
        · cases e
def lit3 (a:Int) : Bool := cnd (decide (a = 65536)) true (cnd (decide (a = 1048576)) true (decide (a = 2097152)))
noncomputable def C71l : CF th.R := fun args h => match args with
  | [.int .u64 a] => match lit3 a with
    | true => some (.leaf (.tup [.ptr h.length 0, .int .i64 0], h ++ [.res (newM a)], []))
    | false => none
  | _ => none
theorem s71l : Sound Try.prog th 71 C71l := by
  intro args h t e _
  unfold C71l at e
  split at e
  · rename_i a
    split at e
    · rename_i ha
      cases e
      have hs : sizeOk a := by
        have : a = 65536 ∨ a = 1048576 ∨ a = 2097152 := by
          unfold lit3 at ha
          by_cases h1 : a = 65536
          · exact .inl h1
          · by_cases h2 : a = 1048576
            · exact .inr (.inl h2)
            · simp [h1, h2, cnd] at ha
              exact .inr (.inr ha)
        rcases this with rfl | rfl | rfl <;> decide
      refine ⟨fun K w0 ρ w vargs I hr => ?_, by simp [Tr.get], fun n hn _ => by simp only [Tr.get]; rw [List.getElem?_append_left hn]⟩
      obtain ⟨y, ys, rfl, hy, hys⟩ := hr
      have hy : y = .int .u64 a := hy
      have hys : ys = [] := hys
      subst hy hys
      refine (new_good w hs).mono ?_
      rintro e w' ⟨rfl, rfl⟩
      have hl : ρ.length = h.length := I.len
      refine ⟨_, _, rfl, ⟨_, rfl⟩, inv_new I hs, [_, _], rfl, _, _, rfl, ⟨⟨w.heap.size + 1, 0, false, 0⟩, ?_, rfl⟩, _, _, rfl, rfl, rfl⟩
      rw [← hl, List.getElem?_append_right (Nat.le_refl _), Nat.sub_self]; rfl
    · cases e
  · cases e
noncomputable def niceph : List (Nat × CF th.R) := (74, lift (fnC d74 ofV74 f74)) :: (72, lift (fnC d72 ofV72 f72)) :: (156, lift (fnC d156 ofV156 f156)) :: (71, C71l) :: nice33
theorem nokph : NiceOk Try.prog th niceph := ⟨lift_sound s74, lift_sound s72, lift_sound s156, s71l, nok33⟩
end Go.Sx.M

namespace Go.Sx.M
open Go Go.Sx Go.Proofs Go.RowKit
set_option maxRecDepth 100000
structure V219 where
  x : Int
def A219 (v : V219) : List SV := [.int .u64 v.x]
def H219 (v : V219) : List (HO th.R) := []
def toV219 (v : V219) : List (Vl th.R) := [.i v.x]
def ofV219 : List (Vl th.R) → Option V219
  | [.i x] => some ⟨x⟩
  | _ => none
def d219 : Ft := ⟨[.int .u64], []⟩
noncomputable def f219_0 (v : V219) : (Bool) := v.x != v.x
noncomputable def ff219 (v : V219) : Tr (Fin th.R) := (Tr.leaf (SV.bool (f219_0 v), List.nil, List.nil))
noncomputable def f219 (v : V219) : Tr (Fin th.R) := (Tr.leaf (SV.bool (f219_0 v), List.nil, []))
noncomputable def C219 : CF th.R := fnC d219 ofV219 (f219 )
theorem q219 (v : V219) : (evFn th Try.prog (auto th Try.prog niceph [] 20) (autoH [] [] [] [] : Hints th) 219) (A219 v) (H219 v) = some (ff219 v) := by kernel_rfl
theorem qg219 (v : V219) : ((ff219 v).map (setD [])).get = (f219 v).get := by kernel_rfl
theorem qd219 (v : V219) : allD 0 [] (ff219 v) = true := by kernel_rfl
theorem s219 : Sound Try.prog th 219 (C219 ) := fnC_sound (evFn_sound' (T := th) (P := Try.prog) (tbl := (auto th Try.prog niceph [] 20)) (auto_sound (nice := niceph) (us := []) nokph 20) (H := (autoH [] [] [] [] : Hints th)) (k := 219) (fnLoops (LoopsOk_mem (fun _ => rfl) _ fun _ _ _ e => by cases e))) d219 A219 H219 toV219 (by kernel_rfl) (fun v => by kernel_rfl)
  (fun l v h => by
    unfold ofV219 at h
    split at h
    · cases h; rfl
    · cases h)
  [] (fun v => ⟨ff219 v, q219 v, id, qg219 v, qd219 v⟩)
noncomputable def nice219 : List (Nat × CF th.R) := (219, lift C219) :: niceph
theorem nok219 : NiceOk Try.prog th nice219 := ⟨lift_sound s219, nokph⟩
set_option maxRecDepth 100000
structure V204 where
  x : Int
  y : Int
def A204 (v : V204) : List SV := [.int .u64 v.x, .int .u64 v.y]
def H204 (v : V204) : List (HO th.R) := []
def toV204 (v : V204) : List (Vl th.R) := [.i v.x, .i v.y]
def ofV204 : List (Vl th.R) → Option V204
  | [.i x, .i y] => some ⟨x, y⟩
  | _ => none
def d204 : Ft := ⟨[.int .u64, .int .u64], []⟩
noncomputable def f204_0 (v : V204) : (Bool) := cnd (cnd (f219_0 (V219.mk v.x)) (!f219_0 (V219.mk v.y)) false) true (decide (v.x < v.y))
noncomputable def ff204 (v : V204) : Tr (Fin th.R) := (Tr.leaf (SV.bool (f204_0 v), List.nil, List.nil))
noncomputable def f204 (v : V204) : Tr (Fin th.R) := (Tr.leaf (SV.bool (f204_0 v), List.nil, []))
noncomputable def C204 : CF th.R := fnC d204 ofV204 (f204 )
theorem q204 (v : V204) : (evFn th Try.prog (auto th Try.prog nice219 [] 20) (autoH [] [] [] [] : Hints th) 204) (A204 v) (H204 v) = some (ff204 v) := by kernel_rfl
theorem qg204 (v : V204) : ((ff204 v).map (setD [])).get = (f204 v).get := by kernel_rfl
theorem qd204 (v : V204) : allD 0 [] (ff204 v) = true := by kernel_rfl
theorem s204 : Sound Try.prog th 204 (C204 ) := fnC_sound (evFn_sound' (T := th) (P := Try.prog) (tbl := (auto th Try.prog nice219 [] 20)) (auto_sound (nice := nice219) (us := []) nok219 20) (H := (autoH [] [] [] [] : Hints th)) (k := 204) (fnLoops (LoopsOk_mem (fun _ => rfl) _ fun _ _ _ e => by cases e))) d204 A204 H204 toV204 (by kernel_rfl) (fun v => by kernel_rfl)
  (fun l v h => by
    unfold ofV204 at h
    split at h
    · cases h; rfl
    · cases h)
  [] (fun v => ⟨ff204 v, q204 v, id, qg204 v, qd204 v⟩)
theorem qdd204 (v : V204) : (f204 v).get.2.2 = [] := by
  rw [← qg204, Tr.map_get]; rfl
set_option maxRecDepth 100000
structure V99 where
  at_ : Int
  M : th.R
noncomputable def f99_0 (v : V99) : (Int) := cnd (!f125_0 v.at_ (5:Int)) (13:Int) (cnd (decide (v.at_ ≥ szM v.M)) (12:Int) (0:Int))
set_option maxRecDepth 100000
structure V29 where
  at_ : Int
  M : th.R
noncomputable def f29_25 (v : V29) : (Bool) := f99_0 (V99.mk v.at_ v.M) != (0:Int)
noncomputable def f29_26 (v : V29) : (Int) := IntKind.u64.wrap (v.at_ + (0:Int))
noncomputable def f29_27 (v : V29) : (Int) := IntKind.u64.wrap (v.at_ + (8:Int))
noncomputable def f29_28 (v : V29) : (Int) := IntKind.u64.wrap (v.at_ + (16:Int))
noncomputable def f29_29 (v : V29) : (Int) := IntKind.u64.wrap (v.at_ + (24:Int))
noncomputable def f29_30 (v : V29) : (Int) := rdM v.M (f29_26 v)
noncomputable def f29_31 (v : V29) : (Int) := rdM v.M (f29_27 v)
noncomputable def f29_32 (v : V29) : (Int) := rdM v.M (f29_28 v)
noncomputable def f29_33 (v : V29) : (Int) := rdM v.M (f29_29 v)
noncomputable def f29_34 (v : V29) : (Int) := [f29_30 v, f29_31 v, f29_32 v, f29_33 v].getD (3:Nat) (0:Int)
noncomputable def f29_35 (v : V29) : (Bool) := decide (f29_34 v ≤ (4096:Int))
noncomputable def f29_36 (v : V29) : (Int) := [f29_30 v, f29_31 v, f29_32 v, f29_33 v].getD (0:Nat) (0:Int)
noncomputable def f29_37 (v : V29) : (Int) := [f29_30 v, f29_31 v, f29_32 v, f29_33 v].getD (1:Nat) (0:Int)
noncomputable def f29_38 (v : V29) : (Int) := f100_3 (f29_36 v) (f29_37 v)
noncomputable def f29_39 (v : V29) : (Int) := cnd (f29_35 v) (f29_38 v) (f29_38 v)
noncomputable def f29_40 (v : V29) : (Int) := f100_4 (f29_36 v) (f29_37 v)
noncomputable def f29_41 (v : V29) : (Int) := cnd (f29_35 v) (f29_40 v) (f29_40 v)
noncomputable def f29_42 (v : V29) : (Int) := f100_5 (f29_36 v) (f29_37 v)
noncomputable def f29_43 (v : V29) : (Int) := cnd (f29_35 v) (f29_42 v) (f29_42 v)
noncomputable def f29_44 (v : V29) : (Int) := f100_6 (f29_36 v) (f29_37 v)
noncomputable def f29_45 (v : V29) : (Int) := cnd (f29_35 v) (f29_44 v) (f29_44 v)
noncomputable def f29_46 (v : V29) : (Int) := f100_7 (f29_36 v) (f29_37 v)
noncomputable def f29_47 (v : V29) : (Int) := cnd (f29_35 v) (f29_46 v) (f29_46 v)
noncomputable def f29_48 (v : V29) : (Int) := f100_8 (f29_36 v) (f29_37 v)
noncomputable def f29_49 (v : V29) : (Int) := cnd (f29_35 v) (f29_48 v) (f29_48 v)
noncomputable def f29_50 (v : V29) : (Int) := f100_9 (f29_36 v) (f29_37 v)
noncomputable def f29_51 (v : V29) : (Int) := cnd (f29_35 v) (f29_50 v) (f29_50 v)
noncomputable def f29_52 (v : V29) : (Int) := [f29_30 v, f29_31 v, f29_32 v, f29_33 v].getD (2:Nat) (0:Int)
noncomputable def f29_53 (v : V29) : (Int) := IntKind.u64.wrap (f102_1 (0:Int) (27:Int) (f29_52 v) * (32:Int))
noncomputable def f29_54 (v : V29) : (Int) := cnd (f29_35 v) (f29_53 v) (f29_53 v)
noncomputable def f29_55 (v : V29) : (Int) := IntKind.u64.wrap (f102_1 (32:Int) (27:Int) (f29_52 v) * (32:Int))
noncomputable def f29_56 (v : V29) : (Int) := cnd (f29_35 v) (f29_55 v) (f29_55 v)
noncomputable def f29_57 (v : V29) : (Int) := cnd (f29_35 v) (IntKind.i64.wrap (f29_34 v)) (0:Int)
noncomputable def f29_14 (v : V29) : (Int) := cnd (f29_25 v) (0:Int) (cnd (cnd (cnd (f100_10 (f29_36 v) (f29_37 v) != (0:Int)) true !f34_0 (f29_39 v) (f29_41 v) (f29_43 v) (f29_45 v) (f29_47 v) (f29_49 v) (f29_51 v) (f29_54 v) (f29_56 v) (f29_57 v)) true !(f104_2 (f29_39 v) (f29_41 v) (f29_43 v) (f29_45 v) (f29_47 v) (f29_49 v) (f29_51 v) (f29_54 v) (f29_56 v) (f29_57 v) == f29_30 v && (f104_3 (f29_39 v) (f29_41 v) (f29_43 v) (f29_45 v) (f29_47 v) (f29_49 v) (f29_51 v) (f29_54 v) (f29_56 v) (f29_57 v) == f29_31 v && (f104_4 (f29_39 v) (f29_41 v) (f29_43 v) (f29_45 v) (f29_47 v) (f29_49 v) (f29_51 v) (f29_54 v) (f29_56 v) (f29_57 v) == f29_32 v && (f104_5 (f29_39 v) (f29_41 v) (f29_43 v) (f29_45 v) (f29_47 v) (f29_49 v) (f29_51 v) (f29_54 v) (f29_56 v) (f29_57 v) == f29_33 v && true))))) (0:Int) (f29_39 v))
noncomputable def f29_15 (v : V29) : (Int) := cnd (f29_25 v) (0:Int) (cnd (cnd (cnd (f100_10 (f29_36 v) (f29_37 v) != (0:Int)) true !f34_0 (f29_39 v) (f29_41 v) (f29_43 v) (f29_45 v) (f29_47 v) (f29_49 v) (f29_51 v) (f29_54 v) (f29_56 v) (f29_57 v)) true !(f104_2 (f29_39 v) (f29_41 v) (f29_43 v) (f29_45 v) (f29_47 v) (f29_49 v) (f29_51 v) (f29_54 v) (f29_56 v) (f29_57 v) == f29_30 v && (f104_3 (f29_39 v) (f29_41 v) (f29_43 v) (f29_45 v) (f29_47 v) (f29_49 v) (f29_51 v) (f29_54 v) (f29_56 v) (f29_57 v) == f29_31 v && (f104_4 (f29_39 v) (f29_41 v) (f29_43 v) (f29_45 v) (f29_47 v) (f29_49 v) (f29_51 v) (f29_54 v) (f29_56 v) (f29_57 v) == f29_32 v && (f104_5 (f29_39 v) (f29_41 v) (f29_43 v) (f29_45 v) (f29_47 v) (f29_49 v) (f29_51 v) (f29_54 v) (f29_56 v) (f29_57 v) == f29_33 v && true))))) (0:Int) (f29_41 v))
noncomputable def f29_16 (v : V29) : (Int) := cnd (f29_25 v) (0:Int) (cnd (cnd (cnd (f100_10 (f29_36 v) (f29_37 v) != (0:Int)) true !f34_0 (f29_39 v) (f29_41 v) (f29_43 v) (f29_45 v) (f29_47 v) (f29_49 v) (f29_51 v) (f29_54 v) (f29_56 v) (f29_57 v)) true !(f104_2 (f29_39 v) (f29_41 v) (f29_43 v) (f29_45 v) (f29_47 v) (f29_49 v) (f29_51 v) (f29_54 v) (f29_56 v) (f29_57 v) == f29_30 v && (f104_3 (f29_39 v) (f29_41 v) (f29_43 v) (f29_45 v) (f29_47 v) (f29_49 v) (f29_51 v) (f29_54 v) (f29_56 v) (f29_57 v) == f29_31 v && (f104_4 (f29_39 v) (f29_41 v) (f29_43 v) (f29_45 v) (f29_47 v) (f29_49 v) (f29_51 v) (f29_54 v) (f29_56 v) (f29_57 v) == f29_32 v && (f104_5 (f29_39 v) (f29_41 v) (f29_43 v) (f29_45 v) (f29_47 v) (f29_49 v) (f29_51 v) (f29_54 v) (f29_56 v) (f29_57 v) == f29_33 v && true))))) (0:Int) (f29_43 v))
noncomputable def f29_17 (v : V29) : (Int) := cnd (f29_25 v) (0:Int) (cnd (cnd (cnd (f100_10 (f29_36 v) (f29_37 v) != (0:Int)) true !f34_0 (f29_39 v) (f29_41 v) (f29_43 v) (f29_45 v) (f29_47 v) (f29_49 v) (f29_51 v) (f29_54 v) (f29_56 v) (f29_57 v)) true !(f104_2 (f29_39 v) (f29_41 v) (f29_43 v) (f29_45 v) (f29_47 v) (f29_49 v) (f29_51 v) (f29_54 v) (f29_56 v) (f29_57 v) == f29_30 v && (f104_3 (f29_39 v) (f29_41 v) (f29_43 v) (f29_45 v) (f29_47 v) (f29_49 v) (f29_51 v) (f29_54 v) (f29_56 v) (f29_57 v) == f29_31 v && (f104_4 (f29_39 v) (f29_41 v) (f29_43 v) (f29_45 v) (f29_47 v) (f29_49 v) (f29_51 v) (f29_54 v) (f29_56 v) (f29_57 v) == f29_32 v && (f104_5 (f29_39 v) (f29_41 v) (f29_43 v) (f29_45 v) (f29_47 v) (f29_49 v) (f29_51 v) (f29_54 v) (f29_56 v) (f29_57 v) == f29_33 v && true))))) (0:Int) (f29_45 v))
noncomputable def f29_18 (v : V29) : (Int) := cnd (f29_25 v) (0:Int) (cnd (cnd (cnd (f100_10 (f29_36 v) (f29_37 v) != (0:Int)) true !f34_0 (f29_39 v) (f29_41 v) (f29_43 v) (f29_45 v) (f29_47 v) (f29_49 v) (f29_51 v) (f29_54 v) (f29_56 v) (f29_57 v)) true !(f104_2 (f29_39 v) (f29_41 v) (f29_43 v) (f29_45 v) (f29_47 v) (f29_49 v) (f29_51 v) (f29_54 v) (f29_56 v) (f29_57 v) == f29_30 v && (f104_3 (f29_39 v) (f29_41 v) (f29_43 v) (f29_45 v) (f29_47 v) (f29_49 v) (f29_51 v) (f29_54 v) (f29_56 v) (f29_57 v) == f29_31 v && (f104_4 (f29_39 v) (f29_41 v) (f29_43 v) (f29_45 v) (f29_47 v) (f29_49 v) (f29_51 v) (f29_54 v) (f29_56 v) (f29_57 v) == f29_32 v && (f104_5 (f29_39 v) (f29_41 v) (f29_43 v) (f29_45 v) (f29_47 v) (f29_49 v) (f29_51 v) (f29_54 v) (f29_56 v) (f29_57 v) == f29_33 v && true))))) (0:Int) (f29_47 v))
noncomputable def f29_19 (v : V29) : (Int) := cnd (f29_25 v) (0:Int) (cnd (cnd (cnd (f100_10 (f29_36 v) (f29_37 v) != (0:Int)) true !f34_0 (f29_39 v) (f29_41 v) (f29_43 v) (f29_45 v) (f29_47 v) (f29_49 v) (f29_51 v) (f29_54 v) (f29_56 v) (f29_57 v)) true !(f104_2 (f29_39 v) (f29_41 v) (f29_43 v) (f29_45 v) (f29_47 v) (f29_49 v) (f29_51 v) (f29_54 v) (f29_56 v) (f29_57 v) == f29_30 v && (f104_3 (f29_39 v) (f29_41 v) (f29_43 v) (f29_45 v) (f29_47 v) (f29_49 v) (f29_51 v) (f29_54 v) (f29_56 v) (f29_57 v) == f29_31 v && (f104_4 (f29_39 v) (f29_41 v) (f29_43 v) (f29_45 v) (f29_47 v) (f29_49 v) (f29_51 v) (f29_54 v) (f29_56 v) (f29_57 v) == f29_32 v && (f104_5 (f29_39 v) (f29_41 v) (f29_43 v) (f29_45 v) (f29_47 v) (f29_49 v) (f29_51 v) (f29_54 v) (f29_56 v) (f29_57 v) == f29_33 v && true))))) (0:Int) (f29_49 v))
noncomputable def f29_20 (v : V29) : (Int) := cnd (f29_25 v) (0:Int) (cnd (cnd (cnd (f100_10 (f29_36 v) (f29_37 v) != (0:Int)) true !f34_0 (f29_39 v) (f29_41 v) (f29_43 v) (f29_45 v) (f29_47 v) (f29_49 v) (f29_51 v) (f29_54 v) (f29_56 v) (f29_57 v)) true !(f104_2 (f29_39 v) (f29_41 v) (f29_43 v) (f29_45 v) (f29_47 v) (f29_49 v) (f29_51 v) (f29_54 v) (f29_56 v) (f29_57 v) == f29_30 v && (f104_3 (f29_39 v) (f29_41 v) (f29_43 v) (f29_45 v) (f29_47 v) (f29_49 v) (f29_51 v) (f29_54 v) (f29_56 v) (f29_57 v) == f29_31 v && (f104_4 (f29_39 v) (f29_41 v) (f29_43 v) (f29_45 v) (f29_47 v) (f29_49 v) (f29_51 v) (f29_54 v) (f29_56 v) (f29_57 v) == f29_32 v && (f104_5 (f29_39 v) (f29_41 v) (f29_43 v) (f29_45 v) (f29_47 v) (f29_49 v) (f29_51 v) (f29_54 v) (f29_56 v) (f29_57 v) == f29_33 v && true))))) (0:Int) (f29_51 v))
noncomputable def f29_21 (v : V29) : (Int) := cnd (f29_25 v) (0:Int) (cnd (cnd (cnd (f100_10 (f29_36 v) (f29_37 v) != (0:Int)) true !f34_0 (f29_39 v) (f29_41 v) (f29_43 v) (f29_45 v) (f29_47 v) (f29_49 v) (f29_51 v) (f29_54 v) (f29_56 v) (f29_57 v)) true !(f104_2 (f29_39 v) (f29_41 v) (f29_43 v) (f29_45 v) (f29_47 v) (f29_49 v) (f29_51 v) (f29_54 v) (f29_56 v) (f29_57 v) == f29_30 v && (f104_3 (f29_39 v) (f29_41 v) (f29_43 v) (f29_45 v) (f29_47 v) (f29_49 v) (f29_51 v) (f29_54 v) (f29_56 v) (f29_57 v) == f29_31 v && (f104_4 (f29_39 v) (f29_41 v) (f29_43 v) (f29_45 v) (f29_47 v) (f29_49 v) (f29_51 v) (f29_54 v) (f29_56 v) (f29_57 v) == f29_32 v && (f104_5 (f29_39 v) (f29_41 v) (f29_43 v) (f29_45 v) (f29_47 v) (f29_49 v) (f29_51 v) (f29_54 v) (f29_56 v) (f29_57 v) == f29_33 v && true))))) (0:Int) (f29_54 v))
noncomputable def f29_22 (v : V29) : (Int) := cnd (f29_25 v) (0:Int) (cnd (cnd (cnd (f100_10 (f29_36 v) (f29_37 v) != (0:Int)) true !f34_0 (f29_39 v) (f29_41 v) (f29_43 v) (f29_45 v) (f29_47 v) (f29_49 v) (f29_51 v) (f29_54 v) (f29_56 v) (f29_57 v)) true !(f104_2 (f29_39 v) (f29_41 v) (f29_43 v) (f29_45 v) (f29_47 v) (f29_49 v) (f29_51 v) (f29_54 v) (f29_56 v) (f29_57 v) == f29_30 v && (f104_3 (f29_39 v) (f29_41 v) (f29_43 v) (f29_45 v) (f29_47 v) (f29_49 v) (f29_51 v) (f29_54 v) (f29_56 v) (f29_57 v) == f29_31 v && (f104_4 (f29_39 v) (f29_41 v) (f29_43 v) (f29_45 v) (f29_47 v) (f29_49 v) (f29_51 v) (f29_54 v) (f29_56 v) (f29_57 v) == f29_32 v && (f104_5 (f29_39 v) (f29_41 v) (f29_43 v) (f29_45 v) (f29_47 v) (f29_49 v) (f29_51 v) (f29_54 v) (f29_56 v) (f29_57 v) == f29_33 v && true))))) (0:Int) (f29_56 v))
noncomputable def f29_23 (v : V29) : (Int) := cnd (f29_25 v) (0:Int) (cnd (cnd (cnd (f100_10 (f29_36 v) (f29_37 v) != (0:Int)) true !f34_0 (f29_39 v) (f29_41 v) (f29_43 v) (f29_45 v) (f29_47 v) (f29_49 v) (f29_51 v) (f29_54 v) (f29_56 v) (f29_57 v)) true !(f104_2 (f29_39 v) (f29_41 v) (f29_43 v) (f29_45 v) (f29_47 v) (f29_49 v) (f29_51 v) (f29_54 v) (f29_56 v) (f29_57 v) == f29_30 v && (f104_3 (f29_39 v) (f29_41 v) (f29_43 v) (f29_45 v) (f29_47 v) (f29_49 v) (f29_51 v) (f29_54 v) (f29_56 v) (f29_57 v) == f29_31 v && (f104_4 (f29_39 v) (f29_41 v) (f29_43 v) (f29_45 v) (f29_47 v) (f29_49 v) (f29_51 v) (f29_54 v) (f29_56 v) (f29_57 v) == f29_32 v && (f104_5 (f29_39 v) (f29_41 v) (f29_43 v) (f29_45 v) (f29_47 v) (f29_49 v) (f29_51 v) (f29_54 v) (f29_56 v) (f29_57 v) == f29_33 v && true))))) (0:Int) (f29_57 v))
set_option maxRecDepth 100000
end Go.Sx.M

namespace Go.Sx.M
open Go Go.Sx

theorem u64_range {n : Int} (h : (Lit.int .u64 n).wf = true) : 0 ≤ n ∧ n < 18446744073709551616 := by
  simp only [Lit.wf, Bool.and_eq_true, decide_eq_true_eq] at h
  have e1 : IntKind.u64.min = 0 := by decide +kernel
  have e2 : IntKind.u64.max = 18446744073709551615 := by decide +kernel
  rw [e1, e2] at h
  omega
end Go.Sx.M

namespace Go.Sx.M
open Go Go.Sx

end Go.Sx.M

namespace Go.Sx.M
open Go Go.Sx

theorem right_size {k a b r g s m : Int} (h : f172_1 k b = false) : f45_1 k a b r g s m = false := by
  have h1 : f120_0 k a b r g s m = false := by
    simp only [f120_0, h, cnd_eq]
    grind
  simp only [f45_1, h1, cnd_eq]
  grind
theorem rt1 : ∀ n : Nat, n < 33 → 5 ≤ n → f45_1 1 0 n 0 0 0 0 = true := by decide +kernel
theorem rt2 : ∀ n : Nat, n < 13 → 1 ≤ n → f45_1 2 0 n 0 0 0 0 = true := by decide +kernel
theorem rt3a : f45_1 3 0 12 7 0 0 0 = true := by decide +kernel
theorem rt3b : f45_1 3 0 21 7 0 0 0 = true := by decide +kernel
theorem rt3c : f45_1 3 0 30 7 0 0 0 = true := by decide +kernel
theorem rt4 : f45_1 4 0 12 0 0 0 0 = true := by decide +kernel
theorem rt5 : f45_1 5 0 12 0 0 0 0 = true := by decide +kernel
theorem rt8 : f45_1 8 0 7 0 0 0 0 = true := by decide +kernel
theorem rt9 : f45_1 9 0 5 3 0 0 0 = true := by decide +kernel

theorem kn_right {k b c r : Int} (h0 : f191_0 k b = k) (h1 : f191_1 k b = 0) (h2 : f191_2 k b = c) (h3 : f191_3 k b = r) (h4 : f191_4 k b = true) (hr : f45_1 k 0 c r 0 0 0 = true) (hs : f172_1 k c = true) :
    f161_4 k b = 0 ∧ f162_0 (f161_0 k b) (f161_1 k b) (f161_2 k b) (f161_3 k b) (f161_1 k b) (f161_1 k b) (f161_1 k b) = f172_0 k c := by
  constructor
  · simp [f161_4, h0, h1, h2, h3, h4, hr, cnd_eq]
  · simp [f162_0, f161_0, f161_1, f161_2, f161_3, h0, h1, h2, h3, h4, hr, hs, cnd_eq]
theorem kn_wrong {k b c r : Int} (h0 : f191_0 k b = k) (h1 : f191_1 k b = 0) (h2 : f191_2 k b = c) (h3 : f191_3 k b = r) (h4 : f191_4 k b = true) (hs : f172_1 k c = false) : f161_4 k b = 11 := by
  simp [f161_4, h0, h1, h2, h3, h4, right_size hs, cnd_eq]
theorem kn_none {k b : Int} (h4 : f191_4 k b = false) : f161_4 k b = 20 := by
  simp [f161_4, h4, cnd_eq]
def Kn (k b:Int) : Prop := (f25_0 k b = -1 ∧ f161_4 k b = 20) ∨ (f25_0 k b = -2 ∧ f161_4 k b = 11) ∨
  (0 < f25_0 k b ∧ f161_4 k b = 0 ∧ f162_0 (f161_0 k b) (f161_1 k b) (f161_2 k b) (f161_3 k b) (f161_1 k b) (f161_1 k b) (f161_1 k b) = f25_0 k b)
theorem kn (k b:Int) : Kn k b := by
  by_cases k1 : k = 1
  · subst k1
    by_cases hb : 5 ≤ b ∧ b ≤ 32
    · obtain ⟨n, rfl⟩ : ∃ n : Nat, b = n := ⟨b.toNat, by omega⟩
      have h25 : f25_0 1 (n:Int) = n := by simp [f25_0, cnd_eq]; omega
      obtain ⟨q1, q2⟩ := kn_right (k := 1) (b := n) (c := n) (r := 0) rfl rfl rfl rfl rfl (rt1 n (by omega) (by omega)) (by simp [f172_1, cnd_eq]; omega)
      exact .inr (.inr ⟨by omega, q1, by rw [q2, h25]; rfl⟩)
    · exact .inr (.inl ⟨by simp [f25_0, cnd_eq]; omega, kn_wrong (k := 1) (c := b) (r := 0) rfl rfl rfl rfl rfl (by simp [f172_1, cnd_eq]; omega)⟩)
  by_cases k2 : k = 2
  · subst k2
    by_cases hb : 1 ≤ b ∧ b ≤ 12
    · obtain ⟨n, rfl⟩ : ∃ n : Nat, b = n := ⟨b.toNat, by omega⟩
      have hw : IntKind.i64.wrap ((n:Int) + 5) = n + 5 := wrap_i64 (by omega) (by omega)
      have h25 : f25_0 2 (n:Int) = n + 5 := by simp [f25_0, cnd_eq, hw]; omega
      obtain ⟨q1, q2⟩ := kn_right (k := 2) (b := n) (c := n) (r := 0) rfl rfl rfl rfl rfl (rt2 n (by omega) (by omega)) (by simp [f172_1, cnd_eq]; omega)
      exact .inr (.inr ⟨by omega, q1, by rw [q2, h25]; simp [f172_0, cnd_eq, hw]⟩)
    · exact .inr (.inl ⟨by simp [f25_0, cnd_eq]; omega, kn_wrong (k := 2) (c := b) (r := 0) rfl rfl rfl rfl rfl (by simp [f172_1, cnd_eq]; omega)⟩)
  by_cases k3 : k = 3
  · subst k3
    by_cases hb : b = 12 ∨ b = 21 ∨ b = 30
    · rcases hb with rfl | rfl | rfl
      · obtain ⟨q1, q2⟩ := kn_right (k := 3) (b := 12) (c := 12) (r := 7) rfl rfl rfl rfl rfl rt3a (by decide +kernel)
        exact .inr (.inr ⟨by decide +kernel, q1, q2.trans (by decide +kernel)⟩)
      · obtain ⟨q1, q2⟩ := kn_right (k := 3) (b := 21) (c := 21) (r := 7) rfl rfl rfl rfl rfl rt3b (by decide +kernel)
        exact .inr (.inr ⟨by decide +kernel, q1, q2.trans (by decide +kernel)⟩)
      · obtain ⟨q1, q2⟩ := kn_right (k := 3) (b := 30) (c := 30) (r := 7) rfl rfl rfl rfl rfl rt3c (by decide +kernel)
        exact .inr (.inr ⟨by decide +kernel, q1, q2.trans (by decide +kernel)⟩)
    · refine .inr (.inl ⟨?_, kn_wrong (k := 3) (c := b) (r := 7) rfl rfl rfl rfl rfl ?_⟩)
      · simp [f25_0, cnd_eq]; omega
      · simp only [f172_1, f173_0, f173_1, cnd_eq]; grind
  by_cases k4 : k = 4
  · subst k4
    by_cases hb : b = 0
    · subst hb
      obtain ⟨q1, q2⟩ := kn_right (k := 4) (b := 0) (c := 12) (r := 0) rfl rfl rfl rfl rfl rt4 (by decide +kernel)
      exact .inr (.inr ⟨by decide +kernel, q1, q2.trans (by decide +kernel)⟩)
    · exact .inr (.inl ⟨by simp [f25_0, cnd_eq, hb], kn_wrong (k := 4) (c := -1) (r := 0) (by simp [f191_0, cnd_eq]) (by simp [f191_1, cnd_eq]) (by simp [f191_2, cnd_eq, hb]) (by simp [f191_3, cnd_eq]) rfl (by decide +kernel)⟩)
  by_cases k5 : k = 5
  · subst k5
    by_cases hb : b = 0
    · subst hb
      obtain ⟨q1, q2⟩ := kn_right (k := 5) (b := 0) (c := 12) (r := 0) rfl rfl rfl rfl rfl rt5 (by decide +kernel)
      exact .inr (.inr ⟨by decide +kernel, q1, q2.trans (by decide +kernel)⟩)
    · exact .inr (.inl ⟨by simp [f25_0, cnd_eq, hb], kn_wrong (k := 5) (c := -1) (r := 0) (by simp [f191_0, cnd_eq]) (by simp [f191_1, cnd_eq]) (by simp [f191_2, cnd_eq, hb]) (by simp [f191_3, cnd_eq]) rfl (by decide +kernel)⟩)
  by_cases k8 : k = 8
  · subst k8
    by_cases hb : b = 0
    · subst hb
      obtain ⟨q1, q2⟩ := kn_right (k := 8) (b := 0) (c := 7) (r := 0) rfl rfl rfl rfl rfl rt8 (by decide +kernel)
      exact .inr (.inr ⟨by decide +kernel, q1, q2.trans (by decide +kernel)⟩)
    · exact .inr (.inl ⟨by simp [f25_0, cnd_eq, hb], kn_wrong (k := 8) (c := -1) (r := 0) (by simp [f191_0, cnd_eq]) (by simp [f191_1, cnd_eq]) (by simp [f191_2, cnd_eq, hb]) (by simp [f191_3, cnd_eq]) rfl (by decide +kernel)⟩)
  by_cases k9 : k = 9
  · subst k9
    by_cases hb : b = 0
    · subst hb
      obtain ⟨q1, q2⟩ := kn_right (k := 9) (b := 0) (c := 5) (r := 3) rfl rfl rfl rfl rfl rt9 (by decide +kernel)
      exact .inr (.inr ⟨by decide +kernel, q1, q2.trans (by decide +kernel)⟩)
    · exact .inr (.inl ⟨by simp [f25_0, cnd_eq, hb], kn_wrong (k := 9) (c := -1) (r := 3) (by simp [f191_0, cnd_eq]) (by simp [f191_1, cnd_eq]) (by simp [f191_2, cnd_eq, hb]) (by simp [f191_3, cnd_eq]) rfl (by decide +kernel)⟩)
  refine .inl ⟨?_, kn_none ?_⟩
  · simp [f25_0, cnd_eq, k1, k2, k3, k4, k5, k8, k9]
  · simp [f191_4, cnd_eq, k1, k2, k3, k4, k5, k8, k9]

end Go.Sx.M

namespace Go.Sx.M
open Go Go.Sx

def Mk (k b c r n:Int) : Prop := f191_0 k b = k ∧ f191_1 k b = 0 ∧ f191_2 k b = c ∧ f191_3 k b = r ∧ f191_4 k b = true ∧ f45_1 k 0 c r 0 0 0 = true ∧ f172_1 k c = true ∧ f172_0 k c = n ∧ 5 ≤ n ∧ n ≤ 32 ∧
  f25_0 k b = n ∧ c = (if k = 2 then b else n) ∧ r = (if k = 9 then 3 else if k = 3 then 7 else 0)
theorem mk (k b:Int) : (f25_0 k b = -1 ∧ f161_4 k b = 20) ∨ (f25_0 k b = -2 ∧ f161_4 k b = 11) ∨ ∃ c r n, Mk k b c r n := by
  by_cases k1 : k = 1
  · subst k1
    by_cases hb : 5 ≤ b ∧ b ≤ 32
    · obtain ⟨n, rfl⟩ : ∃ n : Nat, b = n := ⟨b.toNat, by omega⟩
      have h25 : f25_0 1 (n:Int) = n := by simp [f25_0, cnd_eq]; omega
      exact .inr (.inr ⟨n, 0, n, rfl, rfl, rfl, rfl, rfl, rt1 n (by omega) (by omega), by simp [f172_1, cnd_eq]; omega, rfl, by omega, by omega, h25, rfl, rfl⟩)
    · rcases kn 1 b with h | h | ⟨h, _⟩
      · exact .inl h
      · exact .inr (.inl h)
      · exfalso; revert h; simp [f25_0, cnd_eq]; omega
  by_cases k2 : k = 2
  · subst k2
    by_cases hb : 1 ≤ b ∧ b ≤ 12
    · obtain ⟨n, rfl⟩ : ∃ n : Nat, b = n := ⟨b.toNat, by omega⟩
      have hw : IntKind.i64.wrap ((n:Int) + 5) = n + 5 := wrap_i64 (by omega) (by omega)
      have h25 : f25_0 2 (n:Int) = n + 5 := by simp [f25_0, cnd_eq, hw]; omega
      exact .inr (.inr ⟨n, 0, n + 5, rfl, rfl, rfl, rfl, rfl, rt2 n (by omega) (by omega), by simp [f172_1, cnd_eq]; omega, by simp [f172_0, cnd_eq, hw], by omega, by omega, h25, rfl, rfl⟩)
    · rcases kn 2 b with h | h | ⟨h, _⟩
      · exact .inl h
      · exact .inr (.inl h)
      · exfalso; revert h; simp [f25_0, cnd_eq]; omega
  by_cases k3 : k = 3
  · subst k3
    by_cases hb : b = 12 ∨ b = 21 ∨ b = 30
    · rcases hb with rfl | rfl | rfl
      · exact .inr (.inr ⟨12, 7, 12, rfl, rfl, rfl, rfl, rfl, rt3a, by decide +kernel, by decide +kernel, by omega, by omega, by decide +kernel, rfl, rfl⟩)
      · exact .inr (.inr ⟨21, 7, 21, rfl, rfl, rfl, rfl, rfl, rt3b, by decide +kernel, by decide +kernel, by omega, by omega, by decide +kernel, rfl, rfl⟩)
      · exact .inr (.inr ⟨30, 7, 30, rfl, rfl, rfl, rfl, rfl, rt3c, by decide +kernel, by decide +kernel, by omega, by omega, by decide +kernel, rfl, rfl⟩)
    · rcases kn 3 b with h | h | ⟨h, _⟩
      · exact .inl h
      · exact .inr (.inl h)
      · exfalso; revert h; simp [f25_0, cnd_eq]; omega
  have small : ∀ c r n, k ≠ 2 → k = 4 ∨ k = 5 ∨ k = 8 ∨ k = 9 → Mk k 0 c r n → (f25_0 k b = -1 ∧ f161_4 k b = 20) ∨ (f25_0 k b = -2 ∧ f161_4 k b = 11) ∨ ∃ c r n, Mk k b c r n := by
    intro c r n h2 hk hm
    by_cases hb : b = 0
    · subst hb; exact .inr (.inr ⟨c, r, n, hm⟩)
    · rcases kn k b with h | h | ⟨h, _⟩
      · exact .inl h
      · exact .inr (.inl h)
      · exfalso
        revert h
        rcases hk with rfl | rfl | rfl | rfl <;> simp [f25_0, cnd_eq, hb]
  by_cases k4 : k = 4
  · subst k4; exact small 12 0 12 (by omega) (by omega) ⟨rfl, rfl, rfl, rfl, rfl, rt4, by decide +kernel, by decide +kernel, by omega, by omega, by decide +kernel, rfl, rfl⟩
  by_cases k5 : k = 5
  · subst k5; exact small 12 0 12 (by omega) (by omega) ⟨rfl, rfl, rfl, rfl, rfl, rt5, by decide +kernel, by decide +kernel, by omega, by omega, by decide +kernel, rfl, rfl⟩
  by_cases k8 : k = 8
  · subst k8; exact small 7 0 7 (by omega) (by omega) ⟨rfl, rfl, rfl, rfl, rfl, rt8, by decide +kernel, by decide +kernel, by omega, by omega, by decide +kernel, rfl, rfl⟩
  by_cases k9 : k = 9
  · subst k9; exact small 5 3 5 (by omega) (by omega) ⟨rfl, rfl, rfl, rfl, rfl, rt9, by decide +kernel, by decide +kernel, by omega, by omega, by decide +kernel, rfl, rfl⟩
  refine .inl ⟨?_, kn_none ?_⟩
  · simp [f25_0, cnd_eq, k1, k2, k3, k4, k5, k8, k9]
  · simp [f191_4, cnd_eq, k1, k2, k3, k4, k5, k8, k9]

end Go.Sx.M

