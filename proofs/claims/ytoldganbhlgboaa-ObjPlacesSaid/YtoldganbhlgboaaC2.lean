/- Contracts of the functions of this seat, each by the executor and the kernel; part 2. Their conditions stand in each. -/
import Derived.Test.YtoldganbhlgboaaC1
set_option linter.unusedVariables false
set_option linter.unusedSimpArgs false
namespace Go.Sx.M
open Go Go.Sx Go.Proofs Go.RowKit
set_option maxRecDepth 100000
structure V29 where
  at_ : Int
  M : th.R
noncomputable def f29_25 (v : V29) : (Bool) := f99_0 (V99.mk v.at_ v.M) != (0 : Int)
noncomputable def f29_26 (v : V29) : (Int) := IntKind.u64.wrap (v.at_ + (0 : Int))
noncomputable def f29_27 (v : V29) : (Int) := IntKind.u64.wrap (v.at_ + (8 : Int))
noncomputable def f29_28 (v : V29) : (Int) := IntKind.u64.wrap (v.at_ + (16 : Int))
noncomputable def f29_29 (v : V29) : (Int) := IntKind.u64.wrap (v.at_ + (24 : Int))
noncomputable def f29_30 (v : V29) : (Int) := rdM v.M (f29_26 v)
noncomputable def f29_31 (v : V29) : (Int) := rdM v.M (f29_27 v)
noncomputable def f29_32 (v : V29) : (Int) := rdM v.M (f29_28 v)
noncomputable def f29_33 (v : V29) : (Int) := rdM v.M (f29_29 v)
noncomputable def f29_34 (v : V29) : (Int) := [f29_30 v, f29_31 v, f29_32 v, f29_33 v].getD (3 : Nat) (0 : Int)
noncomputable def f29_35 (v : V29) : (Bool) := decide (f29_34 v ≤ (4096 : Int))
noncomputable def f29_36 (v : V29) : (Int) := [f29_30 v, f29_31 v, f29_32 v, f29_33 v].getD (0:Nat) (0 : Int)
noncomputable def f29_37 (v : V29) : (Int) := [f29_30 v, f29_31 v, f29_32 v, f29_33 v].getD (1 : Nat) (0 : Int)
noncomputable def f29_38 (v : V29) : (Int) := f100_3 (f29_36 v) (f29_37 v)
noncomputable def f29_39 (v : V29) : (Int) := cnd (f29_35 v) (f29_38 v) (f29_38 v)
noncomputable def f29_40 (v : V29) : (Int) := f100_4 (f29_36 v) (f29_37 v)
noncomputable def f29_41 (v : V29) : (Int) := cnd (f29_35 v) (f29_40 v) (f29_40 v)
noncomputable def f29_42 (v : V29) : (Int) := f100_5 (f29_36 v) (f29_37 v)
noncomputable def f29_43 (v : V29) : (Int) := cnd (f29_35 v) (f29_42 v) (f29_42 v)
noncomputable def f29_44 (v : V29) : (Int) := f100_6 (f29_36 v) (f29_37 v)
noncomputable def f29_45 (v : V29) : (Int) := cnd (f29_35 v) (f29_44 v) (f29_44 v)
noncomputable def f29_46 (v : V29) : (Int) := f100_7 (f29_36 v) (f29_37 v)
noncomputable def f29_47 (v : V29) : (Int) := cnd (f29_35 v) (f29_46 v) (f29_46 v)
noncomputable def f29_48 (v : V29) : (Int) := f100_8 (f29_36 v) (f29_37 v)
noncomputable def f29_49 (v : V29) : (Int) := cnd (f29_35 v) (f29_48 v) (f29_48 v)
noncomputable def f29_50 (v : V29) : (Int) := f100_9 (f29_36 v) (f29_37 v)
noncomputable def f29_51 (v : V29) : (Int) := cnd (f29_35 v) (f29_50 v) (f29_50 v)
noncomputable def f29_52 (v : V29) : (Int) := [f29_30 v, f29_31 v, f29_32 v, f29_33 v].getD (2 : Nat) (0 : Int)
noncomputable def f29_53 (v : V29) : (Int) := IntKind.u64.wrap (f102_1 (0 : Int) (27 : Int) (f29_52 v) * (32 : Int))
noncomputable def f29_54 (v : V29) : (Int) := cnd (f29_35 v) (f29_53 v) (f29_53 v)
noncomputable def f29_55 (v : V29) : (Int) := IntKind.u64.wrap (f102_1 (32 : Int) (27 : Int) (f29_52 v) * (32 : Int))
noncomputable def f29_56 (v : V29) : (Int) := cnd (f29_35 v) (f29_55 v) (f29_55 v)
noncomputable def f29_57 (v : V29) : (Int) := cnd (f29_35 v) (IntKind.i64.wrap (f29_34 v)) (0 : Int)
noncomputable def f29_14 (v : V29) : (Int) := cnd (f29_25 v) (0 : Int) (cnd (cnd (cnd (f100_10 (f29_36 v) (f29_37 v) != (0 : Int)) true !f34_0 (f29_39 v) (f29_41 v) (f29_43 v) (f29_45 v) (f29_47 v) (f29_49 v) (f29_51 v) (f29_54 v) (f29_56 v) (f29_57 v)) true !(f104_2 (f29_39 v) (f29_41 v) (f29_43 v) (f29_45 v) (f29_47 v) (f29_49 v) (f29_51 v) (f29_54 v) (f29_56 v) (f29_57 v) == f29_30 v && (f104_3 (f29_39 v) (f29_41 v) (f29_43 v) (f29_45 v) (f29_47 v) (f29_49 v) (f29_51 v) (f29_54 v) (f29_56 v) (f29_57 v) == f29_31 v && (f104_4 (f29_39 v) (f29_41 v) (f29_43 v) (f29_45 v) (f29_47 v) (f29_49 v) (f29_51 v) (f29_54 v) (f29_56 v) (f29_57 v) == f29_32 v && (f104_5 (f29_39 v) (f29_41 v) (f29_43 v) (f29_45 v) (f29_47 v) (f29_49 v) (f29_51 v) (f29_54 v) (f29_56 v) (f29_57 v) == f29_33 v && true))))) (0 : Int) (f29_39 v))
noncomputable def f29_15 (v : V29) : (Int) := cnd (f29_25 v) (0 : Int) (cnd (cnd (cnd (f100_10 (f29_36 v) (f29_37 v) != (0 : Int)) true !f34_0 (f29_39 v) (f29_41 v) (f29_43 v) (f29_45 v) (f29_47 v) (f29_49 v) (f29_51 v) (f29_54 v) (f29_56 v) (f29_57 v)) true !(f104_2 (f29_39 v) (f29_41 v) (f29_43 v) (f29_45 v) (f29_47 v) (f29_49 v) (f29_51 v) (f29_54 v) (f29_56 v) (f29_57 v) == f29_30 v && (f104_3 (f29_39 v) (f29_41 v) (f29_43 v) (f29_45 v) (f29_47 v) (f29_49 v) (f29_51 v) (f29_54 v) (f29_56 v) (f29_57 v) == f29_31 v && (f104_4 (f29_39 v) (f29_41 v) (f29_43 v) (f29_45 v) (f29_47 v) (f29_49 v) (f29_51 v) (f29_54 v) (f29_56 v) (f29_57 v) == f29_32 v && (f104_5 (f29_39 v) (f29_41 v) (f29_43 v) (f29_45 v) (f29_47 v) (f29_49 v) (f29_51 v) (f29_54 v) (f29_56 v) (f29_57 v) == f29_33 v && true))))) (0 : Int) (f29_41 v))
noncomputable def f29_16 (v : V29) : (Int) := cnd (f29_25 v) (0 : Int) (cnd (cnd (cnd (f100_10 (f29_36 v) (f29_37 v) != (0 : Int)) true !f34_0 (f29_39 v) (f29_41 v) (f29_43 v) (f29_45 v) (f29_47 v) (f29_49 v) (f29_51 v) (f29_54 v) (f29_56 v) (f29_57 v)) true !(f104_2 (f29_39 v) (f29_41 v) (f29_43 v) (f29_45 v) (f29_47 v) (f29_49 v) (f29_51 v) (f29_54 v) (f29_56 v) (f29_57 v) == f29_30 v && (f104_3 (f29_39 v) (f29_41 v) (f29_43 v) (f29_45 v) (f29_47 v) (f29_49 v) (f29_51 v) (f29_54 v) (f29_56 v) (f29_57 v) == f29_31 v && (f104_4 (f29_39 v) (f29_41 v) (f29_43 v) (f29_45 v) (f29_47 v) (f29_49 v) (f29_51 v) (f29_54 v) (f29_56 v) (f29_57 v) == f29_32 v && (f104_5 (f29_39 v) (f29_41 v) (f29_43 v) (f29_45 v) (f29_47 v) (f29_49 v) (f29_51 v) (f29_54 v) (f29_56 v) (f29_57 v) == f29_33 v && true))))) (0 : Int) (f29_43 v))
noncomputable def f29_17 (v : V29) : (Int) := cnd (f29_25 v) (0 : Int) (cnd (cnd (cnd (f100_10 (f29_36 v) (f29_37 v) != (0 : Int)) true !f34_0 (f29_39 v) (f29_41 v) (f29_43 v) (f29_45 v) (f29_47 v) (f29_49 v) (f29_51 v) (f29_54 v) (f29_56 v) (f29_57 v)) true !(f104_2 (f29_39 v) (f29_41 v) (f29_43 v) (f29_45 v) (f29_47 v) (f29_49 v) (f29_51 v) (f29_54 v) (f29_56 v) (f29_57 v) == f29_30 v && (f104_3 (f29_39 v) (f29_41 v) (f29_43 v) (f29_45 v) (f29_47 v) (f29_49 v) (f29_51 v) (f29_54 v) (f29_56 v) (f29_57 v) == f29_31 v && (f104_4 (f29_39 v) (f29_41 v) (f29_43 v) (f29_45 v) (f29_47 v) (f29_49 v) (f29_51 v) (f29_54 v) (f29_56 v) (f29_57 v) == f29_32 v && (f104_5 (f29_39 v) (f29_41 v) (f29_43 v) (f29_45 v) (f29_47 v) (f29_49 v) (f29_51 v) (f29_54 v) (f29_56 v) (f29_57 v) == f29_33 v && true))))) (0 : Int) (f29_45 v))
noncomputable def f29_18 (v : V29) : (Int) := cnd (f29_25 v) (0 : Int) (cnd (cnd (cnd (f100_10 (f29_36 v) (f29_37 v) != (0 : Int)) true !f34_0 (f29_39 v) (f29_41 v) (f29_43 v) (f29_45 v) (f29_47 v) (f29_49 v) (f29_51 v) (f29_54 v) (f29_56 v) (f29_57 v)) true !(f104_2 (f29_39 v) (f29_41 v) (f29_43 v) (f29_45 v) (f29_47 v) (f29_49 v) (f29_51 v) (f29_54 v) (f29_56 v) (f29_57 v) == f29_30 v && (f104_3 (f29_39 v) (f29_41 v) (f29_43 v) (f29_45 v) (f29_47 v) (f29_49 v) (f29_51 v) (f29_54 v) (f29_56 v) (f29_57 v) == f29_31 v && (f104_4 (f29_39 v) (f29_41 v) (f29_43 v) (f29_45 v) (f29_47 v) (f29_49 v) (f29_51 v) (f29_54 v) (f29_56 v) (f29_57 v) == f29_32 v && (f104_5 (f29_39 v) (f29_41 v) (f29_43 v) (f29_45 v) (f29_47 v) (f29_49 v) (f29_51 v) (f29_54 v) (f29_56 v) (f29_57 v) == f29_33 v && true))))) (0 : Int) (f29_47 v))
noncomputable def f29_19 (v : V29) : (Int) := cnd (f29_25 v) (0 : Int) (cnd (cnd (cnd (f100_10 (f29_36 v) (f29_37 v) != (0 : Int)) true !f34_0 (f29_39 v) (f29_41 v) (f29_43 v) (f29_45 v) (f29_47 v) (f29_49 v) (f29_51 v) (f29_54 v) (f29_56 v) (f29_57 v)) true !(f104_2 (f29_39 v) (f29_41 v) (f29_43 v) (f29_45 v) (f29_47 v) (f29_49 v) (f29_51 v) (f29_54 v) (f29_56 v) (f29_57 v) == f29_30 v && (f104_3 (f29_39 v) (f29_41 v) (f29_43 v) (f29_45 v) (f29_47 v) (f29_49 v) (f29_51 v) (f29_54 v) (f29_56 v) (f29_57 v) == f29_31 v && (f104_4 (f29_39 v) (f29_41 v) (f29_43 v) (f29_45 v) (f29_47 v) (f29_49 v) (f29_51 v) (f29_54 v) (f29_56 v) (f29_57 v) == f29_32 v && (f104_5 (f29_39 v) (f29_41 v) (f29_43 v) (f29_45 v) (f29_47 v) (f29_49 v) (f29_51 v) (f29_54 v) (f29_56 v) (f29_57 v) == f29_33 v && true))))) (0 : Int) (f29_49 v))
noncomputable def f29_20 (v : V29) : (Int) := cnd (f29_25 v) (0 : Int) (cnd (cnd (cnd (f100_10 (f29_36 v) (f29_37 v) != (0 : Int)) true !f34_0 (f29_39 v) (f29_41 v) (f29_43 v) (f29_45 v) (f29_47 v) (f29_49 v) (f29_51 v) (f29_54 v) (f29_56 v) (f29_57 v)) true !(f104_2 (f29_39 v) (f29_41 v) (f29_43 v) (f29_45 v) (f29_47 v) (f29_49 v) (f29_51 v) (f29_54 v) (f29_56 v) (f29_57 v) == f29_30 v && (f104_3 (f29_39 v) (f29_41 v) (f29_43 v) (f29_45 v) (f29_47 v) (f29_49 v) (f29_51 v) (f29_54 v) (f29_56 v) (f29_57 v) == f29_31 v && (f104_4 (f29_39 v) (f29_41 v) (f29_43 v) (f29_45 v) (f29_47 v) (f29_49 v) (f29_51 v) (f29_54 v) (f29_56 v) (f29_57 v) == f29_32 v && (f104_5 (f29_39 v) (f29_41 v) (f29_43 v) (f29_45 v) (f29_47 v) (f29_49 v) (f29_51 v) (f29_54 v) (f29_56 v) (f29_57 v) == f29_33 v && true))))) (0 : Int) (f29_51 v))
noncomputable def f29_21 (v : V29) : (Int) := cnd (f29_25 v) (0 : Int) (cnd (cnd (cnd (f100_10 (f29_36 v) (f29_37 v) != (0 : Int)) true !f34_0 (f29_39 v) (f29_41 v) (f29_43 v) (f29_45 v) (f29_47 v) (f29_49 v) (f29_51 v) (f29_54 v) (f29_56 v) (f29_57 v)) true !(f104_2 (f29_39 v) (f29_41 v) (f29_43 v) (f29_45 v) (f29_47 v) (f29_49 v) (f29_51 v) (f29_54 v) (f29_56 v) (f29_57 v) == f29_30 v && (f104_3 (f29_39 v) (f29_41 v) (f29_43 v) (f29_45 v) (f29_47 v) (f29_49 v) (f29_51 v) (f29_54 v) (f29_56 v) (f29_57 v) == f29_31 v && (f104_4 (f29_39 v) (f29_41 v) (f29_43 v) (f29_45 v) (f29_47 v) (f29_49 v) (f29_51 v) (f29_54 v) (f29_56 v) (f29_57 v) == f29_32 v && (f104_5 (f29_39 v) (f29_41 v) (f29_43 v) (f29_45 v) (f29_47 v) (f29_49 v) (f29_51 v) (f29_54 v) (f29_56 v) (f29_57 v) == f29_33 v && true))))) (0 : Int) (f29_54 v))
noncomputable def f29_22 (v : V29) : (Int) := cnd (f29_25 v) (0 : Int) (cnd (cnd (cnd (f100_10 (f29_36 v) (f29_37 v) != (0 : Int)) true !f34_0 (f29_39 v) (f29_41 v) (f29_43 v) (f29_45 v) (f29_47 v) (f29_49 v) (f29_51 v) (f29_54 v) (f29_56 v) (f29_57 v)) true !(f104_2 (f29_39 v) (f29_41 v) (f29_43 v) (f29_45 v) (f29_47 v) (f29_49 v) (f29_51 v) (f29_54 v) (f29_56 v) (f29_57 v) == f29_30 v && (f104_3 (f29_39 v) (f29_41 v) (f29_43 v) (f29_45 v) (f29_47 v) (f29_49 v) (f29_51 v) (f29_54 v) (f29_56 v) (f29_57 v) == f29_31 v && (f104_4 (f29_39 v) (f29_41 v) (f29_43 v) (f29_45 v) (f29_47 v) (f29_49 v) (f29_51 v) (f29_54 v) (f29_56 v) (f29_57 v) == f29_32 v && (f104_5 (f29_39 v) (f29_41 v) (f29_43 v) (f29_45 v) (f29_47 v) (f29_49 v) (f29_51 v) (f29_54 v) (f29_56 v) (f29_57 v) == f29_33 v && true))))) (0 : Int) (f29_56 v))
noncomputable def f29_23 (v : V29) : (Int) := cnd (f29_25 v) (0 : Int) (cnd (cnd (cnd (f100_10 (f29_36 v) (f29_37 v) != (0 : Int)) true !f34_0 (f29_39 v) (f29_41 v) (f29_43 v) (f29_45 v) (f29_47 v) (f29_49 v) (f29_51 v) (f29_54 v) (f29_56 v) (f29_57 v)) true !(f104_2 (f29_39 v) (f29_41 v) (f29_43 v) (f29_45 v) (f29_47 v) (f29_49 v) (f29_51 v) (f29_54 v) (f29_56 v) (f29_57 v) == f29_30 v && (f104_3 (f29_39 v) (f29_41 v) (f29_43 v) (f29_45 v) (f29_47 v) (f29_49 v) (f29_51 v) (f29_54 v) (f29_56 v) (f29_57 v) == f29_31 v && (f104_4 (f29_39 v) (f29_41 v) (f29_43 v) (f29_45 v) (f29_47 v) (f29_49 v) (f29_51 v) (f29_54 v) (f29_56 v) (f29_57 v) == f29_32 v && (f104_5 (f29_39 v) (f29_41 v) (f29_43 v) (f29_45 v) (f29_47 v) (f29_49 v) (f29_51 v) (f29_54 v) (f29_56 v) (f29_57 v) == f29_33 v && true))))) (0 : Int) (f29_57 v))
noncomputable def f29_24 (v : V29) : (Int) := cnd (f29_25 v) (f99_0 (V99.mk v.at_ v.M)) (cnd (cnd (cnd (f100_10 (f29_36 v) (f29_37 v) != (0 : Int)) true !f34_0 (f29_39 v) (f29_41 v) (f29_43 v) (f29_45 v) (f29_47 v) (f29_49 v) (f29_51 v) (f29_54 v) (f29_56 v) (f29_57 v)) true !(f104_2 (f29_39 v) (f29_41 v) (f29_43 v) (f29_45 v) (f29_47 v) (f29_49 v) (f29_51 v) (f29_54 v) (f29_56 v) (f29_57 v) == f29_30 v && (f104_3 (f29_39 v) (f29_41 v) (f29_43 v) (f29_45 v) (f29_47 v) (f29_49 v) (f29_51 v) (f29_54 v) (f29_56 v) (f29_57 v) == f29_31 v && (f104_4 (f29_39 v) (f29_41 v) (f29_43 v) (f29_45 v) (f29_47 v) (f29_49 v) (f29_51 v) (f29_54 v) (f29_56 v) (f29_57 v) == f29_32 v && (f104_5 (f29_39 v) (f29_41 v) (f29_43 v) (f29_45 v) (f29_47 v) (f29_49 v) (f29_51 v) (f29_54 v) (f29_56 v) (f29_57 v) == f29_33 v && true))))) (10 : Int) (0 : Int))
end Go.Sx.M

namespace Go.Sx.M
open Go Go.Sx Go.Proofs Go.RowKit
set_option maxRecDepth 100000
structure V91 where
  at_ : Int
  k : Int
  a : Int
  b : Int
  r : Int
  g : Int
  s : Int
  m : Int
  x : Int
  p : Int
  d : Int
  M : th.R
noncomputable def f91_10 (v : V91) : (Bool) := f99_0 (V99.mk v.at_ v.M) != (0 : Int)
noncomputable def f91_11 (v : V91) : (Bool) := !f34_0 v.k v.a v.b v.r v.g v.s v.m v.x v.p v.d
noncomputable def f91_12 (v : V91) : (Int) := IntKind.u64.wrap (v.at_ + (0 : Int))
noncomputable def f91_13 (v : V91) : (Int) := [f104_2 v.k v.a v.b v.r v.g v.s v.m v.x v.p v.d, f104_3 v.k v.a v.b v.r v.g v.s v.m v.x v.p v.d, f104_4 v.k v.a v.b v.r v.g v.s v.m v.x v.p v.d, f104_5 v.k v.a v.b v.r v.g v.s v.m v.x v.p v.d].getD (0:Nat) (0 : Int)
noncomputable def f91_14 (v : V91) : (Int) := IntKind.u64.wrap (v.at_ + (8 : Int))
noncomputable def f91_15 (v : V91) : (Int) := [f104_2 v.k v.a v.b v.r v.g v.s v.m v.x v.p v.d, f104_3 v.k v.a v.b v.r v.g v.s v.m v.x v.p v.d, f104_4 v.k v.a v.b v.r v.g v.s v.m v.x v.p v.d, f104_5 v.k v.a v.b v.r v.g v.s v.m v.x v.p v.d].getD (1 : Nat) (0 : Int)
noncomputable def f91_16 (v : V91) : (Int) := IntKind.u64.wrap (v.at_ + (16 : Int))
noncomputable def f91_17 (v : V91) : (Int) := [f104_2 v.k v.a v.b v.r v.g v.s v.m v.x v.p v.d, f104_3 v.k v.a v.b v.r v.g v.s v.m v.x v.p v.d, f104_4 v.k v.a v.b v.r v.g v.s v.m v.x v.p v.d, f104_5 v.k v.a v.b v.r v.g v.s v.m v.x v.p v.d].getD (2 : Nat) (0 : Int)
noncomputable def f91_18 (v : V91) : (Int) := IntKind.u64.wrap (v.at_ + (24 : Int))
noncomputable def f91_19 (v : V91) : (Int) := [f104_2 v.k v.a v.b v.r v.g v.s v.m v.x v.p v.d, f104_3 v.k v.a v.b v.r v.g v.s v.m v.x v.p v.d, f104_4 v.k v.a v.b v.r v.g v.s v.m v.x v.p v.d, f104_5 v.k v.a v.b v.r v.g v.s v.m v.x v.p v.d].getD (3 : Nat) (0 : Int)
noncomputable def f91_8 (v : V91) : (Int) := cnd (f91_10 v) (f99_0 (V99.mk v.at_ v.M)) (cnd (f91_11 v) (10 : Int) (0 : Int))
noncomputable def f91_9 (v : V91) : (Mem) := mrgM (f91_10 v) v.M (mrgM (f91_11 v) v.M (wrM (wrM (wrM (wrM v.M (f91_12 v) (f91_13 v)) (f91_14 v) (f91_15 v)) (f91_16 v) (f91_17 v)) (f91_18 v) (f91_19 v)))
end Go.Sx.M

namespace Go.Sx.M
open Go Go.Sx

theorem halves_eq {w : Nat} (hw : w < 18446744073709551616) : ∀ j, halves (w : Int) j = ((w / 2 ^ j : Nat) : Int)
  | 0 => by simp [halves]
  | j + 1 => by
    have hle : w / 2 ^ j ≤ w := Nat.div_le_self _ _
    rw [halves, halves_eq hw j]
    have e : ((w / 2 ^ j : Nat) : Int).tdiv 2 = ((w / 2 ^ j / 2 : Nat) : Int) := rfl
    have h2 : w / 2 ^ j / 2 ≤ w := Nat.le_trans (Nat.div_le_self _ _) hle
    rw [e, wrap_u64_id (Int.natCast_nonneg _) (by omega), Nat.div_div_eq_div_mul, ← Nat.pow_succ]
theorem bitI_eq {w : Nat} (hw : w < 18446744073709551616) (j : Nat) : bitI (w : Int) j = Nat.testBit w j := by
  have e : ((w / 2 ^ j : Nat) : Int).tmod 2 = ((w / 2 ^ j % 2 : Nat) : Int) := rfl
  rw [bitI, halves_eq hw, e, Nat.testBit_eq_decide_div_mod_eq]
  by_cases h : w / 2 ^ j % 2 = 1
  · simp [h]
  · have : w / 2 ^ j % 2 = 0 := by omega
    simp [this]
theorem word_step {f : Nat → Bool} {w : Nat} (hw : w < 18446744073709551616) (hf : ∀ j, j < 64 → f j = Nat.testBit w j) : ∀ i, i ≤ 64 → word67 f i = ((w / 2 ^ (64 - i) : Nat) : Int)
  | 0, _ => by
    have : w / 2 ^ 64 = 0 := Nat.div_eq_of_lt (by simpa using hw)
    simp only [word67, Nat.sub_zero, this]
    rfl
  | i + 1, h => by
    have ih := word_step hw hf i (by omega)
    have hc := cd67_eq (n := i) (by omega)
    have hs : sel67 f (cd67 i).toNat = Nat.testBit w (63 - i) := by
      have e : (cd67 i).toNat = 63 - i := by rw [hc]; omega
      rw [e, ← hf (63 - i) (by omega)]
      unfold sel67
      have : 63 - i < 64 := by omega
      simp [List.getD_eq_getElem?_getD, this]
    have hp : 2 ^ (64 - i) = 2 ^ (63 - i) * 2 := by rw [← Nat.pow_succ]; congr 1; omega
    have hq : w / 2 ^ (64 - i) = w / 2 ^ (63 - i) / 2 := by rw [hp, Nat.div_div_eq_div_mul]
    have hle : w / 2 ^ (63 - i) ≤ w := Nat.div_le_self _ _
    rw [word67, ih, hs, Nat.testBit_eq_decide_div_mod_eq, show 64 - (i + 1) = 63 - i by omega, hq]
    generalize w / 2 ^ (63 - i) = q at *
    rw [wrap_u64_id (x := ((q / 2 : Nat) : Int) * 2) (by omega) (by omega), wrap_u64_id (by omega) (by omega), cnd_eq]
    by_cases hb : q % 2 = 1
    · simp only [hb, decide_true, if_true]; omega
    · simp only [hb, decide_false, Bool.false_eq_true, if_false]; omega
theorem wordI_eq {f : Nat → Bool} {w : Nat} (hw : w < 18446744073709551616) (hf : ∀ j, j < 64 → f j = Nat.testBit w j) : wordI f = w := by
  have := word_step hw hf 64 (Nat.le_refl _)
  rw [Nat.sub_self, Nat.pow_zero, Nat.div_one] at this
  exact this
theorem downI_eq {w : Nat} (hw : w < 18446744073709551616) (n : Int) : downI (w : Int) n = ((w / 2 ^ (min n.toNat 64) * 2 ^ (min n.toNat 64) : Nat) : Int) := by
  generalize hN : min n.toNat 64 = N
  have hle : w / 2 ^ N * 2 ^ N ≤ w := Nat.div_mul_le_self _ _
  refine wordI_eq (by omega) fun j hj => ?_
  rw [down72, hN, bitI_eq hw]
  have e : w / 2 ^ N * 2 ^ N = (w >>> N) <<< N := by rw [Nat.shiftLeft_eq, Nat.shiftRight_eq_div_pow]
  rw [e, Nat.testBit_shiftLeft, Nat.testBit_shiftRight]
  by_cases h : j < N
  · have : ¬ j ≥ N := by omega
    simp [h, this]
  · have h2 : j ≥ N := by omega
    simp only [h, if_false, h2, decide_true, Bool.true_and]
    congr 1
    omega
/-- With the lowest bits struck. -/
theorem andNot_ones {w : Nat} (hw : w < 18446744073709551616) {n : Int} (h0 : 0 ≤ n) (h1 : n ≤ 63) : Go.bits .andNot .u64 (w : Int) (f123_1 n) = ((w / 2 ^ n.toNat * 2 ^ n.toNat : Nat) : Int) := by
  have hp := p26_eq (n := n.toNat) (by omega)
  have hpos : 0 < 2 ^ n.toNat := Nat.pow_pos (by omega)
  have hle : 2 ^ n.toNat ≤ 2 ^ 63 := Nat.pow_le_pow_right (by omega) (by omega)
  have h63 : (2 : Nat) ^ 63 = 9223372036854775808 := by decide
  have h64 : (2 : Nat) ^ 64 = 18446744073709551616 := by decide
  have e : p26 n.toNat - 1 = ((2 ^ n.toNat - 1 : Nat) : Int) := by rw [hp]; omega
  rw [ones_eq h0 h1, e, u64_andNot_nat w _ hw (by omega)]
  congr 1
  apply Nat.eq_of_testBit_eq
  intro j
  have e1 : 18446744073709551615 - (2 ^ n.toNat - 1) = 2 ^ 64 - ((2 ^ n.toNat - 1) + 1) := by omega
  have e2 : w / 2 ^ n.toNat * 2 ^ n.toNat = (w >>> n.toNat) <<< n.toNat := by rw [Nat.shiftLeft_eq, Nat.shiftRight_eq_div_pow]
  rw [e1, e2, Nat.testBit_and, Nat.testBit_two_pow_sub_succ (by omega), Nat.testBit_two_pow_sub_one, Nat.testBit_shiftLeft, Nat.testBit_shiftRight]
  by_cases h : j < n.toNat
  · have : ¬ j ≥ n.toNat := by omega
    simp [h, this]
  · have h2 : j ≥ n.toNat := by omega
    have h3 : n.toNat + (j - n.toNat) = j := by omega
    simp only [h, h2, h3, decide_true, decide_false, Bool.not_false, Bool.and_true, Bool.true_and]
    by_cases h4 : j < 64
    · simp [h4]
    · have : w.testBit j = false := Nat.testBit_lt_two_pow (Nat.lt_of_lt_of_le (by omega) (Nat.pow_le_pow_right (n := 2) (i := 64) (by omega) (by omega)))
      simp [this]
end Go.Sx.M

namespace Go.Sx.M
open Go Go.Sx

theorem size_eq (k b : Int) : (f172_1 k b = true ∧ f172_0 k b = f176_0 k b ∧ (f176_0 k b = -1 ∨ (5 ≤ f176_0 k b ∧ f176_0 k b ≤ 32))) ∨ (f172_1 k b = false ∧ f176_0 k b = -2) := by
  simp only [f172_0, f172_1, f173_0, f173_1, f176_0, cnd_eq]
  grind (splits := 60) [wrap_i64]
theorem lies_eq {k a b r g s m : Int} (ha : 0 ≤ a) (ha2 : a < 18446744073709551616) : f120_0 k a b r g s m = f127_1 k a b r g s m := by
  rcases size_eq k b with ⟨h1, h2, h3 | ⟨h3, h4⟩⟩ | ⟨h1, h2⟩
  · simp only [f120_0, f127_1, h1, h2, h3, cnd_eq]
    simp
  · rw [lies_at h1 (by omega) (by omega) ha ha2]
    have hp := p26_eq (n := (f176_0 k b).toNat) (by omega)
    have hle := p26_le (n := (f176_0 k b).toNat) (m := 32) (by omega) (by omega)
    have h32 : p26 32 = 4294967296 := by decide +kernel
    have hpos := p26_pos (n := (f176_0 k b).toNat) (by omega)
    have hdvd : p26 (f176_0 k b).toNat ∣ 4294967296 := by
      rw [hp]
      have : (4294967296 : Int) = ((2 ^ 32 : Nat) : Int) := by decide
      rw [this, Int.natCast_dvd_natCast]
      exact Nat.pow_dvd_pow 2 (by omega)
    have hd : decide (f176_0 k b < 0) = false := by simp; omega
    have htm : a.tmod (p26 (f176_0 k b).toNat) = a % p26 (f176_0 k b).toNat := Int.tmod_eq_emod_of_nonneg ha
    simp only [f127_1, h2, hd, htm, cnd_eq]
    generalize p26 (f176_0 k b).toNat = q at *
    by_cases hal : a % q = 0
    · by_cases hlt : a < 4294967296
      · have hd : q ∣ 4294967296 - a := Int.dvd_sub hdvd (Int.dvd_of_emod_eq_zero hal)
        have hle2 : q ≤ 4294967296 - a := Int.le_of_dvd (by omega) hd
        rw [wrap_u64_id (x := a + q) (by omega) (by omega)]
        simp [hal, hlt]
        omega
      · simp [hal, hlt]
    · simp [hal]
  · have hf : f120_0 k a b r g s m = false := by simp only [f120_0, h1, cnd_eq]; simp
    rw [hf]
    simp only [f127_1, h2, cnd_eq]
    simp
theorem low_eq {m : Int} (hm : 0 ≤ m) : f195_1 m = decide (m < 281474976710656) := by
  have : m.fdiv 281474976710656 = m / 281474976710656 := Int.fdiv_eq_ediv_of_nonneg m (by omega)
  simp only [f195_1, this]
  by_cases h : m < 281474976710656
  · have : m / 281474976710656 = 0 := by omega
    simp [h, this]
  · have : ¬ m / 281474976710656 = 0 := by omega
    simp [h, this]
/-- A level's bits. -/
theorem bits_eq {l : Int} (h0 : 0 ≤ l) (h1 : l < 4) : f194_0 l = 12 + 9 * (3 - l) ∧ f213_2 l = 12 + 9 * (3 - l) := by
  have : l = 0 ∨ l = 1 ∨ l = 2 ∨ l = 3 := by omega
  rcases this with rfl | rfl | rfl | rfl <;> decide +kernel
theorem base_eq {m l : Int} (hm : 0 ≤ m) (hm2 : m < 281474976710656) (h0 : 0 ≤ l) (h1 : l < 4) : f196_0 m l = f197_2 m l := by
  obtain ⟨w, rfl⟩ : ∃ w : Nat, m = w := ⟨m.toNat, by omega⟩
  obtain ⟨e1, e2⟩ := bits_eq h0 h1
  have hk : f210_0 l = true := by simp [f210_0, cnd_eq]; omega
  have ht : ((w : Int)).tmod 281474976710656 = w := by
    rw [Int.tmod_eq_emod_of_nonneg (by omega)]; omega
  have ha : Go.bits Go.BinOp.and IntKind.u64 (w : Int) 281474976710655 = w := by
    have : (281474976710655 : Int) = ((281474976710655 : Nat) : Int) := rfl
    rw [this, u64_and_nat w _ (by omega) (by omega)]
    have e3 : 281474976710655 = 2 ^ 48 - 1 := by decide
    rw [e3, Nat.and_two_pow_sub_one_eq_mod]
    congr 1
    exact Nat.mod_eq_of_lt (by have : (2:Nat)^48 = 281474976710656 := by decide
                               omega)
  have hmin : min (12 + 9 * (3 - l)).toNat 64 = (12 + 9 * (3 - l)).toNat := by omega
  simp only [f196_0, hk, ha, f211_0, e1, f197_2, ht, e2, cnd]
  rw [downI_eq (by omega), hmin]
  exact andNot_ones (by omega) (by omega) (by omega)
theorem place_eq {m l : Int} (hm : 0 ≤ m) (h0 : 0 ≤ l) (h1 : l < 4) : cnd (f195_1 m) (f196_0 m l == m) false = f177_1 m l := by
  rw [low_eq hm, f177_1]
  by_cases h : m < 281474976710656
  · rw [base_eq hm h h0 h1]
  · simp [h, cnd_eq]
theorem below_pow {m g : Int} (hm : 0 ≤ m) (hm2 : m < 18446744073709551616) (h0 : 0 ≤ g) (h1 : g ≤ 63) : (Go.bits Go.BinOp.andNot IntKind.u64 m (f123_1 g) == 0) = decide (m < p26 g.toNat) := by
  obtain ⟨w, rfl⟩ : ∃ w : Nat, m = w := ⟨m.toNat, by omega⟩
  have hpos : 0 < 2 ^ g.toNat := Nat.pow_pos (by omega)
  rw [andNot_ones (by omega) h0 h1, p26_eq (by omega)]
  by_cases h : w < 2 ^ g.toNat
  · have e : w / 2 ^ g.toNat = 0 := Nat.div_eq_of_lt h
    have h' : (w : Int) < ((2 ^ g.toNat : Nat) : Int) := Int.ofNat_lt.2 h
    simp only [e, h', decide_true, Nat.zero_mul]
    rfl
  · have e : 0 < w / 2 ^ g.toNat := Nat.div_pos (by omega) hpos
    have e2 : 0 < w / 2 ^ g.toNat * 2 ^ g.toNat := Nat.mul_pos e hpos
    have h' : ¬ (w : Int) < ((2 ^ g.toNat : Nat) : Int) := fun x => h (Int.ofNat_lt.1 x)
    simp only [h', decide_false]
    generalize w / 2 ^ g.toNat * 2 ^ g.toNat = z at *
    simp
    omega
theorem rights_eq (r : Int) : f119_0 r 3 = (decide (0 ≤ r) && decide (r ≤ 3)) := by
  by_cases h : 0 ≤ r ∧ r ≤ 7
  · have : r = 0 ∨ r = 1 ∨ r = 2 ∨ r = 3 ∨ r = 4 ∨ r = 5 ∨ r = 6 ∨ r = 7 := by omega
    rcases this with rfl | rfl | rfl | rfl | rfl | rfl | rfl | rfl <;> decide +kernel
  · have h1 : f116_0 r = false := by simp [f116_0, cnd_eq]; omega
    simp only [f119_0, h1, cnd]
    simp
    omega
theorem marked_eq {k a b r g s m : Int} (hb : -9223372036854775808 ≤ b ∧ b < 9223372036854775808) (hm : 0 ≤ m) (hm2 : m < 18446744073709551616) (hg : 0 ≤ g) (hg2 : g < 9223372036854775808) (hgk : k = 2 ∨ k = 4 ∨ g = 0)
    (hs : 0 ≤ s) (hsk : k = 3 ∨ k = 4 ∨ k = 5 ∨ s = 0) (hn : f172_1 k b = true) : f121_1 k a b r g s m = f128_5 k a b r g s m := by
  by_cases k1 : k = 1
  · subst k1
    have hb2 : 5 ≤ b ∧ b ≤ 32 := by revert hn; simp [f172_1, cnd_eq]
    have hg0 : g = 0 := by omega
    subst hg0
    have hpos := p26_pos (n := b.toNat) (by omega)
    have hle := p26_le (n := b.toNat) (m := 32) (by omega) (by omega)
    have h32 : p26 32 = 4294967296 := by decide +kernel
    have h5 : p26 (Int.toNat 5) = 32 := by decide +kernel
    have htm : m.tmod 32 = m % 32 := Int.tmod_eq_emod_of_nonneg hm
    simp only [f121_1, f128_5, ones_eq (n := b) (by omega) (by omega), aligned_eq (n := 5) hm hm2 (by omega) (by omega), h5, htm, cnd_eq]
    rw [wrap_u64_id (by omega) (by omega)]
    by_cases hh : m % 32 = 0 <;> simp [hh]
  by_cases k2 : k = 2
  · subst k2
    have hb2 : 1 ≤ b ∧ b ≤ 12 := by revert hn; simp [f172_1, cnd_eq]
    have hw : IntKind.i64.wrap (64 - b) = 64 - b := wrap_i64 (by omega) (by omega)
    simp only [f121_1, f128_5, hw, cnd_eq]
    by_cases hg3 : g ≤ 63
    · rw [below_pow hm hm2 hg hg3]
      grind
    · grind
  by_cases k3 : k = 3
  · subst k3
    have hg0 : g = 0 := by omega
    subst hg0
    have hb2 : b = 12 ∨ b = 21 ∨ b = 30 := by revert hn; simp only [f172_1, f173_0, f173_1, cnd_eq]; grind
    by_cases hs0 : s = 0
    · subst hs0; simp [f121_1, f128_5, f174_0, cnd_eq]
    · have hp : ∀ l, 0 ≤ l → l < 4 → cnd (f195_1 m) (f196_0 m l == m) false = f177_1 m l := fun l h0 h1 => place_eq hm h0 h1
      have e1 : f173_0 12 = 3 := by decide +kernel
      have e2 : f173_0 21 = 2 := by decide +kernel
      have e3 : f173_0 30 = 1 := by decide +kernel
      rcases hb2 with rfl | rfl | rfl
      · simp only [f121_1, f128_5, f174_0, e1, hp 3 (by omega) (by omega)]; simp [cnd_eq, hs0]
      · simp only [f121_1, f128_5, f174_0, e2, hp 2 (by omega) (by omega)]; simp [cnd_eq, hs0]
      · simp only [f121_1, f128_5, f174_0, e3, hp 1 (by omega) (by omega)]; simp [cnd_eq, hs0]
  by_cases k4 : k = 4
  · subst k4
    by_cases hs0 : s = 0
    · subst hs0
      simp only [f121_1, f128_5, f174_0, cnd_eq]
      grind
    · have hw : IntKind.i64.wrap (g - 1) = g - 1 := wrap_i64 (by omega) (by omega)
      by_cases hg1 : 1 ≤ g ∧ g ≤ 3
      · have hp := place_eq (m := m) (l := g - 1) hm (by omega) (by omega)
        simp only [f121_1, f128_5, f174_0, hw, hp]
        simp only [cnd_eq]
        grind
      · simp only [f121_1, f128_5, f174_0, hw, cnd_eq]
        grind
  have hg0 : g = 0 := by omega
  subst hg0
  by_cases k7 : k = 7
  · subst k7; simp [f121_1, f128_5, cnd_eq]
  by_cases k9 : k = 9
  · subst k9; simp [f121_1, f128_5, cnd_eq]
  by_cases k10 : k = 10
  · subst k10
    have hb2 : 1 ≤ b ∧ b ≤ 12 := by revert hn; simp [f172_1, cnd_eq]
    have e3 : min b.toNat IntKind.u64.bits = b.toNat := by simp only [IntKind.bits]; omega
    have e4 : (2 : Int) ^ b.toNat = p26 b.toNat := by rw [p26_eq (by omega)]; simp
    have hpos := p26_pos (n := b.toNat) (by omega)
    have hle := p26_le (n := b.toNat) (m := 32) (by omega) (by omega)
    have h32 : p26 32 = 4294967296 := by decide +kernel
    have e5 : IntKind.u64.wrap (1 * p26 b.toNat) = p26 b.toNat := by rw [Int.one_mul, wrap_u64_id (by omega) (by omega)]
    simp [f121_1, f128_5, cnd_eq, e3, e4]
    rw [wrap_u64_id (by omega) (by omega)]
  · simp [f121_1, f128_5, cnd_eq, k1, k2, k3, k4, k7, k9, k10]
theorem right_eq {k a b r g s m : Int} (ha : 0 ≤ a) (ha2 : a < 18446744073709551616) (hb : -9223372036854775808 ≤ b ∧ b < 9223372036854775808) (hm : 0 ≤ m) (hm2 : m < 18446744073709551616) (hg2 : g < 9223372036854775808) :
    f45_1 k a b r g s m = f50_2 k a b r g s m := by
  by_cases hl : f127_1 k a b r g s m = true
  · have hn : f172_1 k b = true := by
      rcases size_eq k b with ⟨h, _⟩ | ⟨_, h⟩
      · exact h
      · exfalso; revert hl; simp [f127_1, h, cnd_eq]
    by_cases hc : 0 ≤ g ∧ (k = 2 ∨ k = 4 ∨ g = 0) ∧ 0 ≤ s ∧ (k = 3 ∨ k = 4 ∨ k = 5 ∨ s = 0)
    · obtain ⟨c1, c2, c3, c4⟩ := hc
      simp only [f45_1, f50_2, lies_eq ha ha2, hl, marked_eq hb hm hm2 c1 hg2 c2 c3 c4 hn, rights_eq, f118_0, f116_0, cnd_eq]
      generalize f128_5 k a b r g s m = z
      grind (splits := 40)
    · by_cases hgz : 0 ≤ g ∧ (k = 2 ∨ k = 4 ∨ g = 0)
      · have : ¬ (0 ≤ s ∧ (k = 3 ∨ k = 4 ∨ k = 5 ∨ s = 0)) := fun h => hc ⟨hgz.1, hgz.2, h.1, h.2⟩
        simp only [f45_1, f50_2, lies_eq ha ha2, hl, cnd_eq]
        generalize f128_5 k a b r g s m = z
        generalize f121_1 k a b r g s m = z'
        grind (splits := 40)
      · have hz : f128_5 k a b r g s m = false := by
          simp only [f128_5, cnd_eq]
          grind (splits := 40)
        simp only [f45_1, f50_2, lies_eq ha ha2, hl, hz, cnd_eq]
        generalize f121_1 k a b r g s m = z'
        grind (splits := 40)
  · simp only [Bool.not_eq_true] at hl
    simp only [f45_1, f50_2, lies_eq ha ha2, hl, cnd_eq]
    simp
end Go.Sx.M

namespace Go.Sx.M
open Go Go.Sx

theorem cf {α : Type} (a b : α) : cnd false a b = b := rfl
theorem right_size' {k a b r g s m : Int} (h : f45_1 k a b r g s m = true) : f172_1 k b = true ∧ f172_0 k b = f176_0 k b ∧ (f176_0 k b = -1 ∨ (5 ≤ f176_0 k b ∧ f176_0 k b ≤ 32)) := by
  rcases size_eq k b with h1 | ⟨h1, _⟩
  · exact h1
  · rw [right_size h1] at h; cases h
end Go.Sx.M

namespace Go.Sx.M
open Go Go.Sx

/-- A field's number read: a quotient's rest. -/
theorem field_get {l d : Int} {w : Nat} (hw : w < 18446744073709551616) (hf : f165_0 l d = true) (h0 : 0 ≤ l) (h1 : l ≤ 63) (h2 : 1 ≤ d) (h3 : d ≤ 63) : f102_1 l d w = ((w / 2 ^ l.toNat % 2 ^ d.toNat : Nat) : Int) := by
  have hp := p26_eq (n := d.toNat) (by omega)
  have hpos : 0 < 2 ^ d.toNat := Nat.pow_pos (by omega)
  have hle : 2 ^ d.toNat ≤ 2 ^ 63 := Nat.pow_le_pow_right (by omega) (by omega)
  have h63 : (2 : Nat) ^ 63 = 9223372036854775808 := by decide
  have e : p26 d.toNat - 1 = ((2 ^ d.toNat - 1 : Nat) : Int) := by rw [hp]; omega
  have e3 : min l.toNat IntKind.u64.bits = l.toNat := by simp only [IntKind.bits]; omega
  have e4 : ((w : Int)).fdiv (2 ^ l.toNat) = ((w / 2 ^ l.toNat : Nat) : Int) := by
    rw [Int.fdiv_eq_ediv_of_nonneg _ (by exact Int.le_of_lt (Int.pow_pos (by omega)))]
    simp
  have hq : w / 2 ^ l.toNat ≤ w := Nat.div_le_self _ _
  have hn : (!f165_0 l d) = false := by rw [hf]; rfl
  simp only [f102_1, hn, cf, e3, e4, ones_eq (n := d) (by omega) h3, e]
  rw [u64_and_nat _ _ (by omega) (by omega), Nat.and_two_pow_sub_one_eq_mod]
/-- A number put into a field of a word that is less than the field's lowest bit. -/
theorem field_put {l d : Int} {w v : Nat} (hf : f165_0 l d = true) (h0 : 0 ≤ l) (h1 : l ≤ 63) (h2 : 1 ≤ d) (h3 : d ≤ 63) (h4 : l + d ≤ 64) (hw : w < 2 ^ l.toNat) (hv : v < 2 ^ d.toNat) :
    f192_1 l d w v = ((w + v * 2 ^ l.toNat : Nat) : Int) := by
  have hp := p26_eq (n := d.toNat) (by omega)
  have hpos : 0 < 2 ^ d.toNat := Nat.pow_pos (by omega)
  have hposl : 0 < 2 ^ l.toNat := Nat.pow_pos (by omega)
  have h64 : (2 : Nat) ^ 64 = 18446744073709551616 := by decide
  have hd : 2 ^ d.toNat ≤ 2 ^ 63 := Nat.pow_le_pow_right (by omega) (by omega)
  have hl : 2 ^ l.toNat ≤ 2 ^ 63 := Nat.pow_le_pow_right (by omega) (by omega)
  have h63 : (2 : Nat) ^ 63 = 9223372036854775808 := by decide
  have hprod : 2 ^ d.toNat * 2 ^ l.toNat ≤ 2 ^ 64 := by rw [← Nat.pow_add]; exact Nat.pow_le_pow_right (by omega) (by omega)
  have e : p26 d.toNat - 1 = ((2 ^ d.toNat - 1 : Nat) : Int) := by rw [hp]; omega
  have e3 : min l.toNat IntKind.u64.bits = l.toNat := by simp only [IntKind.bits]; omega
  have hn : (!f165_0 l d) = false := by rw [hf]; rfl
  have hbel := below_pow (m := v) (g := d) (by omega) (by omega) (by omega) h3
  have hlt : decide ((v : Int) < p26 d.toNat) = true := by rw [hp]; simp only [decide_eq_true_eq]; exact Int.ofNat_lt.2 hv
  rw [hlt] at hbel
  have hne : (Go.bits Go.BinOp.andNot IntKind.u64 (v : Int) (f123_1 d) != 0) = false := by rw [bne, hbel]; rfl
  have hm1 : (2 ^ d.toNat - 1) * 2 ^ l.toNat < 18446744073709551616 := by
    have : (2 ^ d.toNat - 1) * 2 ^ l.toNat < 2 ^ d.toNat * 2 ^ l.toNat := Nat.mul_lt_mul_of_pos_right (by omega) hposl
    omega
  have hv1 : v * 2 ^ l.toNat < 18446744073709551616 := by
    have : v * 2 ^ l.toNat < 2 ^ d.toNat * 2 ^ l.toNat := Nat.mul_lt_mul_of_pos_right hv hposl
    omega
  have emask : f209_1 l d = (((2 ^ d.toNat - 1) * 2 ^ l.toNat : Nat) : Int) := by
    simp only [f209_1, hn, cf, e3, ones_eq (n := d) (by omega) h3, e]
    have : (((2 ^ d.toNat - 1 : Nat) : Int)) * 2 ^ l.toNat = (((2 ^ d.toNat - 1) * 2 ^ l.toNat : Nat) : Int) := by simp
    rw [this, wrap_u64_id (Int.natCast_nonneg _) (by omega)]
  have eshl : IntKind.u64.wrap ((v : Int) * 2 ^ l.toNat) = ((v * 2 ^ l.toNat : Nat) : Int) := by
    have : (v : Int) * 2 ^ l.toNat = ((v * 2 ^ l.toNat : Nat) : Int) := by simp
    rw [this, wrap_u64_id (Int.natCast_nonneg _) (by omega)]
  simp only [f192_1, hn, hne, cf, emask, e3, eshl]
  have hkeep : w &&& (18446744073709551615 - (2 ^ d.toNat - 1) * 2 ^ l.toNat) = w := by
    apply Nat.eq_of_testBit_eq
    intro j
    have e1 : 18446744073709551615 - (2 ^ d.toNat - 1) * 2 ^ l.toNat = 2 ^ 64 - ((2 ^ d.toNat - 1) * 2 ^ l.toNat + 1) := by omega
    rw [e1, Nat.testBit_and, Nat.testBit_two_pow_sub_succ (by omega), ← Nat.shiftLeft_eq, Nat.testBit_shiftLeft]
    by_cases hj : j < l.toNat
    · have h1 : j < 64 := by omega
      have h2 : ¬ j ≥ l.toNat := by omega
      simp [h1, h2]
    · have : w.testBit j = false := Nat.testBit_lt_two_pow (Nat.lt_of_lt_of_le hw (Nat.pow_le_pow_right (by omega) (by omega)))
      simp [this]
  rw [u64_andNot_nat w _ (by omega) (by omega), hkeep, u64_or_nat w _ (by omega) (by omega)]
  congr 1
  rw [Nat.or_comm, Nat.mul_comm, ← Nat.two_pow_add_eq_or_of_lt hw, Nat.add_comm]
end Go.Sx.M

namespace Go.Sx.M
open Go Go.Sx

/-- The numbers of a right one, in their fields. -/
theorem right_ranges {k a b r g s m : Int} (ha : 0 ≤ a) (ha2 : a < 18446744073709551616) (h : f50_2 k a b r g s m = true) (h1 : f45_1 k a b r g s m = true) :
    (0 ≤ k ∧ k ≤ 10) ∧ (0 ≤ b ∧ b ≤ 32) ∧ (0 ≤ r ∧ r ≤ 7) ∧ (0 ≤ g ∧ g ≤ 63) ∧ (0 ≤ s ∧ s ≤ 4095) ∧ a < 4294967296 ∧ a % 32 = 0 := by
  obtain ⟨q1, q2, q3⟩ := right_size' h1
  have hk : 0 ≤ k ∧ k ≤ 10 := by revert q1; simp only [f172_1, f173_0, f173_1, cnd_eq]; grind (splits := 40)
  have hb : 0 ≤ b ∧ b ≤ 32 := by revert q1; simp only [f172_1, f173_0, f173_1, cnd_eq]; grind (splits := 40)
  have hl : f127_1 k a b r g s m = true := by
    cases hh : f127_1 k a b r g s m with
    | true => rfl
    | false => rw [← h]; simp [f50_2, hh, cnd_eq]
  have hr : 0 ≤ r ∧ r ≤ 7 := by revert h; simp only [f50_2, f118_0, hl, cnd_eq]; grind (splits := 40)
  have hs : 0 ≤ s ∧ s ≤ 4095 := by revert h; simp only [f50_2, f118_0, hl, cnd_eq]; grind (splits := 40)
  have hg0 : 0 ≤ g := by revert h1; simp only [f45_1, cnd_eq]; grind (splits := 40)
  have hm : f128_5 k a b r g s m = true := by revert h; simp only [f50_2, hl, cnd_eq]; grind (splits := 40)
  have hg : g ≤ 63 := by revert hm; simp only [f128_5, cnd_eq]; grind (splits := 40)
  have hal : a < 4294967296 ∧ a % 32 = 0 := by
    rcases q3 with q3 | ⟨q3, q4⟩
    · have : a = 0 := by revert hl; simp [f127_1, q3, cnd_eq]
      omega
    · have hd : decide (f176_0 k b < 0) = false := by simp; omega
      have htm : a.tmod (p26 (f176_0 k b).toNat) = a % p26 (f176_0 k b).toNat := Int.tmod_eq_emod_of_nonneg ha
      have hlt : a < 4294967296 := by revert hl; simp only [f127_1, hd, cnd_eq]; grind
      have hmod : a % p26 (f176_0 k b).toNat = 0 := by revert hl; simp only [f127_1, hd, htm, cnd_eq]; grind
      have hdvd : (32 : Int) ∣ p26 (f176_0 k b).toNat := by
        rw [p26_eq (by omega)]
        have : (32 : Int) = ((2 ^ 5 : Nat) : Int) := by decide
        rw [this, Int.natCast_dvd_natCast]
        exact Nat.pow_dvd_pow 2 (by omega)
      have := Int.dvd_trans hdvd (Int.dvd_of_emod_eq_zero hmod)
      exact ⟨hlt, by omega⟩
  exact ⟨hk, hb, hr, ⟨hg0, hg⟩, hs, hal⟩
def wordN (k b r g s q : Nat) : Nat := k + b * 16 + r * 1024 + g * 8192 + s * 524288 + q * 34359738368
theorem word_put {k b r g s q : Nat} (hk : k < 16) (hb : b < 64) (hr : r < 8) (hg : g < 64) (hs : s < 65536) (hq : q < 134217728) :
    f192_1 35 27 (f192_1 19 16 (f192_1 13 6 (f192_1 10 3 (f192_1 4 6 (f192_1 0 4 0 k) b) r) g) s) q = wordN k b r g s q := by
  have p4 : (2 : Nat) ^ (Int.toNat 4) = 16 := by decide
  have p6 : (2 : Nat) ^ (Int.toNat 6) = 64 := by decide
  have p10 : (2 : Nat) ^ (Int.toNat 10) = 1024 := by decide
  have p3 : (2 : Nat) ^ (Int.toNat 3) = 8 := by decide
  have p13 : (2 : Nat) ^ (Int.toNat 13) = 8192 := by decide
  have p19 : (2 : Nat) ^ (Int.toNat 19) = 524288 := by decide
  have p16 : (2 : Nat) ^ (Int.toNat 16) = 65536 := by decide
  have p35 : (2 : Nat) ^ (Int.toNat 35) = 34359738368 := by decide
  have p27 : (2 : Nat) ^ (Int.toNat 27) = 134217728 := by decide
  have p0 : (2 : Nat) ^ (Int.toNat 0) = 1 := by decide
  have e0 : f192_1 0 4 0 k = ((0 + k * 2 ^ (Int.toNat 0) : Nat) : Int) := field_put (w := 0) (by decide +kernel) (by omega) (by omega) (by omega) (by omega) (by omega) (by rw [p0]; omega) (by rw [p4]; omega)
  rw [e0, field_put (l := 4) (d := 6) (by decide +kernel) (by omega) (by omega) (by omega) (by omega) (by omega) (by rw [p0, p4]; omega) (by rw [p6]; omega)]
  rw [field_put (l := 10) (d := 3) (by decide +kernel) (by omega) (by omega) (by omega) (by omega) (by omega) (by rw [p0, p4, p10]; omega) (by rw [p3]; omega)]
  rw [field_put (l := 13) (d := 6) (by decide +kernel) (by omega) (by omega) (by omega) (by omega) (by omega) (by rw [p0, p4, p10, p13]; omega) (by rw [p6]; omega)]
  rw [field_put (l := 19) (d := 16) (by decide +kernel) (by omega) (by omega) (by omega) (by omega) (by omega) (by rw [p0, p4, p10, p13, p19]; omega) (by rw [p16]; omega)]
  rw [field_put (l := 35) (d := 27) (by decide +kernel) (by omega) (by omega) (by omega) (by omega) (by omega) (by rw [p0, p4, p10, p13, p19, p35]; omega) (by rw [p27]; omega)]
  rw [p0, p4, p10, p13, p19, p35]
  unfold wordN
  congr 1
  omega
theorem word_get {k b r g s q : Nat} (hk : k < 16) (hb : b < 64) (hr : r < 8) (hg : g < 64) (hs : s < 65536) (hq : q < 134217728) :
    f102_1 0 4 (wordN k b r g s q) = k ∧ f102_1 4 6 (wordN k b r g s q) = b ∧ f102_1 10 3 (wordN k b r g s q) = r ∧ f102_1 13 6 (wordN k b r g s q) = g ∧ f102_1 19 16 (wordN k b r g s q) = s ∧ f102_1 35 27 (wordN k b r g s q) = q := by
  have p4 : (2 : Nat) ^ (Int.toNat 4) = 16 := by decide
  have p6 : (2 : Nat) ^ (Int.toNat 6) = 64 := by decide
  have p10 : (2 : Nat) ^ (Int.toNat 10) = 1024 := by decide
  have p3 : (2 : Nat) ^ (Int.toNat 3) = 8 := by decide
  have p13 : (2 : Nat) ^ (Int.toNat 13) = 8192 := by decide
  have p19 : (2 : Nat) ^ (Int.toNat 19) = 524288 := by decide
  have p16 : (2 : Nat) ^ (Int.toNat 16) = 65536 := by decide
  have p35 : (2 : Nat) ^ (Int.toNat 35) = 34359738368 := by decide
  have p27 : (2 : Nat) ^ (Int.toNat 27) = 134217728 := by decide
  have p0 : (2 : Nat) ^ (Int.toNat 0) = 1 := by decide
  have hw : wordN k b r g s q < 18446744073709551616 := by unfold wordN; omega
  refine ⟨?_, ?_, ?_, ?_, ?_, ?_⟩
  · rw [field_get hw (by decide +kernel) (by omega) (by omega) (by omega) (by omega), p0, p4]; unfold wordN; omega
  · rw [field_get hw (by decide +kernel) (by omega) (by omega) (by omega) (by omega), p4, p6]; unfold wordN; omega
  · rw [field_get hw (by decide +kernel) (by omega) (by omega) (by omega) (by omega), p10, p3]; unfold wordN; omega
  · rw [field_get hw (by decide +kernel) (by omega) (by omega) (by omega) (by omega), p13, p6]; unfold wordN; omega
  · rw [field_get hw (by decide +kernel) (by omega) (by omega) (by omega) (by omega), p19, p16]; unfold wordN; omega
  · rw [field_get hw (by decide +kernel) (by omega) (by omega) (by omega) (by omega), p35, p27]; unfold wordN; omega
/-- The first word of a right one: the program's and the document's. -/
theorem word_right {k a b r g s m : Int} (ha : 0 ≤ a) (ha2 : a < 18446744073709551616) (h : f50_2 k a b r g s m = true) (h1 : f45_1 k a b r g s m = true) :
    f164_14 k a b r g s m = wordN k.toNat b.toNat r.toNat g.toNat s.toNat (a / 32).toNat ∧ f160_2 k a b r g s m = wordN k.toNat b.toNat r.toNat g.toNat s.toNat (a / 32).toNat := by
  obtain ⟨hk, hb, hr, hg, hs, hal, hmod⟩ := right_ranges ha ha2 h h1
  have hn : (!f45_1 k a b r g s m) = false := by rw [h1]; rfl
  have hq : a.fdiv 32 = a / 32 := Int.fdiv_eq_ediv_of_nonneg a (by omega)
  have ht : a.tdiv 32 = a / 32 := Int.tdiv_eq_ediv_of_nonneg ha
  obtain ⟨q, hq2⟩ : ∃ q : Nat, a / 32 = q := ⟨(a / 32).toNat, by omega⟩
  have hql : q < 134217728 := by omega
  simp only [f164_14, f160_2, hn, cf, hq, ht, hq2]
  clear h h1 hn hq ht hq2 hal hmod ha ha2
  obtain ⟨k, rfl⟩ : ∃ n : Nat, k = n := ⟨k.toNat, by omega⟩
  obtain ⟨b, rfl⟩ : ∃ n : Nat, b = n := ⟨b.toNat, by omega⟩
  obtain ⟨r, rfl⟩ : ∃ n : Nat, r = n := ⟨r.toNat, by omega⟩
  obtain ⟨g, rfl⟩ : ∃ n : Nat, g = n := ⟨g.toNat, by omega⟩
  obtain ⟨s, rfl⟩ : ∃ n : Nat, s = n := ⟨s.toNat, by omega⟩
  simp only [Int.toNat_natCast]
  rw [wrap_u64_id (x := (k : Int)) (by omega) (by omega), wrap_u64_id (x := (b : Int)) (by omega) (by omega), wrap_u64_id (x := (r : Int)) (by omega) (by omega), wrap_u64_id (x := (g : Int)) (by omega) (by omega),
    wrap_u64_id (x := (s : Int)) (by omega) (by omega), wrap_u64_id (x := (q : Int)) (by omega) (by omega)]
  constructor
  · exact word_put (by omega) (by omega) (by omega) (by omega) (by omega) (by omega)
  · rw [wrap_u64_id (x := (b : Int) * 16) (by omega) (by omega), wrap_u64_id (x := (k : Int) + b * 16) (by omega) (by omega)]
    rw [wrap_u64_id (x := (r : Int) * 1024) (by omega) (by omega), wrap_u64_id (x := (k : Int) + b * 16 + r * 1024) (by omega) (by omega)]
    rw [wrap_u64_id (x := (g : Int) * 8192) (by omega) (by omega), wrap_u64_id (x := (k : Int) + b * 16 + r * 1024 + g * 8192) (by omega) (by omega)]
    rw [wrap_u64_id (x := (s : Int) * 524288) (by omega) (by omega), wrap_u64_id (x := (k : Int) + b * 16 + r * 1024 + g * 8192 + s * 524288) (by omega) (by omega)]
    rw [wrap_u64_id (x := (q : Int) * 34359738368) (by omega) (by omega), wrap_u64_id (x := (k : Int) + b * 16 + r * 1024 + g * 8192 + s * 524288 + q * 34359738368) (by omega) (by omega)]
    unfold wordN
    omega
end Go.Sx.M

namespace Go.Sx.M
open Go Go.Sx

theorem words_at {k a b r g s m : Int} (h1 : f45_1 k a b r g s m = true) : f164_15 k a b r g s m = m ∧ f164_16 k a b r g s m = 0 := by
  simp [f164_15, f164_16, h1, cnd_eq]
theorem words_no {k a b r g s m : Int} (h1 : f45_1 k a b r g s m = false) : f164_14 k a b r g s m = 0 ∧ f164_15 k a b r g s m = 0 ∧ f164_16 k a b r g s m = 10 := by
  simp [f164_14, f164_15, f164_16, h1, cnd_eq]
end Go.Sx.M

namespace Go.Sx.M
open Go Go.Sx
structure Sl where
  k : Int
  a : Int
  b : Int
  r : Int
  g : Int
  s : Int
  m : Int
  x : Int
  p : Int
  d : Int
  deriving DecidableEq
def sl0 : Sl := ⟨0, 0, 0, 0, 0, 0, 0, 0, 0, 0⟩
def U64 (a : Int) : Prop := 0 ≤ a ∧ a < 18446744073709551616
def I64 (a : Int) : Prop := -9223372036854775808 ≤ a ∧ a < 9223372036854775808
/-- The numbers of a slot are of their kinds. -/
structure SlR (z : Sl) : Prop where
  k : I64 z.k
  a : U64 z.a
  b : I64 z.b
  r : I64 z.r
  g : I64 z.g
  s : I64 z.s
  m : U64 z.m
  x : U64 z.x
  p : U64 z.p
  d : I64 z.d
def rgt (s : Sl) : Bool := f45_1 s.k s.a s.b s.r s.g s.s s.m
def rightS (s : Sl) : Bool := f34_0 s.k s.a s.b s.r s.g s.s s.m s.x s.p s.d
def wd0 (s : Sl) : Int := f104_2 s.k s.a s.b s.r s.g s.s s.m s.x s.p s.d
def wd1 (s : Sl) : Int := f104_3 s.k s.a s.b s.r s.g s.s s.m s.x s.p s.d
def wd2 (s : Sl) : Int := f104_4 s.k s.a s.b s.r s.g s.s s.m s.x s.p s.d
def wd3 (s : Sl) : Int := f104_5 s.k s.a s.b s.r s.g s.s s.m s.x s.p s.d
theorem link_iff {x : Int} (h : U64 x) : f107_1 x = true ↔ x < 4294967296 ∧ x % 32 = 0 := by
  have e : f125_0 x 5 = decide (x % 32 = 0) := by
    have := aligned_eq (a := x) (n := 5) h.1 h.2 (by omega) (by omega)
    rw [this]
    have : p26 (Int.toNat 5) = 32 := by decide +kernel
    rw [this]
    by_cases hh : x % 32 = 0 <;> simp [hh]
  have : x.fdiv 4294967296 = x / 4294967296 := Int.fdiv_eq_ediv_of_nonneg x (by omega)
  have h1 := h.1
  have h2 := h.2
  simp only [f107_1, e, this, cnd_eq]
  by_cases hx : x < 4294967296
  · have : x / 4294967296 = 0 := by omega
    simp [this, hx]
  · have : ¬ x / 4294967296 = 0 := by omega
    simp [this, hx]
theorem rightS_iff {s : Sl} (h : SlR s) : rightS s = true ↔ rgt s = true ∧ (s.x < 4294967296 ∧ s.x % 32 = 0) ∧ (s.p < 4294967296 ∧ s.p % 32 = 0) ∧ 0 ≤ s.d ∧ s.d ≤ 4096 := by
  have e1 := link_iff h.x
  have e2 := link_iff h.p
  rw [← e1, ← e2]
  simp only [rightS, f34_0, rgt]
  generalize f45_1 s.k s.a s.b s.r s.g s.s s.m = u
  generalize f107_1 s.x = v
  generalize f107_1 s.p = w
  cases u <;> cases v <;> cases w <;> simp [cnd] <;> (by_cases h1 : 0 ≤ s.d <;> by_cases h2 : s.d ≤ 4096 <;> simp [h1, h2])
theorem wd1_eq {s : Sl} (h : rgt s = true) : wd1 s = s.m := (words_at (k := s.k) (a := s.a) (b := s.b) (r := s.r) (g := s.g) (s := s.s) (m := s.m) h).1
theorem wd2_eq {s : Sl} (h : SlR s) (hx : s.x < 4294967296) (hp : s.p < 4294967296) : wd2 s = s.x / 32 + s.p / 32 * 4294967296 := by
  have hx0 := h.x.1
  have hp0 := h.p.1
  have e1 : s.x.fdiv 32 = s.x / 32 := Int.fdiv_eq_ediv_of_nonneg _ (by omega)
  have e2 : s.p.fdiv 32 = s.p / 32 := Int.fdiv_eq_ediv_of_nonneg _ (by omega)
  simp only [wd2, f104_4, e1, e2]
  obtain ⟨x, hx2⟩ : ∃ n : Nat, s.x / 32 = n := ⟨(s.x / 32).toNat, by omega⟩
  obtain ⟨q, hq2⟩ : ∃ n : Nat, s.p / 32 = n := ⟨(s.p / 32).toNat, by omega⟩
  rw [hx2, hq2]
  have hx3 : x < 134217728 := by omega
  have hq3 : q < 134217728 := by omega
  rw [wrap_u64_id (x := (q : Int) * 4294967296) (by omega) (by omega)]
  have e3 : (q : Int) * 4294967296 = ((q * 4294967296 : Nat) : Int) := by simp
  rw [e3, u64_or_nat x _ (by omega) (by omega)]
  have : x ||| q * 4294967296 = x + q * 4294967296 := by
    have h32 : q * 4294967296 = 2 ^ 32 * q := by omega
    rw [h32, Nat.or_comm, ← Nat.two_pow_add_eq_or_of_lt (by omega), Nat.add_comm]
  rw [this]; simp
theorem links_back {x q : Nat} (hx : x < 134217728) (hq : q < 134217728) : f102_1 0 27 ((x + q * 4294967296 : Nat) : Int) = x ∧ f102_1 32 27 ((x + q * 4294967296 : Nat) : Int) = q := by
  have p0 : (2 : Nat) ^ (Int.toNat 0) = 1 := by decide
  have p27 : (2 : Nat) ^ (Int.toNat 27) = 134217728 := by decide
  have p32 : (2 : Nat) ^ (Int.toNat 32) = 4294967296 := by decide
  refine ⟨?_, ?_⟩
  · rw [field_get (by omega) (by decide +kernel) (by omega) (by omega) (by omega) (by omega), p0, p27]; omega
  · rw [field_get (by omega) (by decide +kernel) (by omega) (by omega) (by omega) (by omega), p32, p27]; omega
theorem rgt2 {s : Sl} (h : SlR s) (hr : rgt s = true) : f50_2 s.k s.a s.b s.r s.g s.s s.m = true := by
  have hR := right_eq (k := s.k) (r := s.r) (s := s.s) h.a.1 h.a.2 h.b h.m.1 h.m.2 h.g.2
  exact hR.symm.trans hr
end Go.Sx.M

namespace Go.Sx.M
open Go Go.Sx Go.Proofs Go.RowKit
set_option maxRecDepth 100000
noncomputable def ldE (M : Mem) (a : Int) : Int := f29_24 ⟨a, M⟩
noncomputable def ld (M : Mem) (a : Int) : Sl := ⟨f29_14 ⟨a, M⟩, f29_15 ⟨a, M⟩, f29_16 ⟨a, M⟩, f29_17 ⟨a, M⟩, f29_18 ⟨a, M⟩, f29_19 ⟨a, M⟩, f29_20 ⟨a, M⟩, f29_21 ⟨a, M⟩, f29_22 ⟨a, M⟩, f29_23 ⟨a, M⟩⟩
end Go.Sx.M

namespace Go.Sx.M
open Go Go.Sx Go.Proofs Go.RowKit
set_option maxRecDepth 100000
noncomputable def stE (M : Mem) (a : Int) (z : Sl) : Int := f91_8 ⟨a, z.k, z.a, z.b, z.r, z.g, z.s, z.m, z.x, z.p, z.d, M⟩
noncomputable def stM (M : Mem) (a : Int) (z : Sl) : Mem := f91_9 ⟨a, z.k, z.a, z.b, z.r, z.g, z.s, z.m, z.x, z.p, z.d, M⟩
end Go.Sx.M

namespace Go.Sx.M
open Go Go.Sx
theorem i0 : I64 0 := by unfold I64; omega
theorem u0 : U64 0 := by unfold U64; omega
theorem SlR.setD {z : Sl} (h : SlR z) {y : Int} (hy : I64 y) : SlR { z with d := y } := ⟨h.k, h.a, h.b, h.r, h.g, h.s, h.m, h.x, h.p, hy⟩
theorem SlR.fresh {c : Sl} (h : SlR c) {d : Int} (hd : I64 d) : SlR { c with x := 0, p := 0, d := d } := ⟨h.k, h.a, h.b, h.r, h.g, h.s, h.m, u0, u0, hd⟩
theorem cnd_same {α : Type} (c : Bool) (a : α) : cnd c a a = a := by cases c <;> rfl
end Go.Sx.M

namespace Go.Sx.M
open Go Go.Sx
/-- A tree: its memory, the first slot, how many there are. -/
structure TS where
  M : Mem
  f : Int
  c : Int
theorem sl0_R : SlR sl0 := ⟨i0, u0, i0, i0, i0, i0, u0, u0, u0, i0⟩
end Go.Sx.M

namespace Go.Sx.M
open Go Go.Sx Go.Proofs Go.RowKit
theorem bltT {j k : Nat} : (Nat.blt j k = true) = (j < k) := propext (by simp [Nat.blt_eq])
theorem cnd_or (c d : Bool) : cnd c true d = (c || d) := by cases c <;> rfl
theorem wi {x : Int} (h1 : -9223372036854775808 ≤ x) (h2 : x < 9223372036854775808) : IntKind.i64.wrap x = x := wrap_i64 h1 h2
/-- A loop by an invariant, a measure, and what holds at its end. -/
theorem LT.post {R S : Type} [Inhabited S] {f : S → Tr (Rs R S)} (V Q : S → Prop) (μ : S → Nat)
    (h : ∀ s, V s → (f s).ok ∧ (((∃ ex sl hp, (f s).get = .out ex sl hp) ∧ Q s) ∨ ∃ s', (f s).get = .on s' ∧ V s' ∧ μ s' < μ s)) {s : S} (hs : V s) : LT f s ∧ Q (lastS f s) := by
  generalize hm : μ s = m
  induction m using Nat.strongRecOn generalizing s with
  | ind m ih =>
    obtain ⟨h1, ⟨⟨ex, sl, hp, h2⟩, h5⟩ | ⟨s', h2, h3, h4⟩⟩ := h s hs
    · exact ⟨.out h1 h2, by rw [lastS_out h2]; exact h5⟩
    · obtain ⟨a, b⟩ := ih (μ s') (by omega) h3 rfl
      exact ⟨.on h1 h2 a, by rw [lastS_on h2]; exact b⟩
/-- A node of the reference's tree: its slot, its capability, its depth. -/
structure Nd where
  t : Int
  k : Int
  a : Int
  b : Int
  r : Int
  g : Int
  s : Int
  m : Int
  d : Int
deriving DecidableEq
def nd0 : Nd := ⟨0, 0, 0, 0, 0, 0, 0, 0, 0⟩
def ndC (x : Nd) : List SV := [.int .u64 x.t, .int .i64 x.k, .int .u64 x.a, .int .i64 x.b, .int .i64 x.r, .int .i64 x.g, .int .i64 x.s, .int .u64 x.m, .int .i64 x.d]
def nds (f : Nat → Nd) (L : Nat) : List Nd := (List.range L).map f
def gN (l : List Nd) (j : Nat) : Nd := l.getD j nd0
theorem nds_len (f : Nat → Nd) (L : Nat) : (nds f L).length = L := by simp [nds]
theorem nds_get {f : Nat → Nd} {L j : Nat} (h : j < L) : (nds f L)[j]? = some (f j) := by simp [nds, List.getElem?_map, List.getElem?_range h]
theorem nds_gN (l : List Nd) : nds (gN l) l.length = l := by
  apply List.ext_getElem?
  intro j
  by_cases h : j < l.length
  · rw [nds_get h]; simp [gN, List.getD, List.getElem?_eq_getElem h]
  · rw [List.getElem?_eq_none (by rw [nds_len]; omega), List.getElem?_eq_none (by omega)]
/-- The place of a slot's node, or -1. -/
def fnd (l : List Nd) (a : Int) : Int := match l.findIdx? (fun x => x.t == a) with
  | some i => (i : Int)
  | none => -1
theorem fnd_at {f : Nat → Nd} {L i : Nat} {a : Int} (h1 : i < L) (h2 : (f i).t = a) (h3 : ∀ j, j < i → (f j).t ≠ a) : fnd (nds f L) a = i := by
  have : (nds f L).findIdx? (fun x => x.t == a) = some i := by
    rw [List.findIdx?_eq_some_iff_getElem]
    refine ⟨by rw [nds_len]; exact h1, by simp [nds, h2], fun j hj => ?_⟩
    have := h3 j hj
    simp [nds, this]
  rw [fnd, this]
theorem fnd_none {f : Nat → Nd} {L : Nat} {a : Int} (h3 : ∀ j, j < L → (f j).t ≠ a) : fnd (nds f L) a = -1 := by
  have : (nds f L).findIdx? (fun x => x.t == a) = none := by
    rw [List.findIdx?_eq_none_iff]
    intro x hx
    simp only [nds, List.mem_map, List.mem_range] at hx
    obtain ⟨j, hj, rfl⟩ := hx
    have := h3 j hj
    simp [this]
  rw [fnd, this]
theorem fnd_cases (f : Nat → Nd) (L : Nat) (a : Int) : (∃ i : Nat, i < L ∧ (f i).t = a ∧ (∀ j, j < i → (f j).t ≠ a) ∧ fnd (nds f L) a = i) ∨ ((∀ j, j < L → (f j).t ≠ a) ∧ fnd (nds f L) a = -1) := by
  by_cases h : ∃ i, i < L ∧ (f i).t = a
  · have hx : ∃ i, i < L ∧ (f i).t = a ∧ ∀ j, j < i → (f j).t ≠ a := by
      obtain ⟨i, h1, h2⟩ := h
      induction i using Nat.strongRecOn with
      | ind i ih =>
        by_cases hj : ∃ j, j < i ∧ (f j).t = a
        · obtain ⟨j, k1, k2⟩ := hj
          exact ih j k1 (by omega) k2
        · exact ⟨i, h1, h2, fun j k1 k2 => hj ⟨j, k1, k2⟩⟩
    obtain ⟨i, h1, h2, h3⟩ := hx
    exact .inl ⟨i, h1, h2, h3, fnd_at h1 h2 h3⟩
  · have h3 : ∀ j, j < L → (f j).t ≠ a := fun j k1 k2 => h ⟨j, k1, k2⟩
    exact .inr ⟨h3, fnd_none h3⟩
/-- The nodes as a row. -/
def rowN {R : Type} (l : List Nd) : HO R := .row 100 9 l.length (fun j => ndC (gN l j))
/-- The document's answers. -/
def mayT (z a : Int) : Int := cnd (a.tmod 32 != 0) 13 (cnd (decide (a ≥ z)) 12 0)
def hdT (z : Int) (l : List Nd) (a : Int) : Int := cnd (cnd (mayT z a == 0) (decide (fnd l a < 0)) false) 14 (mayT z a)
/-- The node of a slot. -/
def atN (l : List Nd) (a : Int) : Nd := gN l (fnd l a).toNat
def slN (x : Nd) : Sl := ⟨x.k, x.a, x.b, x.r, x.g, x.s, x.m, 0, 0, 0⟩
end Go.Sx.M

section
namespace Go.Sx.M
open Go Go.Sx Go.Proofs Go.RowKit
theorem pow_z {z : Int} (h0 : 5 ≤ z) (h1 : z ≤ 32) : 32 ≤ 2 ^ z.toNat ∧ 2 ^ z.toNat ≤ 4294967296 := by
  have h5 : (2 : Nat) ^ 5 = 32 := by decide
  have h32 : (2 : Nat) ^ 32 = 4294967296 := by decide
  rw [← h5, ← h32]
  exact ⟨Nat.pow_le_pow_right (by omega) (by omega), Nat.pow_le_pow_right (by omega) (by omega)⟩
/-- What is said of a wanted kind. -/
theorem want_cases (k b n : Int) : f95_0 k b n ∧ ((f25_0 k b = -1 ∧ f95_2 k b n = 20) ∨ (f25_0 k b = -2 ∧ f95_2 k b n = 11) ∨
    ∃ z, 5 ≤ z ∧ z ≤ 32 ∧ f25_0 k b = z ∧ f97_0 k b = z ∧ (((n < 1 ∨ n > 64) ∧ f95_2 k b n = 12) ∨ (1 ≤ n ∧ n ≤ 64 ∧ f95_2 k b n = 0 ∧ f95_1 k b n = n * ((2 ^ z.toNat : Nat) : Int)))) := by
  rcases mk k b with ⟨h1, h2⟩ | ⟨h1, h2⟩ | ⟨c, r, z, m0, m1, m2, m3, m4, m5, m6, m7, m8, m9, m10, m11, m12⟩
  · refine ⟨fun e => ?_, .inl ⟨h1, ?_⟩⟩
    · rw [h2] at e; cases e
    · unfold f95_2; rw [h2]; rfl
  · refine ⟨fun e => ?_, .inr (.inl ⟨h1, ?_⟩)⟩
    · rw [h2] at e; cases e
    · unfold f95_2; rw [h2]; rfl
  · have h45 : f45_1 (f191_0 k b) (f191_1 k b) (f191_2 k b) (f191_3 k b) (f191_1 k b) (f191_1 k b) (f191_1 k b) = true := by rw [m0, m1, m2, m3]; exact m5
    have h4 : f161_4 k b = 0 := by unfold f161_4; rw [m4, h45]; rfl
    have h0 : f161_0 k b = k := by unfold f161_0; rw [m4, h45, m0]; rfl
    have h1 : f161_1 k b = 0 := by unfold f161_1; rw [m4, h45, m1]; rfl
    have h2 : f161_2 k b = c := by unfold f161_2; rw [m4, h45, m2]; rfl
    have h3 : f161_3 k b = r := by unfold f161_3; rw [m4, h45, m3]; rfl
    have hs : f162_0 (f161_0 k b) (f161_1 k b) (f161_2 k b) (f161_3 k b) (f161_1 k b) (f161_1 k b) (f161_1 k b) = z := by
      rw [h0, h1, h2, h3]
      unfold f162_0
      rw [m6, m5, m7]
      rfl
    refine ⟨fun _ _ => by rw [hs]; omega, .inr (.inr ⟨z, m8, m9, m10, ?_, ?_⟩)⟩
    · unfold f97_0; rw [h4, hs]; rfl
    · by_cases hn : n < 1 ∨ n > 64
      · left
        refine ⟨hn, ?_⟩
        have : cnd (decide (n < 1)) true (decide (n > 64)) = true := by
          rw [cnd_or, Bool.or_eq_true, decide_eq_true_eq, decide_eq_true_eq]; exact hn
        unfold f95_2
        rw [h4, this]
        rfl
      · right
        have : cnd (decide (n < 1)) true (decide (n > 64)) = false := by
          rw [cnd_or, Bool.or_eq_false_iff, decide_eq_false_iff_not, decide_eq_false_iff_not]; omega
        obtain ⟨p1, p2⟩ := pow_z m8 m9
        refine ⟨by omega, by omega, ?_, ?_⟩
        · unfold f95_2; rw [h4, this]; rfl
        · unfold f95_1
          rw [h4, this, hs]
          have e : min z.toNat IntKind.u64.bits = z.toNat := by simp only [IntKind.bits]; omega
          have e2 : (2 : Int) ^ z.toNat = ((2 ^ z.toNat : Nat) : Int) := by simp
          rw [e, e2]
          generalize 2 ^ z.toNat = P at p1 p2 ⊢
          have hle : n * (P : Int) ≤ 64 * 4294967296 := by
            have h1 : n * (P : Int) ≤ 64 * (P : Int) := Int.mul_le_mul_of_nonneg_right (by omega) (by omega)
            omega
          have hge : 0 ≤ n * (P : Int) := Int.mul_nonneg (by omega) (by omega)
          show IntKind.u64.wrap (IntKind.u64.wrap n * (P : Int)) = _
          rw [wrap_u64_id (x := n) (by omega) (by omega), wrap_u64_id hge (by omega)]
theorem or_ones (a z : Nat) : a ||| (2 ^ z - 1) = a / 2 ^ z * 2 ^ z + (2 ^ z - 1) := by
  have hp : 0 < 2 ^ z := Nat.pow_pos (by omega)
  have hr : a % 2 ^ z < 2 ^ z := Nat.mod_lt _ hp
  have h1 := Nat.two_pow_add_eq_or_of_lt hr (a / 2 ^ z)
  have h2 : a = 2 ^ z * (a / 2 ^ z) + a % 2 ^ z := (Nat.div_add_mod a (2 ^ z)).symm
  have hm : 2 ^ z - 1 < 2 ^ z := by omega
  have h3 : a % 2 ^ z ||| (2 ^ z - 1) = 2 ^ z - 1 := by
    have u1 : a % 2 ^ z ||| (2 ^ z - 1) < 2 ^ z := Nat.or_lt_two_pow hr hm
    have u2 : 2 ^ z - 1 ≤ a % 2 ^ z ||| (2 ^ z - 1) := Nat.right_le_or
    omega
  have h4 := Nat.two_pow_add_eq_or_of_lt hm (a / 2 ^ z)
  calc a ||| (2 ^ z - 1) = (2 ^ z * (a / 2 ^ z) ||| a % 2 ^ z) ||| (2 ^ z - 1) := by rw [← h1, ← h2]
    _ = 2 ^ z * (a / 2 ^ z) ||| (2 ^ z - 1) := by rw [Nat.or_assoc, h3]
    _ = 2 ^ z * (a / 2 ^ z) + (2 ^ z - 1) := h4.symm
    _ = _ := by rw [Nat.mul_comm]
/-- Up to a multiple. -/
def upI (a P : Int) : Int := if a % P = 0 then a else a + (P - a % P)
theorem up_at {a z : Int} (h0 : 0 ≤ a) (h1 : a ≤ 1099511627776) (z0 : 5 ≤ z) (z1 : z ≤ 32) : f98_1 a z = true ∧ f98_0 a z = upI a ((2 ^ z.toNat : Nat) : Int) ∧ a ≤ upI a ((2 ^ z.toNat : Nat) : Int) ∧ upI a ((2 ^ z.toNat : Nat) : Int) ≤ a + 4294967296 := by
  obtain ⟨p1, p2⟩ := pow_z z0 z1
  have hal : f125_0 a z = (a % p26 z.toNat == 0) := aligned_eq h0 (by omega) (by omega) (by omega)
  have hpe : p26 z.toNat = ((2 ^ z.toNat : Nat) : Int) := p26_eq (by omega)
  have hone : f123_1 z = p26 z.toNat - 1 := ones_eq (by omega) (by omega)
  have hlt := Int.emod_lt_of_pos a (show (0 : Int) < ((2 ^ z.toNat : Nat) : Int) by omega)
  have hge := Int.emod_nonneg a (show ((2 ^ z.toNat : Nat) : Int) ≠ 0 by omega)
  have hb : upI a ((2 ^ z.toNat : Nat) : Int) = upI a ((2 ^ z.toNat : Nat) : Int) ∧ a ≤ upI a ((2 ^ z.toNat : Nat) : Int) ∧ upI a ((2 ^ z.toNat : Nat) : Int) ≤ a + 4294967296 := by
    unfold upI
    split
    · exact ⟨rfl, by omega, by omega⟩
    · exact ⟨rfl, by omega, by omega⟩
  refine ⟨?_, ?_, hb.2⟩
  · unfold f98_1
    rw [hal, hone, hpe]
    by_cases hm : a % ((2 ^ z.toNat : Nat) : Int) = 0
    · rw [hm]; rfl
    · rw [beq_eq_false_iff_ne.2 hm]
      obtain ⟨A, hA⟩ : ∃ A : Nat, a = A := ⟨a.toNat, by omega⟩
      have e1 : ((2 ^ z.toNat : Nat) : Int) - 1 = ((2 ^ z.toNat - 1 : Nat) : Int) := by omega
      rw [e1, hA, u64_or_nat _ _ (by omega) (by omega), or_ones]
      have hle : A / 2 ^ z.toNat * 2 ^ z.toNat ≤ A := Nat.div_mul_le_self _ _
      show (_ != _) = true
      rw [bne_iff_ne]
      omega
  · unfold f98_0 upI
    rw [hal, hone, hpe]
    by_cases hm : a % ((2 ^ z.toNat : Nat) : Int) = 0
    · rw [hm]; rfl
    · rw [beq_eq_false_iff_ne.2 hm, if_neg hm]
      obtain ⟨A, hA⟩ : ∃ A : Nat, a = A := ⟨a.toNat, by omega⟩
      have e1 : ((2 ^ z.toNat : Nat) : Int) - 1 = ((2 ^ z.toNat - 1 : Nat) : Int) := by omega
      rw [e1, hA, u64_or_nat _ _ (by omega) (by omega), or_ones]
      have hle : A / 2 ^ z.toNat * 2 ^ z.toNat ≤ A := Nat.div_mul_le_self _ _
      have hdm := Nat.div_add_mod A (2 ^ z.toNat)
      rw [Nat.mul_comm] at hdm
      show IntKind.u64.wrap (((A / 2 ^ z.toNat * 2 ^ z.toNat + (2 ^ z.toNat - 1) : Nat) : Int) + 1) = _
      rw [wrap_u64_id (by omega) (by omega)]
      have hmi : (A : Int) % ((2 ^ z.toNat : Nat) : Int) = ((A % 2 ^ z.toNat : Nat) : Int) := by simp
      rw [hmi]
      generalize 2 ^ z.toNat = P at *
      generalize A / P * P = D at *
      generalize A % P = E at *
      omega
/-- Some objects of one size. -/
def objs (a P : Int) (n : Nat) : List Int := (List.range n).map fun (j : Nat) => a + (j : Int) * P
theorem objs_succ (a P : Int) (n : Nat) : objs a P (n + 1) = objs a P n ++ [a + (n : Int) * P] := by simp [objs, List.range_succ]
theorem objs_len (a P : Int) (n : Nat) : (objs a P n).length = n := by simp [objs]
def ls (F : Nat → Int) (n : Nat) : List Int := (List.range n).map F
theorem ls_len (F : Nat → Int) (n : Nat) : (ls F n).length = n := by simp [ls]
theorem ls_push (F : Nat → Int) (n : Nat) (x : Int) : ls (fun j => cnd (Nat.blt j n) (F j) x) (n + 1) = ls F n ++ [x] := by
  unfold ls
  rw [List.range_succ, List.map_append]
  congr 1
  · apply List.map_congr_left
    intro j hj
    rw [List.mem_range] at hj
    have : Nat.blt j n = true := by simp [hj]
    rw [this]
    rfl
  · have : Nat.blt n n = false := by
      cases hh : Nat.blt n n with
      | false => rfl
      | true => rw [bltT] at hh; omega
    show [cnd (Nat.blt n n) (F n) x] = [x]
    rw [this]
    rfl
/-- Where wanted objects go. -/
noncomputable def plc (to : Int) (k b n : Nat → Int) : Nat → Nat → Int → List Int × Nat × Int
  | 0, _, _ => ([], 0, 0)
  | m + 1, i, a =>
    if f95_2 (k i) (b i) (n i) ≠ 0 then ([], 0, f95_2 (k i) (b i) (n i))
    else if f98_0 a (f97_0 (k i) (b i)) > to ∨ f95_1 (k i) (b i) (n i) > to - f98_0 a (f97_0 (k i) (b i)) then ([], 0, 40)
    else
      (objs (f98_0 a (f97_0 (k i) (b i))) ((2 ^ (f97_0 (k i) (b i)).toNat : Nat) : Int) (n i).toNat ++ (plc to k b n m (i + 1) (f98_0 a (f97_0 (k i) (b i)) + f95_1 (k i) (b i) (n i))).1,
        (plc to k b n m (i + 1) (f98_0 a (f97_0 (k i) (b i)) + f95_1 (k i) (b i) (n i))).2.1 + 1, (plc to k b n m (i + 1) (f98_0 a (f97_0 (k i) (b i)) + f95_1 (k i) (b i) (n i))).2.2)
end Go.Sx.M

end

namespace Go.Sx.M
open Go Go.Sx Go.Proofs Go.RowKit
set_option maxRecDepth 100000
def Q24i (p : P24_1) (s0 s : S24_1) : Prop := s.n9 = s0.n9 + p.x72.toNat ∧ s.N3 = s.n9 ∧ ls s.F3_0 s.n9 = ls s0.F3_0 s0.n9 ++ objs p.x16 ((2 ^ p.x14.toNat : Nat) : Int) p.x72.toNat
theorem l24i {p : P24_1} {s : S24_1} (hz : 5 ≤ p.x14 ∧ p.x14 ≤ 32) (hf : 0 ≤ p.x16 ∧ p.x16 ≤ 1099511627776) (hm : 1 ≤ p.x72 ∧ p.x72 ≤ 64) (hs : s.x73 = 0 ∧ s.N3 = s.n9 ∧ s.n9 ≤ 2000) : LT (r24_1 p) s ∧ Q24i p s (lastS (r24_1 p) s) := by
  obtain ⟨p1, p2⟩ := pow_z hz.1 hz.2
  refine LT.post (fun s1 : S24_1 => ∃ t : Nat, s1.x73 = t ∧ (t : Int) ≤ p.x72 ∧ s1.n9 = s.n9 + t ∧ s1.N3 = s1.n9 ∧ ls s1.F3_0 s1.n9 = ls s.F3_0 s.n9 ++ objs p.x16 ((2 ^ p.x14.toNat : Nat) : Int) t) (Q24i p s) (fun s1 : S24_1 => (p.x72 - s1.x73).toNat) ?_ ⟨0, hs.1, by omega, rfl, hs.2.1, by simp [objs]⟩
  rintro ⟨n9, x73, N3, F⟩ ⟨t, g1, g2, g3, g4, g5⟩
  simp only at g1 g3 g4 g5
  subst g1
  have g4 := g4.symm
  subst g4
  have w2 : IntKind.i64.wrap ((t : Int) + 1) = ((t + 1 : Nat) : Int) := by rw [wi (by omega) (by omega)]; omega
  have e9 : e24_1_9 p ⟨n9, t, n9, F⟩ = p.x16 + (t : Int) * ((2 ^ p.x14.toNat : Nat) : Int) := by
    unfold e24_1_9
    have e : Min.min p.x14.toNat 64 = p.x14.toNat := by omega
    have e2 : (2 : Int) ^ p.x14.toNat = ((2 ^ p.x14.toNat : Nat) : Int) := by simp
    rw [e, e2]
    generalize 2 ^ p.x14.toNat = P at p1 p2 ⊢
    have hle : (t : Int) * (P : Int) ≤ 64 * 4294967296 := by
      have h1 : (t : Int) * (P : Int) ≤ 64 * (P : Int) := Int.mul_le_mul_of_nonneg_right (by omega) (by omega)
      omega
    have hge : 0 ≤ (t : Int) * (P : Int) := Int.mul_nonneg (by omega) (by omega)
    show IntKind.u64.wrap (p.x16 + IntKind.u64.wrap (IntKind.u64.wrap (t : Int) * (P : Int))) = _
    rw [wrap_u64_id (x := (t : Int)) (by omega) (by omega), wrap_u64_id hge (by omega), wrap_u64_id (by omega) (by omega)]
  by_cases hc : (t : Int) < p.x72
  · have hd : e24_1_0 p ⟨n9, t, n9, F⟩ = false := by
      show cnd (decide ((t : Int) < p.x72)) false true = false
      rw [decide_eq_true hc]; rfl
    simp only [r24_1, hd, Tr.ok, Tr.get]
    refine ⟨⟨(fun e => by cases e), fun _ => ⟨by show (0:Int) ≤ p.x14; omega, ⟨rfl, Nat.le_refl _, Nat.le_refl _, by show (n9 + 1) * 4096 ≤ _; omega, by show n9 + 1 ≤ _; omega⟩, trivial⟩⟩, .inr ⟨_, rfl, ⟨t + 1, w2, by omega, by show n9 + 1 = _; omega, rfl, ?_⟩, ?_⟩⟩
    · rw [objs_succ, ← List.append_assoc, ← g5]
      show ls (fun j => cnd (Nat.blt j n9) (F j) (e24_1_9 p ⟨n9, t, n9, F⟩)) (n9 + 1) = _
      rw [ls_push, e9]
    · show (p.x72 - e24_1_6 p _).toNat < (p.x72 - (t : Int)).toNat
      simp only [e24_1_6, w2]
      omega
  · have hd : e24_1_0 p ⟨n9, t, n9, F⟩ = true := by
      show cnd (decide ((t : Int) < p.x72)) false true = true
      rw [decide_eq_false hc]; rfl
    simp only [r24_1, hd, Tr.ok, Tr.get]
    have ht : p.x72.toNat = t := by omega
    refine ⟨⟨fun _ => trivial, (fun e => by cases e)⟩, .inl ⟨⟨_, _, _, rfl⟩, ?_⟩⟩
    unfold Q24i
    rw [ht]
    exact ⟨g3, rfl, g5⟩
def Q24 (p : P24_0) (R : List Int × Nat × Int) (s : S24_0) : Prop := R.1 = ls s.F1_0 s.n9 ∧ s.N1 = s.n9 ∧ (e24_0_0 p s = true → R.2.1 = p.n19 ∧ R.2.2 = 0) ∧ (e24_0_0 p s = false → e24_0_5 p s = true → (R.2.1 : Int) = s.x21 ∧ R.2.2 = e24_0_6 p s) ∧ (e24_0_0 p s = false → e24_0_5 p s = false → (R.2.1 : Int) = s.x21 ∧ R.2.2 = 40)
theorem l24 {p : P24_0} {s : S24_0} {R : List Int × Nat × Int} (hN : p.N0 = p.n19 ∧ p.n19 ≤ 20 ∧ p.x20 = p.n19) (ht : 0 ≤ p.x1 ∧ p.x1 ≤ 1099511627776) (ha : 0 ≤ s.x0 ∧ s.x0 ≤ 1099511627776) (hs : s.x21 = 0 ∧ s.n9 = 0 ∧ s.N1 = 0) (hR : plc p.x1 p.F0_0 p.F0_1 p.F0_2 p.n19 0 s.x0 = R) :
    LT (r24_0 p) s ∧ Q24 p R (lastS (r24_0 p) s) := by
  refine LT.post (fun s : S24_0 => ∃ i m : Nat, s.x21 = i ∧ i + m = p.n19 ∧ s.N1 = s.n9 ∧ s.n9 ≤ i * 64 ∧ (0 ≤ s.x0 ∧ s.x0 ≤ 1099511627776) ∧ R = (ls s.F1_0 s.n9 ++ (plc p.x1 p.F0_0 p.F0_1 p.F0_2 m i s.x0).1, i + (plc p.x1 p.F0_0 p.F0_1 p.F0_2 m i s.x0).2.1, (plc p.x1 p.F0_0 p.F0_1 p.F0_2 m i s.x0).2.2)) (Q24 p R) (fun s : S24_0 => (p.n19 - s.x21).toNat) ?_ ?_
  rotate_left
  · refine ⟨0, p.n19, hs.1, by omega, by rw [hs.2.1, hs.2.2], by rw [hs.2.1]; omega, ha, ?_⟩
    rw [hR, hs.2.1]
    simp [ls]
  rintro ⟨a, n9, x, N1, F⟩ ⟨i, m, g1, g2, g3, g4, g5, g6⟩
  simp only at g1 g3 g4 g5 g6
  subst g1
  have g3 := g3.symm
  subst g3
  obtain ⟨hN1, hN2, hN3⟩ := hN
  have w2 : IntKind.i64.wrap ((i : Int) + 1) = ((i + 1 : Nat) : Int) := by rw [wi (by omega) (by omega)]; omega
  by_cases hc : i < p.n19
  · have hd : e24_0_0 p ⟨a, n9, i, n9, F⟩ = false := by
      show cnd (decide ((i : Int) < p.x20)) false true = false
      rw [decide_eq_true (by omega)]; rfl
    obtain ⟨m', rfl⟩ : ∃ m', m = m' + 1 := ⟨m - 1, by omega⟩
    have i16 : e24_0_16 p ⟨a, n9, i, n9, F⟩ = i := by show 0 + (i : Int).toNat = i; omega
    have e17 : e24_0_17 p ⟨a, n9, i, n9, F⟩ = p.F0_0 i := by unfold e24_0_17; rw [i16]
    have e18 : e24_0_18 p ⟨a, n9, i, n9, F⟩ = p.F0_1 i := by unfold e24_0_18; rw [i16]
    have e19 : e24_0_19 p ⟨a, n9, i, n9, F⟩ = p.F0_2 i := by unfold e24_0_19; rw [i16]
    have e20 : e24_0_20 p ⟨a, n9, i, n9, F⟩ = f95_2 (p.F0_0 i) (p.F0_1 i) (p.F0_2 i) := by unfold e24_0_20; rw [e17, e18, e19]
    have e21 : e24_0_21 p ⟨a, n9, i, n9, F⟩ = f97_0 (p.F0_0 i) (p.F0_1 i) := by unfold e24_0_21; rw [e17, e18]
    have e22 : e24_0_22 p ⟨a, n9, i, n9, F⟩ = f98_0 a (f97_0 (p.F0_0 i) (p.F0_1 i)) := by unfold e24_0_22; rw [e21]
    have e23 : e24_0_23 p ⟨a, n9, i, n9, F⟩ = f95_1 (p.F0_0 i) (p.F0_1 i) (p.F0_2 i) := by unfold e24_0_23; rw [e17, e18, e19]
    have n2 : e24_0_2 p ⟨a, n9, i, n9, F⟩ := ⟨by show (0 : Int) ≤ i; omega, by show (i : Int) < p.n19; omega⟩
    have n3 : e24_0_3 p ⟨a, n9, i, n9, F⟩ := by unfold e24_0_3; rw [i16, hN1]; exact hc
    obtain ⟨q0, qc⟩ := want_cases (p.F0_0 i) (p.F0_1 i) (p.F0_2 i)
    have n4 : e24_0_4 p ⟨a, n9, i, n9, F⟩ := by unfold e24_0_4; rw [e17, e18, e19]; exact q0
    simp only [plc] at g6
    by_cases he : f95_2 (p.F0_0 i) (p.F0_1 i) (p.F0_2 i) = 0
    · have e5 : e24_0_5 p ⟨a, n9, i, n9, F⟩ = false := by unfold e24_0_5; rw [e20, he]; rfl
      rw [if_neg (by simp [he])] at g6
      obtain ⟨z, z0, z1, hz, h97, hmm⟩ : ∃ z, 5 ≤ z ∧ z ≤ 32 ∧ f25_0 (p.F0_0 i) (p.F0_1 i) = z ∧ f97_0 (p.F0_0 i) (p.F0_1 i) = z ∧ (1 ≤ p.F0_2 i ∧ p.F0_2 i ≤ 64 ∧ f95_1 (p.F0_0 i) (p.F0_1 i) (p.F0_2 i) = p.F0_2 i * ((2 ^ z.toNat : Nat) : Int)) := by
        rcases qc with ⟨_, h⟩ | ⟨_, h⟩ | ⟨z, z0, z1, z2, z3, ⟨_, h⟩ | ⟨h1, h2, _, h3⟩⟩
        · omega
        · omega
        · omega
        · exact ⟨z, z0, z1, z2, z3, h1, h2, h3⟩
      obtain ⟨u1, u2, u3, u4⟩ := up_at g5.1 g5.2 z0 z1
      rw [h97, u2] at e22
      rw [h97, u2] at g6
      rw [h97] at e21
      obtain ⟨p1, p2⟩ := pow_z z0 z1
      have hge : 0 ≤ f95_1 (p.F0_0 i) (p.F0_1 i) (p.F0_2 i) := by rw [hmm.2.2]; exact Int.mul_nonneg (by omega) (by omega)
      have hlt : f95_1 (p.F0_0 i) (p.F0_1 i) (p.F0_2 i) ≤ 274877906944 := by
        rw [hmm.2.2]
        have h1 : p.F0_2 i * ((2 ^ z.toNat : Nat) : Int) ≤ 64 * ((2 ^ z.toNat : Nat) : Int) := Int.mul_le_mul_of_nonneg_right (by omega) (by omega)
        omega
      have e7 : e24_0_7 p ⟨a, n9, i, n9, F⟩ = decide (upI a ((2 ^ z.toNat : Nat) : Int) > p.x1 ∨ f95_1 (p.F0_0 i) (p.F0_1 i) (p.F0_2 i) > p.x1 - upI a ((2 ^ z.toNat : Nat) : Int)) := by
        unfold e24_0_7 e24_0_24
        rw [e21, e22, e23]
        have u1' : f98_1 (S24_0.mk a n9 (i : Int) n9 F).x0 z = true := u1
        rw [u1']
        generalize upI a ((2 ^ z.toNat : Nat) : Int) = U at u3 u4 ⊢
        generalize f95_1 (p.F0_0 i) (p.F0_1 i) (p.F0_2 i) = NB
        by_cases h1 : U > p.x1
        · rw [decide_eq_true h1, decide_eq_true (Or.inl h1)]; rfl
        · rw [decide_eq_false h1, wrap_u64_id (x := p.x1 - U) (by omega) (by omega)]
          by_cases h2 : NB > p.x1 - U
          · rw [decide_eq_true h2, decide_eq_true (Or.inr h2)]; rfl
          · rw [decide_eq_false h2, decide_eq_false (by omega)]; rfl
      by_cases hb : upI a ((2 ^ z.toNat : Nat) : Int) > p.x1 ∨ f95_1 (p.F0_0 i) (p.F0_1 i) (p.F0_2 i) > p.x1 - upI a ((2 ^ z.toNat : Nat) : Int)
      · rw [if_pos hb] at g6
        rw [decide_eq_true hb] at e7
        simp only [r24_0, hd, e5, e7, Tr.ok, Tr.get]
        refine ⟨⟨(fun e => by cases e), fun _ => ⟨n2, n3, n4, (fun e => by cases e), fun _ => ⟨fun _ => trivial, fun e => by cases e⟩⟩⟩, .inl ⟨⟨_, _, _, rfl⟩, ?_⟩⟩
        unfold Q24
        rw [g6, hd, e5]
        exact ⟨by simp, rfl, (fun e => by cases e), (fun _ e => by cases e), fun _ _ => ⟨by show ((i + 0 : Nat) : Int) = i; omega, rfl⟩⟩
      · rw [if_neg hb] at g6
        rw [decide_eq_false hb] at e7
        have hin := l24i (p := P24_1.mk p.x1 p.n2 (e24_0_23 p ⟨a, n9, i, n9, F⟩) (e24_0_21 p ⟨a, n9, i, n9, F⟩) (e24_0_22 p ⟨a, n9, i, n9, F⟩) p.n19 p.x20 i (e24_0_19 p ⟨a, n9, i, n9, F⟩) p.N0 p.O0 p.F0_0 p.F0_1 p.F0_2 (e24_0_17 p ⟨a, n9, i, n9, F⟩) (e24_0_18 p ⟨a, n9, i, n9, F⟩) (e24_0_19 p ⟨a, n9, i, n9, F⟩)) (s := S24_1.mk n9 0 n9 F)
          (by show 5 ≤ e24_0_21 p _ ∧ e24_0_21 p _ ≤ 32; rw [e21]; exact ⟨z0, z1⟩) (by show 0 ≤ e24_0_22 p _ ∧ e24_0_22 p _ ≤ _; rw [e22]; exact ⟨by omega, by omega⟩) (by show 1 ≤ e24_0_19 p _ ∧ e24_0_19 p _ ≤ 64; rw [e19]; exact ⟨hmm.1, hmm.2.1⟩) ⟨rfl, rfl, by show n9 ≤ 2000; omega⟩
        obtain ⟨hL, k1, k2, k3⟩ := hin
        have e25 : e24_0_25 p ⟨a, n9, i, n9, F⟩ = lastS (r24_1 (P24_1.mk p.x1 p.n2 (e24_0_23 p ⟨a, n9, i, n9, F⟩) (e24_0_21 p ⟨a, n9, i, n9, F⟩) (e24_0_22 p ⟨a, n9, i, n9, F⟩) p.n19 p.x20 i (e24_0_19 p ⟨a, n9, i, n9, F⟩) p.N0 p.O0 p.F0_0 p.F0_1 p.F0_2 (e24_0_17 p ⟨a, n9, i, n9, F⟩) (e24_0_18 p ⟨a, n9, i, n9, F⟩) (e24_0_19 p ⟨a, n9, i, n9, F⟩))) (S24_1.mk n9 0 n9 F) := rfl
        rw [← e25] at k1 k2 k3
        have k1 : (e24_0_25 p ⟨a, n9, i, n9, F⟩).n9 = n9 + (e24_0_19 p ⟨a, n9, i, n9, F⟩).toNat := k1
        have k3 : ls (e24_0_25 p ⟨a, n9, i, n9, F⟩).F3_0 (e24_0_25 p ⟨a, n9, i, n9, F⟩).n9 = ls F n9 ++ objs (e24_0_22 p ⟨a, n9, i, n9, F⟩) ((2 ^ (e24_0_21 p ⟨a, n9, i, n9, F⟩).toNat : Nat) : Int) (e24_0_19 p ⟨a, n9, i, n9, F⟩).toNat := k3
        rw [e19] at k1 k3
        rw [e21, e22] at k3
        have e11 : e24_0_11 p ⟨a, n9, i, n9, F⟩ = upI a ((2 ^ z.toNat : Nat) : Int) + f95_1 (p.F0_0 i) (p.F0_1 i) (p.F0_2 i) := by
          unfold e24_0_11
          rw [e22, e23]
          exact wrap_u64_id (by omega) (by omega)
        simp only [r24_0, hd, e5, e7, Tr.ok, Tr.get]
        refine ⟨⟨(fun e => by cases e), fun _ => ⟨n2, n3, n4, (fun e => by cases e), fun _ => ⟨(fun e => by cases e), fun _ => ⟨hL, trivial⟩⟩⟩⟩, .inr ⟨_, rfl, ⟨i + 1, m', ?_, by omega, ?_, ?_, ?_, ?_⟩, ?_⟩⟩
        · exact w2
        · exact k2
        · show (e24_0_25 p ⟨a, n9, i, n9, F⟩).n9 ≤ (i + 1) * 64
          rw [k1]; omega
        · show 0 ≤ e24_0_11 p _ ∧ e24_0_11 p _ ≤ _
          rw [e11]; omega
        · show R = (ls (e24_0_25 p ⟨a, n9, i, n9, F⟩).F3_0 (e24_0_25 p ⟨a, n9, i, n9, F⟩).n9 ++ (plc p.x1 p.F0_0 p.F0_1 p.F0_2 m' (i + 1) (e24_0_11 p ⟨a, n9, i, n9, F⟩)).1, i + 1 + (plc p.x1 p.F0_0 p.F0_1 p.F0_2 m' (i + 1) (e24_0_11 p ⟨a, n9, i, n9, F⟩)).2.1, (plc p.x1 p.F0_0 p.F0_1 p.F0_2 m' (i + 1) (e24_0_11 p ⟨a, n9, i, n9, F⟩)).2.2)
          rw [k3, e11, g6, List.append_assoc]
          simp only [Prod.mk.injEq]
          exact ⟨trivial, by omega, trivial⟩
        · show ((p.n19 : Int) - e24_0_13 p _).toNat < ((p.n19 : Int) - (i : Int)).toNat
          simp only [e24_0_13, w2]
          omega
    · have e5 : e24_0_5 p ⟨a, n9, i, n9, F⟩ = true := by unfold e24_0_5; rw [e20]; exact bne_iff_ne.2 he
      rw [if_pos he] at g6
      simp only [r24_0, hd, e5, Tr.ok, Tr.get]
      refine ⟨⟨(fun e => by cases e), fun _ => ⟨n2, n3, n4, fun _ => trivial, (fun e => by cases e)⟩⟩, .inl ⟨⟨_, _, _, rfl⟩, ?_⟩⟩
      unfold Q24
      rw [g6, hd, e5]
      exact ⟨by simp, rfl, (fun e => by cases e), fun _ _ => ⟨by show ((i + 0 : Nat) : Int) = i; omega, by unfold e24_0_6; rw [e20]⟩, fun _ e => by cases e⟩
  · have hd : e24_0_0 p ⟨a, n9, i, n9, F⟩ = true := by
      show cnd (decide ((i : Int) < p.x20)) false true = true
      rw [decide_eq_false (by omega)]; rfl
    have : m = 0 := by omega
    subst this
    simp only [plc] at g6
    simp only [r24_0, hd, Tr.ok, Tr.get]
    refine ⟨⟨fun _ => trivial, (fun e => by cases e)⟩, .inl ⟨⟨_, _, _, rfl⟩, ?_⟩⟩
    unfold Q24
    rw [g6, hd]
    exact ⟨by simp, rfl, fun _ => ⟨by show i + 0 = p.n19; omega, rfl⟩, (fun e => by cases e), fun e => by cases e⟩
def pre24 (v : V24) : Prop := (v.Q = v.L ∧ v.L ≤ 20) ∧ (0 ≤ v.at_ ∧ v.at_ ≤ 1099511627776) ∧ (0 ≤ v.to_ ∧ v.to_ ≤ 1099511627776)
theorem n24 (v : V24) (h : pre24 v) : (f24 v).ok ∧ (f24 v).get.1 = .tup [.slc 1 1 0 (plc v.to_ v.k v.b v.n v.L 0 v.at_).1.length, .int .i64 (plc v.to_ v.k v.b v.n v.L 0 v.at_).2.1, .int .i64 (plc v.to_ v.k v.b v.n v.L 0 v.at_).2.2] ∧ HOws (f24 v).get.2.1 [HO.ro 30 3 v.Q (fun j => [.int .i64 (v.k j), .int .i64 (v.b j), .int .i64 (v.n j)]) v.ob, HO.row 22 1 (plc v.to_ v.k v.b v.n v.L 0 v.at_).1.length (fun j => [.int .u64 ((plc v.to_ v.k v.b v.n v.L 0 v.at_).1.getD j 0)])] := by
  obtain ⟨⟨hQ, hL⟩, ha, ht⟩ := h
  obtain ⟨k0, k1, k2, k3, k4, k5⟩ := l24 (p := f24_8 v) (s := f24_9 v) ⟨hQ, hL, rfl⟩ ht ha ⟨rfl, rfl, rfl⟩ rfl
  have e10 : f24_10 v = lastS (r24_0 (f24_8 v)) (f24_9 v) := rfl
  rw [← e10] at k1 k2 k3 k4 k5
  have k1 : (plc v.to_ v.k v.b v.n v.L 0 v.at_).1 = ls (f24_10 v).F1_0 (f24_10 v).n9 := k1
  have hlen : (plc v.to_ v.k v.b v.n v.L 0 v.at_).1.length = (f24_10 v).n9 := by rw [k1, ls_len]
  have e2 : f24_2 v = 0 := by unfold f24_2; simp only [cnd_same]
  have e3 : f24_3 v = (f24_10 v).n9 := by unfold f24_3 f24_13; simp only [cnd_same]
  have e6 : f24_6 v = (f24_10 v).n9 := by unfold f24_6 f24_15; simp only [cnd_same]; exact k2
  have e7 : ∀ j, f24_7 v j = (f24_10 v).F1_0 j := fun j => by unfold f24_7; simp only [cnd_same]
  have e45 : f24_4 v = ((plc v.to_ v.k v.b v.n v.L 0 v.at_).2.1 : Int) ∧ f24_5 v = (plc v.to_ v.k v.b v.n v.L 0 v.at_).2.2 := by
    unfold f24_4 f24_5 f24_11 f24_12 f24_14
    cases h0 : e24_0_0 (f24_8 v) (f24_10 v) with
    | true =>
      obtain ⟨y1, y2⟩ := k3 h0
      have y1 : (plc v.to_ v.k v.b v.n v.L 0 v.at_).2.1 = v.L := y1
      have y2 : (plc v.to_ v.k v.b v.n v.L 0 v.at_).2.2 = 0 := y2
      rw [y1, y2]
      exact ⟨rfl, rfl⟩
    | false =>
      cases h5 : e24_0_5 (f24_8 v) (f24_10 v) with
      | true =>
        obtain ⟨y1, y2⟩ := k4 h0 h5
        have y1 : ((plc v.to_ v.k v.b v.n v.L 0 v.at_).2.1 : Int) = (f24_10 v).x21 := y1
        have y2 : (plc v.to_ v.k v.b v.n v.L 0 v.at_).2.2 = e24_0_6 (f24_8 v) (f24_10 v) := y2
        rw [y1, y2]
        exact ⟨rfl, rfl⟩
      | false =>
        obtain ⟨y1, y2⟩ := k5 h0 h5
        have y1 : ((plc v.to_ v.k v.b v.n v.L 0 v.at_).2.1 : Int) = (f24_10 v).x21 := y1
        have y2 : (plc v.to_ v.k v.b v.n v.L 0 v.at_).2.2 = 40 := y2
        rw [y1, y2]
        exact ⟨rfl, rfl⟩
  refine ⟨⟨k0, trivial⟩, ?_, ?_⟩
  · simp only [f24, Tr.get, e2, e3, e45.1, e45.2, hlen]
  · simp only [f24, Tr.get, e6, e7, hlen]
    refine .cons (.inl rfl) (.cons (.row fun j hj => ?_) .nil)
    rw [k1]
    simp [ls, List.getD, hj]
noncomputable def f24n (v : V24) : Tr (Fin th.R) := .need (pre24 v) (.leaf (.tup [.slc 1 1 0 (plc v.to_ v.k v.b v.n v.L 0 v.at_).1.length, .int .i64 (plc v.to_ v.k v.b v.n v.L 0 v.at_).2.1, .int .i64 (plc v.to_ v.k v.b v.n v.L 0 v.at_).2.2], [.ro 30 3 v.Q (fun j => [.int .i64 (v.k j), .int .i64 (v.b j), .int .i64 (v.n j)]) v.ob, .row 22 1 (plc v.to_ v.k v.b v.n v.L 0 v.at_).1.length (fun j => [.int .u64 ((plc v.to_ v.k v.b v.n v.L 0 v.at_).1.getD j 0)])], []))
theorem s24n : Sound Try.prog th 24 (fnC d24 ofV24 f24n) := fnC_refine s24 fun v h => by
  obtain ⟨hp, _⟩ := h
  obtain ⟨a, b, c⟩ := n24 v hp
  exact ⟨a, b.symm, (qdd24 v).symm, c, by show 1 ≤ 2; decide⟩
noncomputable def nice24n : List (Nat × CF th.R) := (24, lift (fnC d24 ofV24 f24n)) :: nice33
theorem nok24n : NiceOk Try.prog th nice24n := ⟨lift_sound s24n, nok33⟩
end Go.Sx.M

namespace Go.Sx.M
open Go Go.Sx Go.Proofs Go.RowKit
set_option maxRecDepth 100000
structure V96 where
  k : Int
  b : Int
  x : Int
def A96 (v : V96) : List SV := [.int .i64 v.k, .int .i64 v.b, .int .u64 v.x]
def H96 (v : V96) : List (HO th.R) := []
def toV96 (v : V96) : List (Vl th.R) := [.i v.k, .i v.b, .i v.x]
def ofV96 : List (Vl th.R) → Option V96
  | [.i k, .i b, .i x] => some ⟨k, b, x⟩
  | _ => none
def d96 : Ft := ⟨[.int .i64, .int .i64, .int .u64], []⟩
noncomputable def f96_0 (v : V96) : (Int) := cnd (f161_4 v.k v.b != (0 : Int)) (0 : Int) (cnd (!f125_0 v.x (f162_0 (f161_0 v.k v.b) (f161_1 v.k v.b) (f161_2 v.k v.b) (f161_3 v.k v.b) (f161_1 v.k v.b) (f161_1 v.k v.b) (f161_1 v.k v.b))) (0 : Int) (cnd (!f45_1 (f161_0 v.k v.b) v.x (f161_2 v.k v.b) (f161_3 v.k v.b) (f161_1 v.k v.b) (f161_1 v.k v.b) (f161_1 v.k v.b)) (0 : Int) (f161_0 v.k v.b)))
noncomputable def f96_1 (v : V96) : (Int) := cnd (f161_4 v.k v.b != (0 : Int)) (0 : Int) (cnd (!f125_0 v.x (f162_0 (f161_0 v.k v.b) (f161_1 v.k v.b) (f161_2 v.k v.b) (f161_3 v.k v.b) (f161_1 v.k v.b) (f161_1 v.k v.b) (f161_1 v.k v.b))) (0 : Int) (cnd (!f45_1 (f161_0 v.k v.b) v.x (f161_2 v.k v.b) (f161_3 v.k v.b) (f161_1 v.k v.b) (f161_1 v.k v.b) (f161_1 v.k v.b)) (0 : Int) v.x))
noncomputable def f96_2 (v : V96) : (Int) := cnd (f161_4 v.k v.b != (0 : Int)) (0 : Int) (cnd (!f125_0 v.x (f162_0 (f161_0 v.k v.b) (f161_1 v.k v.b) (f161_2 v.k v.b) (f161_3 v.k v.b) (f161_1 v.k v.b) (f161_1 v.k v.b) (f161_1 v.k v.b))) (0 : Int) (cnd (!f45_1 (f161_0 v.k v.b) v.x (f161_2 v.k v.b) (f161_3 v.k v.b) (f161_1 v.k v.b) (f161_1 v.k v.b) (f161_1 v.k v.b)) (0 : Int) (f161_2 v.k v.b)))
noncomputable def f96_3 (v : V96) : (Int) := cnd (f161_4 v.k v.b != (0 : Int)) (0 : Int) (cnd (!f125_0 v.x (f162_0 (f161_0 v.k v.b) (f161_1 v.k v.b) (f161_2 v.k v.b) (f161_3 v.k v.b) (f161_1 v.k v.b) (f161_1 v.k v.b) (f161_1 v.k v.b))) (0 : Int) (cnd (!f45_1 (f161_0 v.k v.b) v.x (f161_2 v.k v.b) (f161_3 v.k v.b) (f161_1 v.k v.b) (f161_1 v.k v.b) (f161_1 v.k v.b)) (0 : Int) (f161_3 v.k v.b)))
noncomputable def f96_4 (v : V96) : (Int) := cnd (f161_4 v.k v.b != (0 : Int)) (0 : Int) (cnd (!f125_0 v.x (f162_0 (f161_0 v.k v.b) (f161_1 v.k v.b) (f161_2 v.k v.b) (f161_3 v.k v.b) (f161_1 v.k v.b) (f161_1 v.k v.b) (f161_1 v.k v.b))) (0 : Int) (cnd (!f45_1 (f161_0 v.k v.b) v.x (f161_2 v.k v.b) (f161_3 v.k v.b) (f161_1 v.k v.b) (f161_1 v.k v.b) (f161_1 v.k v.b)) (0 : Int) (f161_1 v.k v.b)))
noncomputable def f96_5 (v : V96) : (Int) := cnd (f161_4 v.k v.b != (0 : Int)) (f161_4 v.k v.b) (cnd (!f125_0 v.x (f162_0 (f161_0 v.k v.b) (f161_1 v.k v.b) (f161_2 v.k v.b) (f161_3 v.k v.b) (f161_1 v.k v.b) (f161_1 v.k v.b) (f161_1 v.k v.b))) (13 : Int) (cnd (!f45_1 (f161_0 v.k v.b) v.x (f161_2 v.k v.b) (f161_3 v.k v.b) (f161_1 v.k v.b) (f161_1 v.k v.b) (f161_1 v.k v.b)) (12 : Int) (0 : Int)))
noncomputable def ff96 (v : V96) : Tr (Fin th.R) := (Tr.leaf (SV.tup [SV.agg [SV.int .i64 (f96_0 v), SV.int .u64 (f96_1 v), SV.int .i64 (f96_2 v), SV.int .i64 (f96_3 v), SV.int .i64 (f96_4 v), SV.int .i64 (f96_4 v), SV.int .u64 (f96_4 v)], SV.int .i64 (f96_5 v)], List.nil, List.nil))
noncomputable def f96 (v : V96) : Tr (Fin th.R) := (Tr.leaf (SV.tup [SV.agg [SV.int .i64 (f96_0 v), SV.int .u64 (f96_1 v), SV.int .i64 (f96_2 v), SV.int .i64 (f96_3 v), SV.int .i64 (f96_4 v), SV.int .i64 (f96_4 v), SV.int .u64 (f96_4 v)], SV.int .i64 (f96_5 v)], List.nil, []))
noncomputable def C96 : CF th.R := fnC d96 ofV96 (f96 )
theorem q96 (v : V96) : (evFn th Try.prog (auto th Try.prog nice24n [] 20) (autoH [] [] [] [] : Hints th) 96) (A96 v) (H96 v) = some (ff96 v) := by kernel_rfl
theorem qg96 (v : V96) : ((ff96 v).map (setD [])).get = (f96 v).get := by kernel_rfl
theorem qd96 (v : V96) : allD 0 [] (ff96 v) = true := by kernel_rfl
theorem s96 : Sound Try.prog th 96 (C96 ) := fnC_sound (evFn_sound' (T := th) (P := Try.prog) (tbl := (auto th Try.prog nice24n [] 20)) (auto_sound (nice := nice24n) (us := []) nok24n 20) (H := (autoH [] [] [] [] : Hints th)) (k := 96) (fnLoops (LoopsOk_mem (fun _ => rfl) _ fun _ _ _ e => by cases e))) d96 A96 H96 toV96 (by kernel_rfl) (fun v => by kernel_rfl)
  (fun l v h => by
    unfold ofV96 at h
    split at h
    · cases h; rfl
    · cases h)
  [] (fun v => ⟨ff96 v, q96 v, id, qg96 v, qd96 v⟩)
noncomputable def nice96 : List (Nat × CF th.R) := (96, lift C96) :: nice24n
theorem nok96 : NiceOk Try.prog th nice96 := ⟨lift_sound s96, nok24n⟩
end Go.Sx.M

namespace Go.Sx.M
open Go Go.Sx Go.Proofs Go.RowKit
set_option maxRecDepth 100000
structure V23 where
def A23 (v : V23) : List SV := []
def H23 (v : V23) : List (HO th.R) := []
def toV23 (v : V23) : List (Vl th.R) := []
def ofV23 : List (Vl th.R) → Option V23
  | [] => some ⟨⟩
  | _ => none
def d23 : Ft := ⟨[], []⟩
noncomputable def f23_0 (v : V23) : (Prop) := f95_0 (2 : Int) (4 : Int) (1 : Int)
noncomputable def ff23 (v : V23) : Tr (Fin th.R) := (Tr.need (f23_0 v) (Tr.leaf (SV.bool (true), List.nil, List.nil)))
noncomputable def f23 (v : V23) : Tr (Fin th.R) := (Tr.need (f23_0 v) (Tr.leaf (SV.bool (true), List.nil, [])))
noncomputable def C23 : CF th.R := fnC d23 ofV23 (f23 )
theorem q23 (v : V23) : (evFn th Try.prog (auto th Try.prog nice96 [] 20) (autoH [] [] [] [] : Hints th) 23) (A23 v) (H23 v) = some (ff23 v) := by kernel_rfl
theorem qg23 (v : V23) : ((ff23 v).map (setD [])).get = (f23 v).get := by kernel_rfl
theorem qd23 (v : V23) : allD 0 [] (ff23 v) = true := by kernel_rfl
theorem s23 : Sound Try.prog th 23 (C23 ) := fnC_sound (evFn_sound' (T := th) (P := Try.prog) (tbl := (auto th Try.prog nice96 [] 20)) (auto_sound (nice := nice96) (us := []) nok96 20) (H := (autoH [] [] [] [] : Hints th)) (k := 23) (fnLoops (LoopsOk_mem (fun _ => rfl) _ fun _ _ _ e => by cases e))) d23 A23 H23 toV23 (by kernel_rfl) (fun v => by kernel_rfl)
  (fun l v h => by
    unfold ofV23 at h
    split at h
    · cases h; rfl
    · cases h)
  [] (fun v => ⟨ff23 v, q23 v, id, qg23 v, qd23 v⟩)
theorem qdd23 (v : V23) : (f23 v).get.2.2 = [] := by
  rw [← qg23, Tr.map_get]; rfl
end Go.Sx.M

namespace Go.Sx.M
open Go Go.Sx Go.Proofs Go.RowKit
set_option maxRecDepth 100000
def pre23 (v : V23) : Prop := True
theorem n23 (v : V23) (h : pre23 v) : (f23 v).ok ∧ (f23 v).get.1 = .bool true ∧ HOws (f23 v).get.2.1 [] := by
  refine ⟨?_, rfl, .refl _⟩
  (repeat' first | intro _ | apply And.intro) <;> first | trivial | decide
noncomputable def f23n (v : V23) : Tr (Fin th.R) := .need (pre23 v) (.leaf (.bool true, [], []))
theorem s23n : Sound Try.prog th 23 (fnC d23 ofV23 f23n) := fnC_refine s23 fun v h => by
  obtain ⟨hp, _⟩ := h
  obtain ⟨a, b, c⟩ := n23 v hp
  exact ⟨a, b.symm, (qdd23 v).symm, c, by show 0 ≤ 0; decide⟩
noncomputable def nice23n : List (Nat × CF th.R) := (23, lift (fnC d23 ofV23 f23n)) :: nice96
theorem nok23n : NiceOk Try.prog th nice23n := ⟨lift_sound s23n, nok96⟩
end Go.Sx.M

namespace Go.Sx.M
open Go Go.Sx Go.Proofs Go.RowKit
set_option maxRecDepth 100000
structure V3 where
  at_ : Int
  to_ : Int
  L : Nat
  Q : Nat
  ob : Obj
  k : Nat → Int
  b : Nat → Int
  n : Nat → Int
def A3 (v : V3) : List SV := [.int .u64 v.at_, .int .u64 v.to_, .slc 0 3 0 v.L]
def H3 (v : V3) : List (HO th.R) := [.ro 30 3 v.Q (fun j => [.int .i64 (v.k j), .int .i64 (v.b j), .int .i64 (v.n j)]) v.ob]
def toV3 (v : V3) : List (Vl th.R) := [.i v.at_, .i v.to_, .n v.L, .n v.Q, .o v.ob, .c v.k, .c v.b, .c v.n]
def ofV3 : List (Vl th.R) → Option V3
  | [.i at_, .i to_, .n L, .n Q, .o ob, .c k, .c b, .c n] => some ⟨at_, to_, L, Q, ob, k, b, n⟩
  | _ => none
def d3 : Ft := ⟨[.int .u64, .int .u64, .slc0 0 3], [.roc 30 [.int .i64, .int .i64, .int .i64]]⟩
structure P3_1 where
  x1 : Int
  n2 : Nat
  b6 : Bool
  n7 : Nat
  x8 : Int
  x9 : Int
  x15 : Int
  x16 : Int
  n39 : Nat
  x40 : Int
  x41 : Int
  x111 : Int
  N0 : Nat
  O0 : Obj
  F0_0 : Nat → Int
  F0_1 : Nat → Int
  F0_2 : Nat → Int
  N1 : Nat
  F1_0 : Nat → Int
  xh2_0 : Int
  xh2_1 : Int
  xh2_2 : Int
structure S3_1 where
  x10 : Int
  x112 : Int
noncomputable instance : Inhabited S3_1 := ⟨⟨0, 0⟩⟩
def I3_1 (p : P3_1) (s : S3_1) : St th.R := ⟨[none, some (.int .u64 p.x1), some (.slc 0 3 0 p.n2), none, none, none, some (.bool p.b6), some (.slc 1 1 0 p.n7), some (.int .i64 p.x8), some (.int .i64 p.x9), some (.int .i64 s.x10), none, some (.ptr 2 0), none, none, some (.int .u64 p.x15), some (.int .u64 p.x16), none, none, none, none, none, none, none, none, none, none, none, none, none, none, none, none, none, none, none, none, none, none, some (.slc 0 3 0 p.n39), some (.int .i64 p.x40), some (.int .i64 p.x41), none, none, none, none, none, none, none, none, none, none, none, none, none, none, none, none, none, none, none, none, none, none, none, none, none, none, none, none, none, none, none, none, none, none, none, none, none, none, none, none, none, none, none, none, none, none, none, none, none, none, none, none, none, none, none, none, none, none, none, none, none, none, none, none, none, none, none, none, none, some (.int .i64 p.x111), some (.int .i64 s.x112), none, none, none, none, none, none, none, none, none, none, none, none, none, none, none, none, none, none, none, none, none, none, none, none, none, none, none, none, none, none, none, none, none, none, none, none, none, none, none, none, none, none, none, none], [.ro 30 3 p.N0 (fun j => [.int .i64 (p.F0_0 j), .int .i64 (p.F0_1 j), .int .i64 (p.F0_2 j)]) p.O0, .row 22 1 p.N1 (fun j => [.int .u64 (p.F1_0 j)]), .cells 30 [.int .i64 p.xh2_0, .int .i64 p.xh2_1, .int .i64 p.xh2_2]], [], []⟩
def d3_1 : Lp := ⟨⟨157, [(1, .int .u64), (2, .slc0 0 3), (6, .bool), (7, .slc0 1 1), (8, .int .i64), (9, .int .i64), (10, .int .i64), (12, .ptr 2 0), (15, .int .u64), (16, .int .u64), (39, .slc0 0 3), (40, .int .i64), (41, .int .i64), (111, .int .i64), (112, .int .i64)], [.roc 30 [.int .i64, .int .i64, .int .i64], .rowc 22 [.int .u64], .cells 30 [.int .i64, .int .i64, .int .i64]]⟩, [], 3, [], [1, 2, 6, 7, 8, 9, 10, 12, 15, 16, 39, 40, 41, 69, 70, 71, 72, 73, 74, 75, 76, 77, 90, 91, 92, 100, 101, 102, 105, 106, 107, 108, 120, 121, 122, 123, 124, 125, 126, 127, 128, 129, 130, 146, 147, 148, 149, 152, 153, 154, 155], []⟩
def toV3_1 (p : P3_1) (s : S3_1) : List (Vl th.R) := [.i p.x1, .n p.n2, .b p.b6, .n p.n7, .i p.x8, .i p.x9, .i s.x10, .i p.x15, .i p.x16, .n p.n39, .i p.x40, .i p.x41, .i p.x111, .i s.x112, .n p.N0, .o p.O0, .c p.F0_0, .c p.F0_1, .c p.F0_2, .n p.N1, .c p.F1_0, .i p.xh2_0, .i p.xh2_1, .i p.xh2_2]
def ofV3_1 : List (Vl th.R) → Option (P3_1 × S3_1)
  | [.i x1, .n n2, .b b6, .n n7, .i x8, .i x9, .i x10, .i x15, .i x16, .n n39, .i x40, .i x41, .i x111, .i x112, .n N0, .o O0, .c F0_0, .c F0_1, .c F0_2, .n N1, .c F1_0, .i xh2_0, .i xh2_1, .i xh2_2] => some (⟨x1, n2, b6, n7, x8, x9, x15, x16, n39, x40, x41, x111, N0, O0, F0_0, F0_1, F0_2, N1, F1_0, xh2_0, xh2_1, xh2_2⟩, ⟨x10, x112⟩)
  | _ => none
noncomputable def e3_1_8 (p : P3_1) (s : S3_1) : (Bool) := decide (s.x10 ≥ (↑p.n7 : Int))
noncomputable def e3_1_9 (p : P3_1) (s : S3_1) : (Nat) := (0:Nat) + s.x10.toNat
noncomputable def e3_1_0 (p : P3_1) (s : S3_1) : (Bool) := cnd (decide (s.x112 < p.x111)) false true
noncomputable def e3_1_1 (p : P3_1) (s : S3_1) : (Prop) := (∀ (i : Nat), scpL (0:Nat) ((fun (j : Nat) => [SV.int IntKind.i64 (p.F0_0 j), SV.int IntKind.i64 (p.F0_1 j), SV.int IntKind.i64 (p.F0_2 j)]) i) = true) ∧ ∀ (i : Nat), scpL (0:Nat) ((fun (j : Nat) => [SV.int IntKind.u64 (p.F1_0 j)]) i) = true
noncomputable def e3_1_2 (p : P3_1) (s : S3_1) : (Prop) := cnd (!e3_1_8 p s) true false = true → (0 : Int) ≤ s.x10 ∧ s.x10 < (↑p.n7 : Int)
noncomputable def e3_1_3 (p : P3_1) (s : S3_1) : (Prop) := cnd (!e3_1_8 p s) true false = true → e3_1_9 p s < p.N1
noncomputable def e3_1_4 (p : P3_1) (s : S3_1) : (Bool) := cnd (e3_1_8 p s) true (p.F1_0 (e3_1_9 p s) != IntKind.u64.wrap (p.x16 + IntKind.u64.wrap (IntKind.u64.wrap s.x112 * p.x15)))
noncomputable def e3_1_5 (p : P3_1) (s : S3_1) : (Prop) := ((∀ (i : Nat), scpL (0:Nat) ((fun (j : Nat) => [SV.int IntKind.i64 (p.F0_0 j), SV.int IntKind.i64 (p.F0_1 j), SV.int IntKind.i64 (p.F0_2 j)]) i) = true) ∧ ∀ (i : Nat), scpL (0:Nat) ((fun (j : Nat) => [SV.int IntKind.u64 (p.F1_0 j)]) i) = true) ∧ (∀ (i : Nat), i < p.N0 → (fun (j : Nat) => [SV.int IntKind.i64 (p.F0_0 j), SV.int IntKind.i64 (p.F0_1 j), SV.int IntKind.i64 (p.F0_2 j)]) i = elC (fun (j : Nat) => [SV.int IntKind.i64 (p.F0_0 j), SV.int IntKind.i64 (p.F0_1 j), SV.int IntKind.i64 (p.F0_2 j)]) (0:Nat) [Ck.int IntKind.i64, Ck.int IntKind.i64, Ck.int IntKind.i64] i) ∧ ∀ (i : Nat), i < p.N1 → (fun (j : Nat) => [SV.int IntKind.u64 (p.F1_0 j)]) i = elC (fun (j : Nat) => [SV.int IntKind.u64 (p.F1_0 j)]) (0:Nat) [Ck.int IntKind.u64] i
noncomputable def e3_1_6 (p : P3_1) (s : S3_1) : (Int) := IntKind.i64.wrap (s.x10 + (1 : Int))
noncomputable def e3_1_7 (p : P3_1) (s : S3_1) : (Int) := IntKind.i64.wrap (s.x112 + (1 : Int))
theorem n_e3_1_1 (p : P3_1) (s : S3_1) : e3_1_1 p s := by
  unfold e3_1_1
  first
    | (intros; rfl)
    | (intro i; rfl)
    | (intro i _; rfl)
    | (intro _ i; rfl)
    | (intro _ i _; rfl)
    | (refine ⟨?_, ?_⟩ <;> intro i <;> rfl)
    | (refine ⟨?_, ?_, ?_⟩ <;> intro i <;> rfl)
    | (refine ⟨?_, ?_⟩ <;> intro i _ <;> rfl)
    | (repeat' apply And.intro) <;> first | (intro i; rfl) | (intro i _; rfl) | (intro i h; exact absurd h (Nat.not_lt_zero i)) | (intro i; exact scpL_rowSet (by rfl) (by rfl)) | (intro i; exact scpL_rowEl (by kernel_rfl) _)
    | (intros; (repeat' apply And.intro) <;> intros <;> first | rfl | (exact absurd (by assumption) (Nat.not_lt_zero _)))
    | omega
    | decide
theorem n_e3_1_5 (p : P3_1) (s : S3_1) : e3_1_5 p s := by
  unfold e3_1_5
  first
    | (intros; rfl)
    | (intro i; rfl)
    | (intro i _; rfl)
    | (intro _ i; rfl)
    | (intro _ i _; rfl)
    | (refine ⟨?_, ?_⟩ <;> intro i <;> rfl)
    | (refine ⟨?_, ?_, ?_⟩ <;> intro i <;> rfl)
    | (refine ⟨?_, ?_⟩ <;> intro i _ <;> rfl)
    | (repeat' apply And.intro) <;> first | (intro i; rfl) | (intro i _; rfl) | (intro i h; exact absurd h (Nat.not_lt_zero i)) | (intro i; exact scpL_rowSet (by rfl) (by rfl)) | (intro i; exact scpL_rowEl (by kernel_rfl) _)
    | (intros; (repeat' apply And.intro) <;> intros <;> first | rfl | (exact absurd (by assumption) (Nat.not_lt_zero _)))
    | omega
    | decide
noncomputable def rf3_1 (p : P3_1) (s : S3_1) : Tr (Rs th.R S3_1) := (Tr.ite (e3_1_0 p s) (Tr.need (e3_1_1 p s) (Tr.leaf (Rs.out (Ex.exit (3 : Nat)) [none, some (SV.int .u64 (p.x1)), (some (SV.slc (0:Nat) (3 : Nat) (0:Nat) (p.n2))), none, none, none, some (SV.bool (p.b6)), (some (SV.slc (1 : Nat) (1 : Nat) (0:Nat) (p.n7))), some (SV.int .i64 (p.x8)), some (SV.int .i64 (p.x9)), some (SV.int .i64 (s.x10)), none, (some (SV.ptr (2 : Nat) (0:Nat))), none, none, some (SV.int .u64 (p.x15)), some (SV.int .u64 (p.x16)), none, none, none, none, none, none, none, none, none, none, none, none, none, none, none, none, none, none, none, none, none, none, (some (SV.slc (0:Nat) (3 : Nat) (0:Nat) (p.n39))), some (SV.int .i64 (p.x40)), some (SV.int .i64 (p.x41)), none, none, none, none, none, none, none, none, none, none, none, none, none, none, none, none, none, none, none, none, none, none, none, none, none, none, none, none, none, none, none, none, none, none, none, none, none, none, none, none, none, none, none, none, none, none, none, none, none, none, none, none, none, none, none, none, none, none, none, none, none, none, none, none, none, none, none, none, none, none, none, none, none, none, none, none, none, none, none, none, none, none, none, none, none, none, none, none, none, none, none, none, none, none, none, none, none, none, none, none, none, none, none, none, none, none, none, none, none, none, none, none, none, none, none] [(HO.ro (30 : Nat) (3 : Nat) (p.N0) (fun j => [SV.int .i64 (p.F0_0 j), SV.int .i64 (p.F0_1 j), SV.int .i64 (p.F0_2 j)]) (p.O0)), (HO.row (22 : Nat) (1 : Nat) (p.N1) (fun j => [SV.int .u64 (p.F1_0 j)])), (HO.cells (30 : Nat) [SV.int .i64 (p.xh2_0), SV.int .i64 (p.xh2_1), SV.int .i64 (p.xh2_2)])]))) (Tr.need (e3_1_2 p s) (Tr.need (e3_1_3 p s) (Tr.ite (e3_1_4 p s) (Tr.need (e3_1_1 p s) (Tr.leaf (Rs.out (Ex.ret) [none, some (SV.int .u64 (p.x1)), (some (SV.slc (0:Nat) (3 : Nat) (0:Nat) (p.n2))), none, none, none, some (SV.bool (false)), (some (SV.slc (1 : Nat) (1 : Nat) (0:Nat) (p.n7))), some (SV.int .i64 (p.x8)), some (SV.int .i64 (p.x9)), some (SV.int .i64 (s.x10)), none, (some (SV.ptr (2 : Nat) (0:Nat))), none, none, some (SV.int .u64 (p.x15)), some (SV.int .u64 (p.x16)), none, none, none, none, none, none, none, none, none, none, none, none, none, none, none, none, none, none, none, none, none, none, (some (SV.slc (0:Nat) (3 : Nat) (0:Nat) (p.n39))), some (SV.int .i64 (p.x40)), some (SV.int .i64 (p.x41)), none, none, none, none, none, none, none, none, none, none, none, none, none, none, none, none, none, none, none, none, none, none, none, none, none, none, none, none, none, none, none, none, none, none, none, none, none, none, none, none, none, none, none, none, none, none, none, none, none, none, none, none, none, none, none, none, none, none, none, none, none, none, none, none, none, none, none, none, none, none, none, none, none, none, none, none, none, none, none, none, none, none, none, none, none, none, none, none, none, none, none, none, none, none, none, none, none, none, none, none, none, none, none, none, none, none, none, none, none, none, none, none, none, none, none] [(HO.ro (30 : Nat) (3 : Nat) (p.N0) (fun j => [SV.int .i64 (p.F0_0 j), SV.int .i64 (p.F0_1 j), SV.int .i64 (p.F0_2 j)]) (p.O0)), (HO.row (22 : Nat) (1 : Nat) (p.N1) (fun j => [SV.int .u64 (p.F1_0 j)])), (HO.cells (30 : Nat) [SV.int .i64 (p.xh2_0), SV.int .i64 (p.xh2_1), SV.int .i64 (p.xh2_2)])]))) (Tr.need (e3_1_5 p s) (Tr.leaf (Rs.on (S3_1.mk ((e3_1_6 p s)) ((e3_1_7 p s))))))))))
noncomputable def r3_1 (p : P3_1) (s : S3_1) : Tr (Rs th.R S3_1) := (Tr.ite (e3_1_0 p s) (Tr.leaf (Rs.out (Ex.exit (3 : Nat)) [none, some (SV.int .u64 (p.x1)), (some (SV.slc (0:Nat) (3 : Nat) (0:Nat) (p.n2))), none, none, none, some (SV.bool (p.b6)), (some (SV.slc (1 : Nat) (1 : Nat) (0:Nat) (p.n7))), some (SV.int .i64 (p.x8)), some (SV.int .i64 (p.x9)), some (SV.int .i64 (s.x10)), none, (some (SV.ptr (2 : Nat) (0:Nat))), none, none, some (SV.int .u64 (p.x15)), some (SV.int .u64 (p.x16)), none, none, none, none, none, none, none, none, none, none, none, none, none, none, none, none, none, none, none, none, none, none, (some (SV.slc (0:Nat) (3 : Nat) (0:Nat) (p.n39))), some (SV.int .i64 (p.x40)), some (SV.int .i64 (p.x41)), none, none, none, none, none, none, none, none, none, none, none, none, none, none, none, none, none, none, none, none, none, none, none, none, none, none, none, none, none, none, none, none, none, none, none, none, none, none, none, none, none, none, none, none, none, none, none, none, none, none, none, none, none, none, none, none, none, none, none, none, none, none, none, none, none, none, none, none, none, none, none, none, none, none, none, none, none, none, none, none, none, none, none, none, none, none, none, none, none, none, none, none, none, none, none, none, none, none, none, none, none, none, none, none, none, none, none, none, none, none, none, none, none, none, none] [(HO.ro (30 : Nat) (3 : Nat) (p.N0) (fun j => [SV.int .i64 (p.F0_0 j), SV.int .i64 (p.F0_1 j), SV.int .i64 (p.F0_2 j)]) (p.O0)), (HO.row (22 : Nat) (1 : Nat) (p.N1) (fun j => [SV.int .u64 (p.F1_0 j)])), (HO.cells (30 : Nat) [SV.int .i64 (p.xh2_0), SV.int .i64 (p.xh2_1), SV.int .i64 (p.xh2_2)])])) (Tr.need (e3_1_2 p s) (Tr.need (e3_1_3 p s) (Tr.ite (e3_1_4 p s) (Tr.leaf (Rs.out (Ex.ret) [none, some (SV.int .u64 (p.x1)), (some (SV.slc (0:Nat) (3 : Nat) (0:Nat) (p.n2))), none, none, none, some (SV.bool (false)), (some (SV.slc (1 : Nat) (1 : Nat) (0:Nat) (p.n7))), some (SV.int .i64 (p.x8)), some (SV.int .i64 (p.x9)), some (SV.int .i64 (s.x10)), none, (some (SV.ptr (2 : Nat) (0:Nat))), none, none, some (SV.int .u64 (p.x15)), some (SV.int .u64 (p.x16)), none, none, none, none, none, none, none, none, none, none, none, none, none, none, none, none, none, none, none, none, none, none, (some (SV.slc (0:Nat) (3 : Nat) (0:Nat) (p.n39))), some (SV.int .i64 (p.x40)), some (SV.int .i64 (p.x41)), none, none, none, none, none, none, none, none, none, none, none, none, none, none, none, none, none, none, none, none, none, none, none, none, none, none, none, none, none, none, none, none, none, none, none, none, none, none, none, none, none, none, none, none, none, none, none, none, none, none, none, none, none, none, none, none, none, none, none, none, none, none, none, none, none, none, none, none, none, none, none, none, none, none, none, none, none, none, none, none, none, none, none, none, none, none, none, none, none, none, none, none, none, none, none, none, none, none, none, none, none, none, none, none, none, none, none, none, none, none, none, none, none, none, none] [(HO.ro (30 : Nat) (3 : Nat) (p.N0) (fun j => [SV.int .i64 (p.F0_0 j), SV.int .i64 (p.F0_1 j), SV.int .i64 (p.F0_2 j)]) (p.O0)), (HO.row (22 : Nat) (1 : Nat) (p.N1) (fun j => [SV.int .u64 (p.F1_0 j)])), (HO.cells (30 : Nat) [SV.int .i64 (p.xh2_0), SV.int .i64 (p.xh2_1), SV.int .i64 (p.xh2_2)])])) (Tr.leaf (Rs.on (S3_1.mk ((e3_1_6 p s)) ((e3_1_7 p s)))))))))
noncomputable def E3_1 : St th.R → Out th := evCode th Try.prog (auto th Try.prog nice23n [] 20) (autoH [] [] [] [] : Hints th) (lpAt Try.prog 3 1)
theorem B3_1 : CodeSound th Try.prog (lpAt Try.prog 3 1) E3_1 := evCode_sound (T := th) (P := Try.prog) (tbl := (auto th Try.prog nice23n [] 20)) (auto_sound (nice := nice23n) (us := []) nok23n 20) (autoH [] [] [] [] : Hints th) _ (LoopsOk_mem (fun _ => rfl) _ fun b hb L hL => by cases hL)
noncomputable def L3_1 : St th.R → Out th := loopL d3_1 ofV3_1 r3_1
theorem h1_3_1 (p : P3_1) (s : S3_1) : bld d3_1.tm (toV3_1 p s) = some (I3_1 p s) := by kernel_rfl
theorem h2_3_1 (l : List (Vl th.R)) (p : P3_1) (s : S3_1) (h : ofV3_1 l = some (p, s)) : l = toV3_1 p s := by
  unfold ofV3_1 at h
  split at h
  · cases h; rfl
  · cases h
theorem h3_3_1 (p : P3_1) (s : S3_1) : cvE d3_1 (E3_1 (I3_1 p s)) = some ((rf3_1 p s).map (Rs.map (toV3_1 p))) := by kernel_rfl
theorem h3g_3_1 (p : P3_1) (s : S3_1) : (rf3_1 p s).get = (r3_1 p s).get := by kernel_rfl
theorem h4_3_1 (p : P3_1) (s s1 : S3_1) : outH d3_1.dirt d3_1.n0 (r3_1 p s) = repH (maskH d3_1.dirt 0 d3_1.n0 (I3_1 p s1).heap) (r3_1 p s) := by kernel_rfl
theorem ls3_1 : CodeSound th Try.prog (.loop (lpAt Try.prog 3 1)) L3_1 := loopL_sound B3_1 d3_1 I3_1 toV3_1 (by kernel_rfl) h1_3_1 h2_3_1
  (fun p s => ⟨(rf3_1 p s).map (Rs.map (toV3_1 p)), h3_3_1 p s, fun h => by
    rw [Tr.map_ok]
    unfold r3_1 at h; unfold rf3_1
    simp only [Tr.ok, n_e3_1_1, n_e3_1_5, true_and, and_true, forall_const, implies_true] at h ⊢
    try exact h, by rw [Tr.map_get, h3g_3_1 p s]⟩) h4_3_1
structure P3_0 where
  x1 : Int
  n2 : Nat
  b6 : Bool
  n7 : Nat
  x8 : Int
  x9 : Int
  n39 : Nat
  x40 : Int
  N0 : Nat
  O0 : Obj
  F0_0 : Nat → Int
  F0_1 : Nat → Int
  F0_2 : Nat → Int
  N1 : Nat
  F1_0 : Nat → Int
structure S3_0 where
  x0 : Int
  x10 : Int
  x41 : Int
noncomputable instance : Inhabited S3_0 := ⟨⟨0, 0, 0⟩⟩
def I3_0 (p : P3_0) (s : S3_0) : St th.R := ⟨[some (.int .u64 s.x0), some (.int .u64 p.x1), some (.slc 0 3 0 p.n2), none, none, none, some (.bool p.b6), some (.slc 1 1 0 p.n7), some (.int .i64 p.x8), some (.int .i64 p.x9), some (.int .i64 s.x10), none, none, none, none, none, none, none, none, none, none, none, none, none, none, none, none, none, none, none, none, none, none, none, none, none, none, none, none, some (.slc 0 3 0 p.n39), some (.int .i64 p.x40), some (.int .i64 s.x41), none, none, none, none, none, none, none, none, none, none, none, none, none, none, none, none, none, none, none, none, none, none, none, none, none, none, none, none, none, none, none, none, none, none, none, none, none, none, none, none, none, none, none, none, none, none, none, none, none, none, none, none, none, none, none, none, none, none, none, none, none, none, none, none, none, none, none, none, none, none, none, none, none, none, none, none, none, none, none, none, none, none, none, none, none, none, none, none, none, none, none, none, none, none, none, none, none, none, none, none, none, none, none, none, none, none, none, none, none, none, none, none, none, none, none], [.ro 30 3 p.N0 (fun j => [.int .i64 (p.F0_0 j), .int .i64 (p.F0_1 j), .int .i64 (p.F0_2 j)]) p.O0, .row 22 1 p.N1 (fun j => [.int .u64 (p.F1_0 j)])], [], []⟩
def d3_0 : Lp := ⟨⟨157, [(0, .int .u64), (1, .int .u64), (2, .slc0 0 3), (6, .bool), (7, .slc0 1 1), (8, .int .i64), (9, .int .i64), (10, .int .i64), (39, .slc0 0 3), (40, .int .i64), (41, .int .i64)], [.roc 30 [.int .i64, .int .i64, .int .i64], .rowc 22 [.int .u64]]⟩, [], 2, [], [2, 6, 7, 8, 9, 10, 146, 147, 148, 149, 152, 153, 154, 155], []⟩
def toV3_0 (p : P3_0) (s : S3_0) : List (Vl th.R) := [.i s.x0, .i p.x1, .n p.n2, .b p.b6, .n p.n7, .i p.x8, .i p.x9, .i s.x10, .n p.n39, .i p.x40, .i s.x41, .n p.N0, .o p.O0, .c p.F0_0, .c p.F0_1, .c p.F0_2, .n p.N1, .c p.F1_0]
def ofV3_0 : List (Vl th.R) → Option (P3_0 × S3_0)
  | [.i x0, .i x1, .n n2, .b b6, .n n7, .i x8, .i x9, .i x10, .n n39, .i x40, .i x41, .n N0, .o O0, .c F0_0, .c F0_1, .c F0_2, .n N1, .c F1_0] => some (⟨x1, n2, b6, n7, x8, x9, n39, x40, N0, O0, F0_0, F0_1, F0_2, N1, F1_0⟩, ⟨x0, x10, x41⟩)
  | _ => none
noncomputable def e3_0_16 (p : P3_0) (s : S3_0) : (Nat) := (0:Nat) + s.x41.toNat
noncomputable def e3_0_17 (p : P3_0) (s : S3_0) : (Int) := p.F0_0 (e3_0_16 p s)
noncomputable def e3_0_18 (p : P3_0) (s : S3_0) : (Int) := p.F0_1 (e3_0_16 p s)
noncomputable def e3_0_19 (p : P3_0) (s : S3_0) : (Int) := f25_0 (e3_0_17 p s) (e3_0_18 p s)
noncomputable def e3_0_20 (p : P3_0) (s : S3_0) : (Bool) := e3_0_19 p s == (-1 : Int)
noncomputable def e3_0_21 (p : P3_0) (s : S3_0) : (Bool) := e3_0_19 p s == (-2 : Int)
noncomputable def e3_0_22 (p : P3_0) (s : S3_0) : (Int) := p.F0_2 (e3_0_16 p s)
noncomputable def e3_0_23 (p : P3_0) (s : S3_0) : (Bool) := cnd (decide (e3_0_22 p s < (1 : Int))) true (decide (e3_0_22 p s > (64 : Int)))
noncomputable def e3_0_24 (p : P3_0) (s : S3_0) : (Int) := p26 (e3_0_19 p s).toNat
noncomputable def e3_0_25 (p : P3_0) (s : S3_0) : (Int) := s.x0.tmod (e3_0_24 p s)
noncomputable def e3_0_26 (p : P3_0) (s : S3_0) : (Bool) := e3_0_25 p s != (0 : Int)
noncomputable def e3_0_27 (p : P3_0) (s : S3_0) : (Int) := cnd (e3_0_26 p s) (IntKind.u64.wrap (s.x0 + IntKind.u64.wrap (e3_0_24 p s - e3_0_25 p s))) s.x0
noncomputable def e3_0_28 (p : P3_0) (s : S3_0) : (Int) := IntKind.u64.wrap (e3_0_22 p s)
noncomputable def e3_0_29 (p : P3_0) (s : S3_0) : (Int) := IntKind.u64.wrap (e3_0_24 p s * e3_0_28 p s)
noncomputable def e3_0_30 (p : P3_0) (s : S3_0) : (Int) := IntKind.u64.wrap (p.x1 - e3_0_27 p s)
noncomputable def e3_0_31 (p : P3_0) (s : S3_0) : (Int) := cnd (e3_0_20 p s) (20 : Int) (cnd (e3_0_21 p s) (11 : Int) (cnd (e3_0_23 p s) (12 : Int) (cnd (cnd (decide (e3_0_27 p s > p.x1)) true (decide (e3_0_29 p s > e3_0_30 p s))) (40 : Int) (0 : Int))))
noncomputable def e3_0_32 (p : P3_0) (s : S3_0) : (Int) := cnd (e3_0_20 p s) (0 : Int) (cnd (e3_0_21 p s) (0 : Int) (cnd (e3_0_23 p s) (0 : Int) (e3_0_24 p s)))
noncomputable def e3_0_33 (p : P3_0) (s : S3_0) : (Int) := cnd (e3_0_20 p s) s.x0 (cnd (e3_0_21 p s) s.x0 (cnd (e3_0_23 p s) s.x0 (e3_0_27 p s)))
noncomputable def e3_0_34 (p : P3_0) (s : S3_0) : (P3_1) := P3_1.mk p.x1 p.n2 p.b6 p.n7 p.x8 p.x9 (e3_0_32 p s) (e3_0_33 p s) p.n39 p.x40 s.x41 (e3_0_22 p s) p.N0 p.O0 p.F0_0 p.F0_1 p.F0_2 p.N1 p.F1_0 (e3_0_17 p s) (e3_0_18 p s) (e3_0_22 p s)
noncomputable def e3_0_35 (p : P3_0) (s : S3_0) : (S3_1) := lastS (r3_1 (e3_0_34 p s)) (S3_1.mk s.x10 (0 : Int))
noncomputable def e3_0_0 (p : P3_0) (s : S3_0) : (Bool) := cnd (decide (s.x41 < p.x40)) false true
noncomputable def e3_0_1 (p : P3_0) (s : S3_0) : (Prop) := (∀ (i : Nat), scpL (0:Nat) ((fun (j : Nat) => [SV.int IntKind.i64 (p.F0_0 j), SV.int IntKind.i64 (p.F0_1 j), SV.int IntKind.i64 (p.F0_2 j)]) i) = true) ∧ ∀ (i : Nat), scpL (0:Nat) ((fun (j : Nat) => [SV.int IntKind.u64 (p.F1_0 j)]) i) = true
noncomputable def e3_0_2 (p : P3_0) (s : S3_0) : (Prop) := (0 : Int) ≤ s.x41 ∧ s.x41 < (↑p.n39 : Int)
noncomputable def e3_0_3 (p : P3_0) (s : S3_0) : (Prop) := e3_0_16 p s < p.N0
noncomputable def e3_0_4 (p : P3_0) (s : S3_0) : (Prop) := e3_0_20 p s = false → e3_0_21 p s = false → e3_0_23 p s = false → e3_0_19 p s ≤ (4611686018427387904 : Int)
noncomputable def e3_0_5 (p : P3_0) (s : S3_0) : (Prop) := e3_0_20 p s = false → e3_0_21 p s = false → e3_0_23 p s = false → e3_0_24 p s ≠ (0 : Int)
noncomputable def e3_0_6 (p : P3_0) (s : S3_0) : (Prop) := e3_0_20 p s = false → e3_0_21 p s = false → e3_0_23 p s = false → e3_0_26 p s = true → e3_0_24 p s ≠ (0 : Int)
noncomputable def e3_0_7 (p : P3_0) (s : S3_0) : (Bool) := e3_0_31 p s != (0 : Int)
noncomputable def e3_0_8 (p : P3_0) (s : S3_0) : (Bool) := cnd (cnd (p.x9 == e3_0_31 p s) (p.x8 == s.x41) false) ((↑p.n7 : Int) == s.x10) false
noncomputable def e3_0_9 (p : P3_0) (s : S3_0) : (Prop) := (∀ (i : Nat), i < p.N0 → (fun (j : Nat) => [SV.int IntKind.i64 (p.F0_0 j), SV.int IntKind.i64 (p.F0_1 j), SV.int IntKind.i64 (p.F0_2 j)]) i = elC (fun (j : Nat) => [SV.int IntKind.i64 (p.F0_0 j), SV.int IntKind.i64 (p.F0_1 j), SV.int IntKind.i64 (p.F0_2 j)]) (0:Nat) [Ck.int IntKind.i64, Ck.int IntKind.i64, Ck.int IntKind.i64] i) ∧ ∀ (i : Nat), i < p.N1 → (fun (j : Nat) => [SV.int IntKind.u64 (p.F1_0 j)]) i = elC (fun (j : Nat) => [SV.int IntKind.u64 (p.F1_0 j)]) (0:Nat) [Ck.int IntKind.u64] i
noncomputable def e3_0_10 (p : P3_0) (s : S3_0) : (Prop) := LT (r3_1 (e3_0_34 p s)) (S3_1.mk s.x10 (0 : Int))
noncomputable def e3_0_11 (p : P3_0) (s : S3_0) : (Bool) := cnd (e3_1_0 (e3_0_34 p s) (e3_0_35 p s)) false true
noncomputable def e3_0_12 (p : P3_0) (s : S3_0) : (Int) := (e3_0_35 p s).x10
noncomputable def e3_0_13 (p : P3_0) (s : S3_0) : (Prop) := ((∀ (i : Nat), scpL (0:Nat) ((fun (j : Nat) => [SV.int IntKind.i64 (p.F0_0 j), SV.int IntKind.i64 (p.F0_1 j), SV.int IntKind.i64 (p.F0_2 j)]) i) = true) ∧ ∀ (i : Nat), scpL (0:Nat) ((fun (j : Nat) => [SV.int IntKind.u64 (p.F1_0 j)]) i) = true) ∧ (∀ (i : Nat), i < p.N0 → (fun (j : Nat) => [SV.int IntKind.i64 (p.F0_0 j), SV.int IntKind.i64 (p.F0_1 j), SV.int IntKind.i64 (p.F0_2 j)]) i = elC (fun (j : Nat) => [SV.int IntKind.i64 (p.F0_0 j), SV.int IntKind.i64 (p.F0_1 j), SV.int IntKind.i64 (p.F0_2 j)]) (0:Nat) [Ck.int IntKind.i64, Ck.int IntKind.i64, Ck.int IntKind.i64] i) ∧ ∀ (i : Nat), i < p.N1 → (fun (j : Nat) => [SV.int IntKind.u64 (p.F1_0 j)]) i = elC (fun (j : Nat) => [SV.int IntKind.u64 (p.F1_0 j)]) (0:Nat) [Ck.int IntKind.u64] i
noncomputable def e3_0_14 (p : P3_0) (s : S3_0) : (Int) := IntKind.u64.wrap (e3_0_33 p s + IntKind.u64.wrap (e3_0_32 p s * e3_0_28 p s))
noncomputable def e3_0_15 (p : P3_0) (s : S3_0) : (Int) := IntKind.i64.wrap (s.x41 + (1 : Int))
theorem n_e3_0_1 (p : P3_0) (s : S3_0) : e3_0_1 p s := by
  unfold e3_0_1
  first
    | (intros; rfl)
    | (intro i; rfl)
    | (intro i _; rfl)
    | (intro _ i; rfl)
    | (intro _ i _; rfl)
    | (refine ⟨?_, ?_⟩ <;> intro i <;> rfl)
    | (refine ⟨?_, ?_, ?_⟩ <;> intro i <;> rfl)
    | (refine ⟨?_, ?_⟩ <;> intro i _ <;> rfl)
    | (repeat' apply And.intro) <;> first | (intro i; rfl) | (intro i _; rfl) | (intro i h; exact absurd h (Nat.not_lt_zero i)) | (intro i; exact scpL_rowSet (by rfl) (by rfl)) | (intro i; exact scpL_rowEl (by kernel_rfl) _)
    | (intros; (repeat' apply And.intro) <;> intros <;> first | rfl | (exact absurd (by assumption) (Nat.not_lt_zero _)))
    | omega
    | decide
theorem n_e3_0_9 (p : P3_0) (s : S3_0) : e3_0_9 p s := by
  unfold e3_0_9
  first
    | (intros; rfl)
    | (intro i; rfl)
    | (intro i _; rfl)
    | (intro _ i; rfl)
    | (intro _ i _; rfl)
    | (refine ⟨?_, ?_⟩ <;> intro i <;> rfl)
    | (refine ⟨?_, ?_, ?_⟩ <;> intro i <;> rfl)
    | (refine ⟨?_, ?_⟩ <;> intro i _ <;> rfl)
    | (repeat' apply And.intro) <;> first | (intro i; rfl) | (intro i _; rfl) | (intro i h; exact absurd h (Nat.not_lt_zero i)) | (intro i; exact scpL_rowSet (by rfl) (by rfl)) | (intro i; exact scpL_rowEl (by kernel_rfl) _)
    | (intros; (repeat' apply And.intro) <;> intros <;> first | rfl | (exact absurd (by assumption) (Nat.not_lt_zero _)))
    | omega
    | decide
theorem n_e3_0_13 (p : P3_0) (s : S3_0) : e3_0_13 p s := by
  unfold e3_0_13
  first
    | (intros; rfl)
    | (intro i; rfl)
    | (intro i _; rfl)
    | (intro _ i; rfl)
    | (intro _ i _; rfl)
    | (refine ⟨?_, ?_⟩ <;> intro i <;> rfl)
    | (refine ⟨?_, ?_, ?_⟩ <;> intro i <;> rfl)
    | (refine ⟨?_, ?_⟩ <;> intro i _ <;> rfl)
    | (repeat' apply And.intro) <;> first | (intro i; rfl) | (intro i _; rfl) | (intro i h; exact absurd h (Nat.not_lt_zero i)) | (intro i; exact scpL_rowSet (by rfl) (by rfl)) | (intro i; exact scpL_rowEl (by kernel_rfl) _)
    | (intros; (repeat' apply And.intro) <;> intros <;> first | rfl | (exact absurd (by assumption) (Nat.not_lt_zero _)))
    | omega
    | decide
noncomputable def rf3_0 (p : P3_0) (s : S3_0) : Tr (Rs th.R S3_0) := (Tr.ite (e3_0_0 p s) (Tr.need (e3_0_1 p s) (Tr.leaf (Rs.out (Ex.exit (0:Nat)) [none, none, (some (SV.slc (0:Nat) (3 : Nat) (0:Nat) (p.n2))), none, none, none, some (SV.bool (p.b6)), (some (SV.slc (1 : Nat) (1 : Nat) (0:Nat) (p.n7))), some (SV.int .i64 (p.x8)), some (SV.int .i64 (p.x9)), some (SV.int .i64 (s.x10)), none, none, none, none, none, none, none, none, none, none, none, none, none, none, none, none, none, none, none, none, none, none, none, none, none, none, none, none, none, none, none, none, none, none, none, none, none, none, none, none, none, none, none, none, none, none, none, none, none, none, none, none, none, none, none, none, none, none, none, none, none, none, none, none, none, none, none, none, none, none, none, none, none, none, none, none, none, none, none, none, none, none, none, none, none, none, none, none, none, none, none, none, none, none, none, none, none, none, none, none, none, none, none, none, none, none, none, none, none, none, none, none, none, none, none, none, none, none, none, none, none, none, none, none, none, none, none, none, none, none, none, none, none, none, none, none, none, none, none, none, none, none, none, none, none, none] [(HO.ro (30 : Nat) (3 : Nat) (p.N0) (fun j => [SV.int .i64 (p.F0_0 j), SV.int .i64 (p.F0_1 j), SV.int .i64 (p.F0_2 j)]) (p.O0)), (HO.row (22 : Nat) (1 : Nat) (p.N1) (fun j => [SV.int .u64 (p.F1_0 j)]))]))) (Tr.need (e3_0_2 p s) (Tr.need (e3_0_3 p s) (Tr.need (e3_0_4 p s) (Tr.need (e3_0_5 p s) (Tr.need (e3_0_6 p s) (Tr.ite (e3_0_7 p s) (Tr.need (e3_0_1 p s) (Tr.leaf (Rs.out (Ex.ret) [none, none, (some (SV.slc (0:Nat) (3 : Nat) (0:Nat) (p.n2))), none, none, none, some (SV.bool (e3_0_8 p s)), (some (SV.slc (1 : Nat) (1 : Nat) (0:Nat) (p.n7))), some (SV.int .i64 (p.x8)), some (SV.int .i64 (p.x9)), some (SV.int .i64 (s.x10)), none, none, none, none, none, none, none, none, none, none, none, none, none, none, none, none, none, none, none, none, none, none, none, none, none, none, none, none, none, none, none, none, none, none, none, none, none, none, none, none, none, none, none, none, none, none, none, none, none, none, none, none, none, none, none, none, none, none, none, none, none, none, none, none, none, none, none, none, none, none, none, none, none, none, none, none, none, none, none, none, none, none, none, none, none, none, none, none, none, none, none, none, none, none, none, none, none, none, none, none, none, none, none, none, none, none, none, none, none, none, none, none, none, none, none, none, none, none, none, none, none, none, none, none, none, none, none, none, none, none, none, none, none, none, none, none, none, none, none, none, none, none, none, none, none, none] [(HO.ro (30 : Nat) (3 : Nat) (p.N0) (fun j => [SV.int .i64 (p.F0_0 j), SV.int .i64 (p.F0_1 j), SV.int .i64 (p.F0_2 j)]) (p.O0)), (HO.row (22 : Nat) (1 : Nat) (p.N1) (fun j => [SV.int .u64 (p.F1_0 j)]))]))) (Tr.need (e3_0_9 p s) (Tr.need (e3_0_10 p s) (Tr.ite (e3_0_11 p s) (Tr.need (e3_0_1 p s) (Tr.leaf (Rs.out (Ex.ret) [none, none, (some (SV.slc (0:Nat) (3 : Nat) (0:Nat) (p.n2))), none, none, none, some (SV.bool (false)), (some (SV.slc (1 : Nat) (1 : Nat) (0:Nat) (p.n7))), some (SV.int .i64 (p.x8)), some (SV.int .i64 (p.x9)), some (SV.int .i64 (e3_0_12 p s)), none, none, none, none, none, none, none, none, none, none, none, none, none, none, none, none, none, none, none, none, none, none, none, none, none, none, none, none, none, none, none, none, none, none, none, none, none, none, none, none, none, none, none, none, none, none, none, none, none, none, none, none, none, none, none, none, none, none, none, none, none, none, none, none, none, none, none, none, none, none, none, none, none, none, none, none, none, none, none, none, none, none, none, none, none, none, none, none, none, none, none, none, none, none, none, none, none, none, none, none, none, none, none, none, none, none, none, none, none, none, none, none, none, none, none, none, none, none, none, none, none, none, none, none, none, none, none, none, none, none, none, none, none, none, none, none, none, none, none, none, none, none, none, none, none, none] [(HO.ro (30 : Nat) (3 : Nat) (p.N0) (fun j => [SV.int .i64 (p.F0_0 j), SV.int .i64 (p.F0_1 j), SV.int .i64 (p.F0_2 j)]) (p.O0)), (HO.row (22 : Nat) (1 : Nat) (p.N1) (fun j => [SV.int .u64 (p.F1_0 j)]))]))) (Tr.need (e3_0_13 p s) (Tr.leaf (Rs.on (S3_0.mk ((e3_0_14 p s)) ((e3_0_12 p s)) ((e3_0_15 p s))))))))))))))))
noncomputable def r3_0 (p : P3_0) (s : S3_0) : Tr (Rs th.R S3_0) := (Tr.ite (e3_0_0 p s) (Tr.leaf (Rs.out (Ex.exit (0:Nat)) [none, none, (some (SV.slc (0:Nat) (3 : Nat) (0:Nat) (p.n2))), none, none, none, some (SV.bool (p.b6)), (some (SV.slc (1 : Nat) (1 : Nat) (0:Nat) (p.n7))), some (SV.int .i64 (p.x8)), some (SV.int .i64 (p.x9)), some (SV.int .i64 (s.x10)), none, none, none, none, none, none, none, none, none, none, none, none, none, none, none, none, none, none, none, none, none, none, none, none, none, none, none, none, none, none, none, none, none, none, none, none, none, none, none, none, none, none, none, none, none, none, none, none, none, none, none, none, none, none, none, none, none, none, none, none, none, none, none, none, none, none, none, none, none, none, none, none, none, none, none, none, none, none, none, none, none, none, none, none, none, none, none, none, none, none, none, none, none, none, none, none, none, none, none, none, none, none, none, none, none, none, none, none, none, none, none, none, none, none, none, none, none, none, none, none, none, none, none, none, none, none, none, none, none, none, none, none, none, none, none, none, none, none, none, none, none, none, none, none, none, none] [(HO.ro (30 : Nat) (3 : Nat) (p.N0) (fun j => [SV.int .i64 (p.F0_0 j), SV.int .i64 (p.F0_1 j), SV.int .i64 (p.F0_2 j)]) (p.O0)), (HO.row (22 : Nat) (1 : Nat) (p.N1) (fun j => [SV.int .u64 (p.F1_0 j)]))])) (Tr.need (e3_0_2 p s) (Tr.need (e3_0_3 p s) (Tr.need (e3_0_4 p s) (Tr.need (e3_0_5 p s) (Tr.need (e3_0_6 p s) (Tr.ite (e3_0_7 p s) (Tr.leaf (Rs.out (Ex.ret) [none, none, (some (SV.slc (0:Nat) (3 : Nat) (0:Nat) (p.n2))), none, none, none, some (SV.bool (e3_0_8 p s)), (some (SV.slc (1 : Nat) (1 : Nat) (0:Nat) (p.n7))), some (SV.int .i64 (p.x8)), some (SV.int .i64 (p.x9)), some (SV.int .i64 (s.x10)), none, none, none, none, none, none, none, none, none, none, none, none, none, none, none, none, none, none, none, none, none, none, none, none, none, none, none, none, none, none, none, none, none, none, none, none, none, none, none, none, none, none, none, none, none, none, none, none, none, none, none, none, none, none, none, none, none, none, none, none, none, none, none, none, none, none, none, none, none, none, none, none, none, none, none, none, none, none, none, none, none, none, none, none, none, none, none, none, none, none, none, none, none, none, none, none, none, none, none, none, none, none, none, none, none, none, none, none, none, none, none, none, none, none, none, none, none, none, none, none, none, none, none, none, none, none, none, none, none, none, none, none, none, none, none, none, none, none, none, none, none, none, none, none, none, none] [(HO.ro (30 : Nat) (3 : Nat) (p.N0) (fun j => [SV.int .i64 (p.F0_0 j), SV.int .i64 (p.F0_1 j), SV.int .i64 (p.F0_2 j)]) (p.O0)), (HO.row (22 : Nat) (1 : Nat) (p.N1) (fun j => [SV.int .u64 (p.F1_0 j)]))])) (Tr.need (e3_0_10 p s) (Tr.ite (e3_0_11 p s) (Tr.leaf (Rs.out (Ex.ret) [none, none, (some (SV.slc (0:Nat) (3 : Nat) (0:Nat) (p.n2))), none, none, none, some (SV.bool (false)), (some (SV.slc (1 : Nat) (1 : Nat) (0:Nat) (p.n7))), some (SV.int .i64 (p.x8)), some (SV.int .i64 (p.x9)), some (SV.int .i64 (e3_0_12 p s)), none, none, none, none, none, none, none, none, none, none, none, none, none, none, none, none, none, none, none, none, none, none, none, none, none, none, none, none, none, none, none, none, none, none, none, none, none, none, none, none, none, none, none, none, none, none, none, none, none, none, none, none, none, none, none, none, none, none, none, none, none, none, none, none, none, none, none, none, none, none, none, none, none, none, none, none, none, none, none, none, none, none, none, none, none, none, none, none, none, none, none, none, none, none, none, none, none, none, none, none, none, none, none, none, none, none, none, none, none, none, none, none, none, none, none, none, none, none, none, none, none, none, none, none, none, none, none, none, none, none, none, none, none, none, none, none, none, none, none, none, none, none, none, none, none, none] [(HO.ro (30 : Nat) (3 : Nat) (p.N0) (fun j => [SV.int .i64 (p.F0_0 j), SV.int .i64 (p.F0_1 j), SV.int .i64 (p.F0_2 j)]) (p.O0)), (HO.row (22 : Nat) (1 : Nat) (p.N1) (fun j => [SV.int .u64 (p.F1_0 j)]))])) (Tr.leaf (Rs.on (S3_0.mk ((e3_0_14 p s)) ((e3_0_12 p s)) ((e3_0_15 p s))))))))))))))
noncomputable def E3_0 : St th.R → Out th := evCode th Try.prog (auto th Try.prog nice23n [] 20) (autoH [(27, L3_1)] [] [] [] : Hints th) (lpAt Try.prog 3 0)
theorem ok3_0 : LoopsOk th Try.prog (autoH [(27, L3_1)] [] [] [] : Hints th) (lpAt Try.prog 3 0) := autoH_ok (bs := [lpAt Try.prog 3 1]) (by kernel_rfl) fun b hb L hL => by
  simp only [List.mem_cons, List.not_mem_nil, or_false] at hb
  rcases hb with rfl
  · have e : lookL [(27, L3_1)] (firstReg (lpAt Try.prog 3 1)) = some L3_1 := by kernel_rfl
    rw [e] at hL; cases hL
    exact ls3_1
theorem B3_0 : CodeSound th Try.prog (lpAt Try.prog 3 0) E3_0 := evCode_sound (T := th) (P := Try.prog) (tbl := (auto th Try.prog nice23n [] 20)) (auto_sound (nice := nice23n) (us := []) nok23n 20) (autoH [(27, L3_1)] [] [] [] : Hints th) _ ok3_0
noncomputable def L3_0 : St th.R → Out th := loopL d3_0 ofV3_0 r3_0
theorem h1_3_0 (p : P3_0) (s : S3_0) : bld d3_0.tm (toV3_0 p s) = some (I3_0 p s) := by kernel_rfl
theorem h2_3_0 (l : List (Vl th.R)) (p : P3_0) (s : S3_0) (h : ofV3_0 l = some (p, s)) : l = toV3_0 p s := by
  unfold ofV3_0 at h
  split at h
  · cases h; rfl
  · cases h
theorem h3_3_0 (p : P3_0) (s : S3_0) : cvE d3_0 (E3_0 (I3_0 p s)) = some ((rf3_0 p s).map (Rs.map (toV3_0 p))) := by kernel_rfl
theorem h3g_3_0 (p : P3_0) (s : S3_0) : (rf3_0 p s).get = (r3_0 p s).get := by kernel_rfl
theorem h4_3_0 (p : P3_0) (s s1 : S3_0) : outH d3_0.dirt d3_0.n0 (r3_0 p s) = repH (maskH d3_0.dirt 0 d3_0.n0 (I3_0 p s1).heap) (r3_0 p s) := by kernel_rfl
theorem ls3_0 : CodeSound th Try.prog (.loop (lpAt Try.prog 3 0)) L3_0 := loopL_sound B3_0 d3_0 I3_0 toV3_0 (by kernel_rfl) h1_3_0 h2_3_0
  (fun p s => ⟨(rf3_0 p s).map (Rs.map (toV3_0 p)), h3_3_0 p s, fun h => by
    rw [Tr.map_ok]
    unfold r3_0 at h; unfold rf3_0
    simp only [Tr.ok, n_e3_0_1, n_e3_0_9, n_e3_0_13, true_and, and_true, forall_const, implies_true] at h ⊢
    try exact h, by rw [Tr.map_get, h3g_3_0 p s]⟩) h4_3_0
theorem ok3 : LoopsOk th Try.prog (autoH [(8, L3_0)] [] [] [] : Hints th) (bodyOf Try.prog 3) := autoH_ok (bs := [lpAt Try.prog 3 0, lpAt Try.prog 3 1]) (by kernel_rfl) fun b hb L hL => by
  simp only [List.mem_cons, List.not_mem_nil, or_false] at hb
  rcases hb with rfl | rfl
  · have e : lookL [(8, L3_0)] (firstReg (lpAt Try.prog 3 0)) = some L3_0 := by kernel_rfl
    rw [e] at hL; cases hL
    exact ls3_0
  · have e : lookL [(8, L3_0)] (firstReg (lpAt Try.prog 3 1)) = (none : Option (St th.R → Out th)) := by kernel_rfl
    rw [e] at hL; cases hL
noncomputable def f3_8 (v : V3) : (Bool) := cnd (cnd (decide ((↑v.L : Int) > (20 : Int))) true (decide (v.at_ > (1099511627776 : Int)))) true (decide (v.to_ > (1099511627776 : Int)))
noncomputable def f3_9 (v : V3) : (Nat) := (plc v.to_ v.k v.b v.n v.L (0:Nat) v.at_).fst.length
noncomputable def f3_10 (v : V3) : (Int) := (↑(plc v.to_ v.k v.b v.n v.L (0:Nat) v.at_).snd.fst : Int)
noncomputable def f3_11 (v : V3) : (Int) := (plc v.to_ v.k v.b v.n v.L (0:Nat) v.at_).snd.snd
noncomputable def f3_12 (v : V3) : (P3_0) := P3_0.mk v.to_ v.L false (f3_9 v) (f3_10 v) (f3_11 v) v.L (↑v.L : Int) v.Q v.ob v.k v.b v.n (f3_9 v) fun (j : Nat) => (plc v.to_ v.k v.b v.n v.L (0:Nat) v.at_).fst.getD j (0 : Int)
noncomputable def f3_13 (v : V3) : (S3_0) := S3_0.mk v.at_ (0 : Int) (0 : Int)
noncomputable def f3_14 (v : V3) : (S3_0) := lastS (r3_0 (f3_12 v)) (f3_13 v)
noncomputable def f3_0 (v : V3) : (Prop) := pre23 V23.mk
noncomputable def f3_1 (v : V3) : (Prop) := false = false → f3_8 v = false → ∀ (i : Nat), scpL (0:Nat) ((fun (j : Nat) => [SV.int IntKind.i64 (v.k j), SV.int IntKind.i64 (v.b j), SV.int IntKind.i64 (v.n j)]) i) = true
noncomputable def f3_2 (v : V3) : (Prop) := false = false → f3_8 v = false → ∀ (i : Nat), i < v.Q → (fun (j : Nat) => [SV.int IntKind.i64 (v.k j), SV.int IntKind.i64 (v.b j), SV.int IntKind.i64 (v.n j)]) i = elC (fun (j : Nat) => [SV.int IntKind.i64 (v.k j), SV.int IntKind.i64 (v.b j), SV.int IntKind.i64 (v.n j)]) (0:Nat) [Ck.int IntKind.i64, Ck.int IntKind.i64, Ck.int IntKind.i64] i
noncomputable def f3_3 (v : V3) : (Prop) := false = false → f3_8 v = false → pre24 (V24.mk v.at_ v.to_ v.L v.Q v.ob v.k v.b v.n)
noncomputable def f3_4 (v : V3) : (Prop) := false = false → f3_8 v = false → (∀ (i : Nat), scpL (0:Nat) ((fun (j : Nat) => [SV.int IntKind.i64 (v.k j), SV.int IntKind.i64 (v.b j), SV.int IntKind.i64 (v.n j)]) i) = true) ∧ ∀ (i : Nat), scpL (0:Nat) ((fun (j : Nat) => [SV.int IntKind.u64 ((plc v.to_ v.k v.b v.n v.L (0:Nat) v.at_).fst.getD j (0 : Int))]) i) = true
noncomputable def f3_5 (v : V3) : (Prop) := false = false → f3_8 v = false → (∀ (i : Nat), i < v.Q → (fun (j : Nat) => [SV.int IntKind.i64 (v.k j), SV.int IntKind.i64 (v.b j), SV.int IntKind.i64 (v.n j)]) i = elC (fun (j : Nat) => [SV.int IntKind.i64 (v.k j), SV.int IntKind.i64 (v.b j), SV.int IntKind.i64 (v.n j)]) (0:Nat) [Ck.int IntKind.i64, Ck.int IntKind.i64, Ck.int IntKind.i64] i) ∧ ∀ (i : Nat), i < f3_9 v → (fun (j : Nat) => [SV.int IntKind.u64 ((plc v.to_ v.k v.b v.n v.L (0:Nat) v.at_).fst.getD j (0 : Int))]) i = elC (fun (j : Nat) => [SV.int IntKind.u64 ((plc v.to_ v.k v.b v.n v.L (0:Nat) v.at_).fst.getD j (0 : Int))]) (0:Nat) [Ck.int IntKind.u64] i
noncomputable def f3_6 (v : V3) : (Prop) := false = false → f3_8 v = false → LT (r3_0 (f3_12 v)) (f3_13 v)
noncomputable def f3_7 (v : V3) : (Bool) := cnd (f3_8 v) true (cnd (cnd (e3_0_0 (f3_12 v) (f3_14 v)) false (e3_0_7 (f3_12 v) (f3_14 v))) (e3_0_8 (f3_12 v) (f3_14 v)) (cnd (cnd (e3_0_0 (f3_12 v) (f3_14 v)) false true) false (cnd (cnd (f3_11 v == (0 : Int)) (f3_10 v == (↑v.L : Int)) false) ((↑(f3_9 v) : Int) == (f3_14 v).x10) false)))
theorem n_f3_1 (v : V3) : f3_1 v := by
  unfold f3_1
  first
    | (intros; rfl)
    | (intro i; rfl)
    | (intro i _; rfl)
    | (intro _ i; rfl)
    | (intro _ i _; rfl)
    | (refine ⟨?_, ?_⟩ <;> intro i <;> rfl)
    | (refine ⟨?_, ?_, ?_⟩ <;> intro i <;> rfl)
    | (refine ⟨?_, ?_⟩ <;> intro i _ <;> rfl)
    | (repeat' apply And.intro) <;> first | (intro i; rfl) | (intro i _; rfl) | (intro i h; exact absurd h (Nat.not_lt_zero i)) | (intro i; exact scpL_rowSet (by rfl) (by rfl)) | (intro i; exact scpL_rowEl (by kernel_rfl) _)
    | (intros; (repeat' apply And.intro) <;> intros <;> first | rfl | (exact absurd (by assumption) (Nat.not_lt_zero _)))
    | omega
    | decide
theorem n_f3_2 (v : V3) : f3_2 v := by
  unfold f3_2
  first
    | (intros; rfl)
    | (intro i; rfl)
    | (intro i _; rfl)
    | (intro _ i; rfl)
    | (intro _ i _; rfl)
    | (refine ⟨?_, ?_⟩ <;> intro i <;> rfl)
    | (refine ⟨?_, ?_, ?_⟩ <;> intro i <;> rfl)
    | (refine ⟨?_, ?_⟩ <;> intro i _ <;> rfl)
    | (repeat' apply And.intro) <;> first | (intro i; rfl) | (intro i _; rfl) | (intro i h; exact absurd h (Nat.not_lt_zero i)) | (intro i; exact scpL_rowSet (by rfl) (by rfl)) | (intro i; exact scpL_rowEl (by kernel_rfl) _)
    | (intros; (repeat' apply And.intro) <;> intros <;> first | rfl | (exact absurd (by assumption) (Nat.not_lt_zero _)))
    | omega
    | decide
theorem n_f3_4 (v : V3) : f3_4 v := by
  unfold f3_4
  first
    | (intros; rfl)
    | (intro i; rfl)
    | (intro i _; rfl)
    | (intro _ i; rfl)
    | (intro _ i _; rfl)
    | (refine ⟨?_, ?_⟩ <;> intro i <;> rfl)
    | (refine ⟨?_, ?_, ?_⟩ <;> intro i <;> rfl)
    | (refine ⟨?_, ?_⟩ <;> intro i _ <;> rfl)
    | (repeat' apply And.intro) <;> first | (intro i; rfl) | (intro i _; rfl) | (intro i h; exact absurd h (Nat.not_lt_zero i)) | (intro i; exact scpL_rowSet (by rfl) (by rfl)) | (intro i; exact scpL_rowEl (by kernel_rfl) _)
    | (intros; (repeat' apply And.intro) <;> intros <;> first | rfl | (exact absurd (by assumption) (Nat.not_lt_zero _)))
    | omega
    | decide
theorem n_f3_5 (v : V3) : f3_5 v := by
  unfold f3_5
  first
    | (intros; rfl)
    | (intro i; rfl)
    | (intro i _; rfl)
    | (intro _ i; rfl)
    | (intro _ i _; rfl)
    | (refine ⟨?_, ?_⟩ <;> intro i <;> rfl)
    | (refine ⟨?_, ?_, ?_⟩ <;> intro i <;> rfl)
    | (refine ⟨?_, ?_⟩ <;> intro i _ <;> rfl)
    | (repeat' apply And.intro) <;> first | (intro i; rfl) | (intro i _; rfl) | (intro i h; exact absurd h (Nat.not_lt_zero i)) | (intro i; exact scpL_rowSet (by rfl) (by rfl)) | (intro i; exact scpL_rowEl (by kernel_rfl) _)
    | (intros; (repeat' apply And.intro) <;> intros <;> first | rfl | (exact absurd (by assumption) (Nat.not_lt_zero _)))
    | omega
    | decide
noncomputable def ff3 (v : V3) : Tr (Fin th.R) := (Tr.need (f3_0 v) (Tr.need (f3_1 v) (Tr.need (f3_2 v) (Tr.need (f3_3 v) (Tr.need (f3_4 v) (Tr.need (f3_5 v) (Tr.need (f3_6 v) (Tr.leaf (SV.bool (f3_7 v), [(HO.ro (30 : Nat) (3 : Nat) (v.Q) (fun j => [SV.int .i64 (v.k j), SV.int .i64 (v.b j), SV.int .i64 (v.n j)]) (v.ob))], List.nil)))))))))
noncomputable def f3 (v : V3) : Tr (Fin th.R) := (Tr.need (f3_0 v) (Tr.need (f3_3 v) (Tr.need (f3_6 v) (Tr.leaf (SV.bool (f3_7 v), [(HO.ro (30 : Nat) (3 : Nat) (v.Q) (fun j => [SV.int .i64 (v.k j), SV.int .i64 (v.b j), SV.int .i64 (v.n j)]) (v.ob))], [])))))
noncomputable def C3 : CF th.R := fnC d3 ofV3 (f3 )
theorem q3 (v : V3) : (evFn th Try.prog (auto th Try.prog nice23n [] 20) (autoH [(8, L3_0)] [] [] [] : Hints th) 3) (A3 v) (H3 v) = some (ff3 v) := by kernel_rfl
theorem qg3 (v : V3) : ((ff3 v).map (setD [])).get = (f3 v).get := by kernel_rfl
theorem qd3 (v : V3) : allD 1 [] (ff3 v) = true := by kernel_rfl
theorem s3 : Sound Try.prog th 3 (C3 ) := fnC_sound (evFn_sound' (T := th) (P := Try.prog) (tbl := (auto th Try.prog nice23n [] 20)) (auto_sound (nice := nice23n) (us := []) nok23n 20) (H := (autoH [(8, L3_0)] [] [] [] : Hints th)) (k := 3) (fnLoops ok3)) d3 A3 H3 toV3 (by kernel_rfl) (fun v => by kernel_rfl)
  (fun l v h => by
    unfold ofV3 at h
    split at h
    · cases h; rfl
    · cases h)
  [] (fun v => ⟨ff3 v, q3 v, fun h => by
    unfold f3 at h; unfold ff3
    simp only [Tr.ok, n_f3_1, n_f3_2, n_f3_4, n_f3_5, true_and, and_true, forall_const, implies_true] at h ⊢
    try exact h, qg3 v, qd3 v⟩)
theorem qdd3 (v : V3) : (f3 v).get.2.2 = [] := by
  rw [← qg3, Tr.map_get]; rfl
end Go.Sx.M

namespace Go.Sx.M
open Go Go.Sx
/-- What four words say, unasked. -/
def rawS (w0 w1 w2 w3 : Int) : Sl := ⟨IntKind.i64.wrap (f102_1 0 4 w0), IntKind.u64.wrap (f102_1 35 27 w0 * 32), IntKind.i64.wrap (f102_1 4 6 w0), IntKind.i64.wrap (f102_1 10 3 w0), IntKind.i64.wrap (f102_1 13 6 w0), IntKind.i64.wrap (f102_1 19 16 w0), w1,
  IntKind.u64.wrap (f102_1 0 27 w2 * 32), IntKind.u64.wrap (f102_1 32 27 w2 * 32), cnd (decide (w3 ≤ 4096)) (IntKind.i64.wrap w3) 0⟩
/-- They are a slot's. -/
def okW (w0 w1 w2 w3 : Int) : Prop := rightS (rawS w0 w1 w2 w3) = true ∧ wd0 (rawS w0 w1 w2 w3) = w0 ∧ wd1 (rawS w0 w1 w2 w3) = w1 ∧ wd2 (rawS w0 w1 w2 w3) = w2 ∧ wd3 (rawS w0 w1 w2 w3) = w3
theorem rightS_rgt {z : Sl} (h : rightS z = true) : rgt z = true := by
  unfold rightS f34_0 at h
  unfold rgt
  cases hh : f45_1 z.k z.a z.b z.r z.g z.s z.m with
  | true => rfl
  | false => rw [hh] at h; simp [cnd] at h
theorem read_ok {w0 w1 w2 w3 : Int} (hr : rgt (rawS w0 w1 w2 w3) = true) (h0 : wd0 (rawS w0 w1 w2 w3) = w0) : f100_10 w0 w1 = 0 ∧ f100_3 w0 w1 = (rawS w0 w1 w2 w3).k ∧ f100_4 w0 w1 = (rawS w0 w1 w2 w3).a ∧ f100_5 w0 w1 = (rawS w0 w1 w2 w3).b ∧
    f100_6 w0 w1 = (rawS w0 w1 w2 w3).r ∧ f100_7 w0 w1 = (rawS w0 w1 w2 w3).g ∧ f100_8 w0 w1 = (rawS w0 w1 w2 w3).s ∧ f100_9 w0 w1 = (rawS w0 w1 w2 w3).m := by
  have hr : f45_1 (IntKind.i64.wrap (f102_1 0 4 w0)) (IntKind.u64.wrap (f102_1 35 27 w0 * 32)) (IntKind.i64.wrap (f102_1 4 6 w0)) (IntKind.i64.wrap (f102_1 10 3 w0)) (IntKind.i64.wrap (f102_1 13 6 w0)) (IntKind.i64.wrap (f102_1 19 16 w0)) w1 = true := hr
  have h0 : f164_14 (IntKind.i64.wrap (f102_1 0 4 w0)) (IntKind.u64.wrap (f102_1 35 27 w0 * 32)) (IntKind.i64.wrap (f102_1 4 6 w0)) (IntKind.i64.wrap (f102_1 10 3 w0)) (IntKind.i64.wrap (f102_1 13 6 w0)) (IntKind.i64.wrap (f102_1 19 16 w0)) w1 = w0 := h0
  have h2 := (words_at hr).2
  simp only [f100_3, f100_4, f100_5, f100_6, f100_7, f100_8, f100_9, f100_10, h2, h0]
  simp [cnd, rawS]
theorem read_bad {w0 w1 w2 w3 : Int} (h : ¬ (rgt (rawS w0 w1 w2 w3) = true ∧ wd0 (rawS w0 w1 w2 w3) = w0)) : f100_10 w0 w1 = 10 := by
  simp only [f100_10]
  cases hr : f45_1 (IntKind.i64.wrap (f102_1 0 4 w0)) (IntKind.u64.wrap (f102_1 35 27 w0 * 32)) (IntKind.i64.wrap (f102_1 4 6 w0)) (IntKind.i64.wrap (f102_1 10 3 w0)) (IntKind.i64.wrap (f102_1 13 6 w0)) (IntKind.i64.wrap (f102_1 19 16 w0)) w1 with
  | false => rw [(words_no hr).2.2]; rfl
  | true =>
    rw [(words_at hr).2]
    have : f164_14 (IntKind.i64.wrap (f102_1 0 4 w0)) (IntKind.u64.wrap (f102_1 35 27 w0 * 32)) (IntKind.i64.wrap (f102_1 4 6 w0)) (IntKind.i64.wrap (f102_1 10 3 w0)) (IntKind.i64.wrap (f102_1 13 6 w0)) (IntKind.i64.wrap (f102_1 19 16 w0)) w1 ≠ w0 := fun e => h ⟨hr, e⟩
    rw [bne_iff_ne.2 this]
    rfl
/-- What is loaded from where a slot may lie. -/
theorem ld_raw {M : Mem} {a : Int} (he : f99_0 ⟨a, M⟩ = 0) {w0 w1 w2 w3 : Int} (e0 : M.W (IntKind.u64.wrap (a + 0)) = w0) (e1 : M.W (IntKind.u64.wrap (a + 8)) = w1) (e2 : M.W (IntKind.u64.wrap (a + 16)) = w2) (e3 : M.W (IntKind.u64.wrap (a + 24)) = w3) :
    (okW w0 w1 w2 w3 → ld M a = rawS w0 w1 w2 w3 ∧ ldE M a = 0) ∧ (¬ okW w0 w1 w2 w3 → ld M a = sl0 ∧ ldE M a = 10) := by
  have q0 : f29_30 ⟨a, M⟩ = w0 := e0
  have q1 : f29_31 ⟨a, M⟩ = w1 := e1
  have q2 : f29_32 ⟨a, M⟩ = w2 := e2
  have q3 : f29_33 ⟨a, M⟩ = w3 := e3
  have r0 : f29_36 ⟨a, M⟩ = w0 := e0
  have r1 : f29_37 ⟨a, M⟩ = w1 := e1
  have r2 : f29_52 ⟨a, M⟩ = w2 := e2
  have r3 : f29_34 ⟨a, M⟩ = w3 := e3
  have hd : f29_25 ⟨a, M⟩ = false := by simp [f29_25, he]
  have c35 : f29_35 ⟨a, M⟩ = decide (w3 ≤ 4096) := by simp only [f29_35, r3]
  have d0 : f29_57 ⟨a, M⟩ = (rawS w0 w1 w2 w3).d := by simp only [f29_57, c35, r3, rawS]
  have d1 : f29_54 ⟨a, M⟩ = (rawS w0 w1 w2 w3).x := by simp only [f29_54, cnd_same, f29_53, r2, rawS]
  have d2 : f29_56 ⟨a, M⟩ = (rawS w0 w1 w2 w3).p := by simp only [f29_56, cnd_same, f29_55, r2, rawS]
  simp only [ld, ldE, f29_14, f29_15, f29_16, f29_17, f29_18, f29_19, f29_20, f29_21, f29_22, f29_23, f29_24, hd, d0, d1, d2, f29_39, f29_41, f29_43, f29_45, f29_47, f29_49, f29_51, cnd_same, f29_38, f29_40, f29_42, f29_44, f29_46, f29_48, f29_50, r0, r1, q0, q1, q2, q3]
  by_cases hg : rgt (rawS w0 w1 w2 w3) = true ∧ wd0 (rawS w0 w1 w2 w3) = w0
  · obtain ⟨g1, g2, g3, g4, g5, g6, g7, g8⟩ := read_ok hg.1 hg.2
    rw [g1, g2, g3, g4, g5, g6, g7, g8]
    unfold okW rightS wd0 wd1 wd2 wd3
    generalize rawS w0 w1 w2 w3 = z
    constructor
    · rintro ⟨k1, k2, k3, k4, k5⟩
      rw [k1, k2, k3, k4, k5]
      simp [cnd]
    · intro hn
      have hbad : cnd (cnd ((0 : Int) != 0) true (!f34_0 z.k z.a z.b z.r z.g z.s z.m z.x z.p z.d)) true (!(f104_2 z.k z.a z.b z.r z.g z.s z.m z.x z.p z.d == w0 && (f104_3 z.k z.a z.b z.r z.g z.s z.m z.x z.p z.d == w1 &&
            (f104_4 z.k z.a z.b z.r z.g z.s z.m z.x z.p z.d == w2 && (f104_5 z.k z.a z.b z.r z.g z.s z.m z.x z.p z.d == w3 && true))))) = true := by
        cases hc : cnd _ true _ with
        | true => rfl
        | false =>
          refine absurd ?_ hn
          revert hc
          cases f34_0 z.k z.a z.b z.r z.g z.s z.m z.x z.p z.d <;> simp [cnd]
      rw [hbad]
      exact ⟨rfl, rfl⟩
  · have hb := read_bad hg
    rw [hb]
    constructor
    · intro hk
      exact absurd ⟨rightS_rgt hk.1, hk.2.1⟩ hg
    · intro _
      exact ⟨rfl, rfl⟩
end Go.Sx.M

namespace Go.Sx.M
open Go Go.Sx
theorem ld_bad {M : Mem} {a : Int} (he : f99_0 ⟨a, M⟩ ≠ 0) : ld M a = sl0 ∧ ldE M a = f99_0 ⟨a, M⟩ := by
  have hd : f29_25 ⟨a, M⟩ = true := by simp [f29_25, he]
  simp only [ld, ldE, f29_14, f29_15, f29_16, f29_17, f29_18, f29_19, f29_20, f29_21, f29_22, f29_23, f29_24, hd]
  exact ⟨rfl, rfl⟩
/-- Why a slot may not lie there. -/
def errS (n a : Int) : Int := if a % 32 = 0 then if n ≤ a then 12 else 0 else 13
theorem errS_eq {M : Mem} {a : Int} (h : U64 a) : f99_0 ⟨a, M⟩ = errS M.size a := by
  have e : f125_0 a 5 = decide (a % 32 = 0) := by
    have := aligned_eq (a := a) (n := 5) h.1 h.2 (by omega) (by omega)
    rw [this]
    have : p26 (Int.toNat 5) = 32 := by decide +kernel
    rw [this]
    by_cases hh : a % 32 = 0 <;> simp [hh]
  have e2 : szM M = M.size := rfl
  simp only [f99_0, e, e2, errS]
  by_cases h1 : a % 32 = 0
  · by_cases h2 : M.size ≤ a <;> simp [cnd, h1, h2]
  · simp [cnd, h1]
theorem errS_ok {n a : Int} (h : errS n a = 0) : a % 32 = 0 ∧ a < n := by
  unfold errS at h
  split at h
  · split at h
    · omega
    · omega
  · omega
theorem errS_mk {n a : Int} (h1 : a % 32 = 0) (h2 : a < n) : errS n a = 0 := by
  unfold errS; rw [if_pos h1, if_neg (by omega)]
theorem wr_same {M : Mem} {a x : Int} (h : errI M.size a = 0) : (wrM M a x).W a = x := by
  show cnd (decide (errI M.size a = 0)) (upd M.W a x) M.W a = x
  rw [decide_eq_true h]; exact upd_same ..
theorem wr_other {M : Mem} {a x i : Int} (h : i ≠ a) : (wrM M a x).W i = M.W i := by
  show cnd (decide (errI M.size a = 0)) (upd M.W a x) M.W i = M.W i
  cases decide (errI M.size a = 0)
  · rfl
  · exact upd_other h
/-- Four words, one behind the other. -/
theorem four {M : Mem} {a w0 w1 w2 w3 : Int} (h0 : 0 ≤ a) (h1 : a % 32 = 0) (h2 : a < M.size) (h3 : M.size % 32 = 0) (h4 : M.size ≤ 4294967296) :
    let N := wrM (wrM (wrM (wrM M (IntKind.u64.wrap (a + 0)) w0) (IntKind.u64.wrap (a + 8)) w1) (IntKind.u64.wrap (a + 16)) w2) (IntKind.u64.wrap (a + 24)) w3
    N.W a = w0 ∧ N.W (a + 8) = w1 ∧ N.W (a + 16) = w2 ∧ N.W (a + 24) = w3 ∧ ∀ i, i ≠ a → i ≠ a + 8 → i ≠ a + 16 → i ≠ a + 24 → N.W i = M.W i := by
  intro N
  have e0 : IntKind.u64.wrap (a + 0) = a := by rw [wrap_u64_id (by omega) (by omega)]; omega
  have e8 : IntKind.u64.wrap (a + 8) = a + 8 := wrap_u64_id (by omega) (by omega)
  have e16 : IntKind.u64.wrap (a + 16) = a + 16 := wrap_u64_id (by omega) (by omega)
  have e24 : IntKind.u64.wrap (a + 24) = a + 24 := wrap_u64_id (by omega) (by omega)
  have k0 : errI M.size a = 0 := errI_ok (by omega) (by omega)
  have k8 : errI M.size (a + 8) = 0 := errI_ok (by omega) (by omega)
  have k16 : errI M.size (a + 16) = 0 := errI_ok (by omega) (by omega)
  have k24 : errI M.size (a + 24) = 0 := errI_ok (by omega) (by omega)
  have hN : N = wrM (wrM (wrM (wrM M a w0) (a + 8) w1) (a + 16) w2) (a + 24) w3 := by show wrM _ _ _ = _; rw [e0, e8, e16, e24]
  rw [hN]
  refine ⟨?_, ?_, ?_, ?_, fun i i0 i1 i2 i3 => ?_⟩
  · rw [wr_other (by omega), wr_other (by omega), wr_other (by omega)]; exact wr_same k0
  · rw [wr_other (by omega), wr_other (by omega)]; exact wr_same k8
  · rw [wr_other (by omega)]; exact wr_same k16
  · exact wr_same k24
  · rw [wr_other i3, wr_other i2, wr_other i1, wr_other i0]
end Go.Sx.M

namespace Go.Sx.M
open Go Go.Sx
/-- The words of a slot are read as it was. -/
theorem raw_wd {z : Sl} (h : SlR z) (hs : rightS z = true) : rawS (wd0 z) (wd1 z) (wd2 z) (wd3 z) = z := by
  obtain ⟨hr, ⟨x1, x2⟩, ⟨p1, p2⟩, d1, d2⟩ := (rightS_iff h).1 hs
  have hr2 := rgt2 h hr
  have e3 : wd3 z = z.d := by
    have : wd3 z = IntKind.u64.wrap z.d := rfl
    rw [this, wrap_u64_id (by omega) (by omega)]
  have x0 := h.x.1
  have p0 := h.p.1
  obtain ⟨x, hx⟩ : ∃ n : Nat, z.x / 32 = n := ⟨(z.x / 32).toNat, by omega⟩
  obtain ⟨q, hq⟩ : ∃ n : Nat, z.p / 32 = n := ⟨(z.p / 32).toNat, by omega⟩
  have e2 : wd2 z = ((x + q * 4294967296 : Nat) : Int) := by rw [wd2_eq h x1 p1, hx, hq]; simp
  obtain ⟨l1, l2⟩ := links_back (x := x) (q := q) (by omega) (by omega)
  have hr' : f45_1 z.k z.a z.b z.r z.g z.s z.m = true := hr
  obtain ⟨w1, w2⟩ := word_right h.a.1 h.a.2 hr2 hr'
  obtain ⟨hk, hb, hrr, hg, hss, hal, hmod⟩ := right_ranges h.a.1 h.a.2 hr2 hr'
  obtain ⟨m1, m2⟩ := words_at hr'
  have ha := h.a.1
  obtain ⟨g1, g2, g3, g4, g5, g6⟩ := word_get (k := z.k.toNat) (b := z.b.toNat) (r := z.r.toNat) (g := z.g.toNat) (s := z.s.toNat) (q := (z.a / 32).toNat) (by omega) (by omega) (by omega) (by omega) (by omega) (by omega)
  have c1 : IntKind.i64.wrap ((z.k.toNat : Nat) : Int) = z.k := by rw [wrap_i64 (by omega) (by omega)]; omega
  have c2 : IntKind.i64.wrap ((z.b.toNat : Nat) : Int) = z.b := by rw [wrap_i64 (by omega) (by omega)]; omega
  have c3 : IntKind.i64.wrap ((z.r.toNat : Nat) : Int) = z.r := by rw [wrap_i64 (by omega) (by omega)]; omega
  have c4 : IntKind.i64.wrap ((z.g.toNat : Nat) : Int) = z.g := by rw [wrap_i64 (by omega) (by omega)]; omega
  have c5 : IntKind.i64.wrap ((z.s.toNat : Nat) : Int) = z.s := by rw [wrap_i64 (by omega) (by omega)]; omega
  have c6 : IntKind.u64.wrap ((((z.a / 32).toNat : Nat) : Int) * 32) = z.a := by rw [wrap_u64_id (by omega) (by omega)]; omega
  have c7 : IntKind.u64.wrap (((x : Nat) : Int) * 32) = z.x := by rw [wrap_u64_id (by omega) (by omega)]; omega
  have c8 : IntKind.u64.wrap (((q : Nat) : Int) * 32) = z.p := by rw [wrap_u64_id (by omega) (by omega)]; omega
  have e0 : wd0 z = wordN z.k.toNat z.b.toNat z.r.toNat z.g.toNat z.s.toNat (z.a / 32).toNat := w1
  have e1 := wd1_eq hr
  have d3 : IntKind.i64.wrap z.d = z.d := wrap_i64 (by omega) (by omega)
  rw [e0, e1, e2, e3]
  simp only [rawS, g1, g2, g3, g4, g5, g6, l1, l2, c1, c2, c3, c4, c5, c6, c7, c8, d3, decide_eq_true d2, cnd]
theorem okW_wd {z : Sl} (h : SlR z) (hs : rightS z = true) : okW (wd0 z) (wd1 z) (wd2 z) (wd3 z) := by
  unfold okW
  rw [raw_wd h hs]
  exact ⟨hs, rfl, rfl, rfl, rfl⟩
/-- Where a slot may lie. -/
def slOK (n a : Int) : Prop := 0 ≤ a ∧ a % 32 = 0 ∧ a < n
/-- A memory that is one slot behind the other. -/
structure Enc (M : Mem) (σ : Int → Sl) : Prop where
  s0 : M.size % 32 = 0
  s1 : 0 < M.size
  s2 : M.size ≤ 4294967296
  ok : ∀ a, slOK M.size a → SlR (σ a) ∧ rightS (σ a) = true
  w : ∀ a, slOK M.size a → M.W a = wd0 (σ a) ∧ M.W (a + 8) = wd1 (σ a) ∧ M.W (a + 16) = wd2 (σ a) ∧ M.W (a + 24) = wd3 (σ a)
def setA (σ : Int → Sl) (a : Int) (z : Sl) : Int → Sl := fun i => if i = a then z else σ i
theorem setA_same {σ : Int → Sl} {a : Int} {z : Sl} : setA σ a z a = z := if_pos rfl
theorem setA_other {σ : Int → Sl} {a i : Int} {z : Sl} (h : i ≠ a) : setA σ a z i = σ i := if_neg h
theorem Enc.ld {M : Mem} {σ : Int → Sl} (E : Enc M σ) {a : Int} (h : slOK M.size a) : ld M a = σ a ∧ ldE M a = 0 := by
  obtain ⟨h0, h1, h2⟩ := h
  have hn := E.s2
  have e0 : IntKind.u64.wrap (a + 0) = a := by rw [wrap_u64_id (by omega) (by omega)]; omega
  have e8 : IntKind.u64.wrap (a + 8) = a + 8 := wrap_u64_id (by omega) (by omega)
  have e16 : IntKind.u64.wrap (a + 16) = a + 16 := wrap_u64_id (by omega) (by omega)
  have e24 : IntKind.u64.wrap (a + 24) = a + 24 := wrap_u64_id (by omega) (by omega)
  obtain ⟨k1, k2⟩ := E.ok a ⟨h0, h1, h2⟩
  obtain ⟨w0, w1, w2, w3⟩ := E.w a ⟨h0, h1, h2⟩
  have he : f99_0 ⟨a, M⟩ = 0 := by rw [errS_eq ⟨h0, by omega⟩]; exact errS_mk h1 h2
  obtain ⟨g1, g2⟩ := (ld_raw he (by rw [e0]; exact w0) (by rw [e8]; exact w1) (by rw [e16]; exact w2) (by rw [e24]; exact w3)).1 (okW_wd k1 k2)
  rw [raw_wd k1 k2] at g1
  exact ⟨g1, g2⟩
theorem ld_not {M : Mem} {a : Int} (hu : U64 a) (h : ¬ slOK M.size a) : ld M a = sl0 ∧ ldE M a = errS M.size a ∧ errS M.size a ≠ 0 := by
  have he : f99_0 ⟨a, M⟩ = errS M.size a := errS_eq hu
  have hne : errS M.size a ≠ 0 := by
    intro e
    obtain ⟨a1, a2⟩ := errS_ok e
    exact h ⟨hu.1, a1, a2⟩
  obtain ⟨b1, b2⟩ := ld_bad (M := M) (a := a) (by rw [he]; exact hne)
  exact ⟨b1, by rw [b2, he], hne⟩
theorem stE_any {M : Mem} {a : Int} {z : Sl} : stE M a z = cnd (f99_0 ⟨a, M⟩ != 0) (f99_0 ⟨a, M⟩) (cnd (!rightS z) 10 0) := rfl
theorem Enc.st {M : Mem} {σ : Int → Sl} (E : Enc M σ) {a : Int} {z : Sl} (h : slOK M.size a) (hz : SlR z) (hr : rightS z = true) : Enc (stM M a z) (setA σ a z) ∧ stE M a z = 0 ∧ (stM M a z).size = M.size := by
  obtain ⟨h0, h1, h2⟩ := h
  have hn := E.s2
  have he : f99_0 ⟨a, M⟩ = 0 := by rw [errS_eq ⟨h0, by omega⟩]; exact errS_mk h1 h2
  have hr' : f34_0 z.k z.a z.b z.r z.g z.s z.m z.x z.p z.d = true := hr
  have k10 : f91_10 ⟨a, z.k, z.a, z.b, z.r, z.g, z.s, z.m, z.x, z.p, z.d, M⟩ = false := by simp [f91_10, he]
  have k11 : f91_11 ⟨a, z.k, z.a, z.b, z.r, z.g, z.s, z.m, z.x, z.p, z.d, M⟩ = false := by simp [f91_11, hr']
  have hN : stM M a z = wrM (wrM (wrM (wrM M (IntKind.u64.wrap (a + 0)) (wd0 z)) (IntKind.u64.wrap (a + 8)) (wd1 z)) (IntKind.u64.wrap (a + 16)) (wd2 z)) (IntKind.u64.wrap (a + 24)) (wd3 z) := by
    show mrgM (f91_10 _) M (mrgM (f91_11 _) M _) = _
    rw [k10, k11]
    rfl
  obtain ⟨f0, f8, f16, f24, fo⟩ := four (M := M) (a := a) (w0 := wd0 z) (w1 := wd1 z) (w2 := wd2 z) (w3 := wd3 z) h0 h1 h2 E.s0 hn
  rw [← hN] at f0 f8 f16 f24 fo
  have hsz : (stM M a z).size = M.size := by rw [hN]; rfl
  refine ⟨⟨by rw [hsz]; exact E.s0, by rw [hsz]; exact E.s1, by rw [hsz]; exact hn, ?_, ?_⟩, ?_, hsz⟩
  · intro i hi
    rw [hsz] at hi
    by_cases e : i = a
    · subst e; rw [setA_same]; exact ⟨hz, hr⟩
    · rw [setA_other e]; exact E.ok i hi
  · intro i hi
    rw [hsz] at hi
    by_cases e : i = a
    · subst e; rw [setA_same]; exact ⟨f0, f8, f16, f24⟩
    · rw [setA_other e]
      obtain ⟨i0, i1, i2⟩ := hi
      obtain ⟨w0, w1, w2, w3⟩ := E.w i ⟨i0, i1, i2⟩
      refine ⟨?_, ?_, ?_, ?_⟩
      · rw [fo _ (by omega) (by omega) (by omega) (by omega)]; exact w0
      · rw [fo _ (by omega) (by omega) (by omega) (by omega)]; exact w1
      · rw [fo _ (by omega) (by omega) (by omega) (by omega)]; exact w2
      · rw [fo _ (by omega) (by omega) (by omega) (by omega)]; exact w3
  · rw [stE_any, he, hr]; rfl
theorem sl0_right : rightS sl0 = true := by decide +kernel
theorem Enc.new {n : Int} (h0 : n % 32 = 0) (h1 : 0 < n) (h2 : n ≤ 4294967296) : Enc (newM n) (fun _ => sl0) := by
  have e0 : wd0 sl0 = 0 := by decide +kernel
  have e1 : wd1 sl0 = 0 := by decide +kernel
  have e2 : wd2 sl0 = 0 := by decide +kernel
  have e3 : wd3 sl0 = 0 := by decide +kernel
  refine ⟨h0, h1, h2, fun a _ => ⟨sl0_R, sl0_right⟩, fun a _ => ?_⟩
  rw [e0, e1, e2, e3]
  exact ⟨rfl, rfl, rfl, rfl⟩
end Go.Sx.M

namespace Go.Sx.M
open Go Go.Sx
/-! Nodes in a row, each one's links in its slot. -/
def hdA : List Nd → Int → Int
  | [], n => n
  | x :: _, _ => x.t
def lsA : List Nd → Int → Int
  | [], p => p
  | x :: l, _ => lsA l x.t
def sN (x : Nd) (nx pv : Int) : Sl := ⟨x.k, x.a, x.b, x.r, x.g, x.s, x.m, nx, pv, x.d⟩
def DL (σ : Int → Sl) : Int → List Nd → Int → Prop
  | _, [], _ => True
  | p, x :: l, n => σ x.t = sN x (hdA l n) p ∧ DL σ x.t l n
theorem hdA_app (l1 l2 : List Nd) (n : Int) : hdA (l1 ++ l2) n = hdA l1 (hdA l2 n) := by cases l1 <;> rfl
theorem DL_app {σ : Int → Sl} : ∀ {l1 l2 : List Nd} {p n : Int}, DL σ p (l1 ++ l2) n ↔ DL σ p l1 (hdA l2 n) ∧ DL σ (lsA l1 p) l2 n
  | [], l2, p, n => by simp [DL, lsA]
  | x :: l1, l2, p, n => by
    simp only [List.cons_append, DL, lsA]
    rw [DL_app, hdA_app]
    constructor
    · rintro ⟨a, b, c⟩; exact ⟨⟨a, b⟩, c⟩
    · rintro ⟨⟨a, b⟩, c⟩; exact ⟨a, b, c⟩
/-- The slots of some nodes. -/
def tA (l : List Nd) : List Int := l.map Nd.t
theorem mem_tA {l : List Nd} {a : Int} : a ∈ tA l ↔ ∃ x, x ∈ l ∧ x.t = a := by simp [tA]
end Go.Sx.M

namespace Go.Sx.M
open Go Go.Sx
/-- A node that may stand in a tree. -/
structure NdOk (n : Int) (x : Nd) : Prop where
  at_ : slOK n x.t
  nz : x.t ≠ 0
  k : x.k ≠ 0
  R : SlR (slN x)
  r : rgt (slN x) = true
  d0 : 0 ≤ x.d
  d1 : x.d ≤ 4096
/-- The tree holds these nodes. -/
structure RepS (t : TS) (l : List Nd) (σ : Int → Sl) : Prop where
  E : Enc t.M σ
  f : t.f = hdA l 0
  c : t.c = l.length
  nd : (tA l).Nodup
  ok : ∀ x, x ∈ l → NdOk t.M.size x
  dl : DL σ 0 l 0
  out : ∀ a, a ∉ tA l → slOK t.M.size a → σ a = sl0
theorem RepS.z0 {t : TS} {l : List Nd} {σ : Int → Sl} (h : RepS t l σ) : (0 : Int) ∉ tA l := fun e => by
  obtain ⟨x, hx, hz⟩ := mem_tA.1 e
  exact (h.ok x hx).nz hz
/-- The node of a slot. -/
theorem fnd_spec {l : List Nd} (hd : (tA l).Nodup) (a : Int) : (∃ i : Nat, i < l.length ∧ (gN l i).t = a ∧ fnd l a = i ∧ gN l i ∈ l ∧ l = l.take i ++ gN l i :: l.drop (i + 1)) ∨ (a ∉ tA l ∧ fnd l a = -1) := by
  have e := nds_gN l
  rcases fnd_cases (gN l) l.length a with ⟨i, h1, h2, _, h4⟩ | ⟨h1, h2⟩
  · rw [e] at h4
    have hg : gN l i = l[i] := by simp [gN, List.getD, List.getElem?_eq_getElem h1]
    refine .inl ⟨i, h1, h2, h4, by rw [hg]; exact List.getElem_mem h1, ?_⟩
    rw [hg, List.getElem_cons_drop h1, List.take_append_drop]
  · rw [e] at h2
    refine .inr ⟨fun hm => ?_, h2⟩
    obtain ⟨x, hx, rfl⟩ := mem_tA.1 hm
    obtain ⟨i, hi, rfl⟩ := List.getElem_of_mem hx
    exact h1 i hi (by simp [gN, List.getD, List.getElem?_eq_getElem hi])
theorem mayT_eq {n a : Int} (h : 0 ≤ a) : mayT n a = errS n a := by
  unfold mayT errS
  rw [Int.tmod_eq_emod_of_nonneg h]
  by_cases h1 : a % 32 = 0
  · by_cases h2 : n ≤ a <;> simp [cnd_eq, h1, h2]
  · simp [cnd_eq, h1]
theorem mayT_ok {n a : Int} (h : 0 ≤ a) : mayT n a = 0 ↔ slOK n a := by
  rw [mayT_eq h]
  exact ⟨fun e => ⟨h, (errS_ok e).1, (errS_ok e).2⟩, fun e => errS_mk e.2.1 e.2.2⟩
/-- What is loaded where. -/
theorem RepS.ld {t : TS} {l : List Nd} {σ : Int → Sl} (h : RepS t l σ) {a : Int} (hu : U64 a) :
    (slOK t.M.size a ∧ mayT t.M.size a = 0 ∧ ldE t.M a = 0 ∧ ld t.M a = σ a ∧ ((∃ i : Nat, i < l.length ∧ (gN l i).t = a ∧ fnd l a = i ∧ gN l i ∈ l ∧ l = l.take i ++ gN l i :: l.drop (i + 1)) ∨ (a ∉ tA l ∧ fnd l a = -1 ∧ σ a = sl0))) ∨
      (¬ slOK t.M.size a ∧ mayT t.M.size a ≠ 0 ∧ ldE t.M a = mayT t.M.size a ∧ ld t.M a = sl0 ∧ fnd l a = -1 ∧ a ∉ tA l) := by
  by_cases hs : slOK t.M.size a
  · obtain ⟨h1, h2⟩ := h.E.ld hs
    refine .inl ⟨hs, (mayT_ok hu.1).2 hs, h2, h1, ?_⟩
    rcases fnd_spec h.nd a with q | ⟨q1, q2⟩
    · exact .inl q
    · exact .inr ⟨q1, q2, h.out a q1 hs⟩
  · obtain ⟨h1, h2, h3⟩ := ld_not (M := t.M) hu hs
    have hm : a ∉ tA l := fun e => by
      obtain ⟨x, hx, rfl⟩ := mem_tA.1 e
      exact hs (h.ok x hx).at_
    refine .inr ⟨hs, fun e => hs ((mayT_ok hu.1).1 e), by rw [h2, mayT_eq hu.1], h1, ?_, hm⟩
    rcases fnd_spec h.nd a with ⟨i, _, q2, _, q4, _⟩ | ⟨_, q2⟩
    · exact absurd (mem_tA.2 ⟨_, q4, q2⟩) hm
    · exact q2
end Go.Sx.M

namespace Go.Sx.M
open Go Go.Sx
end Go.Sx.M

namespace Go.Sx.M
open Go Go.Sx
theorem cnd_t {α : Type} (a b : α) : cnd true a b = a := rfl
/-- Where a node stands. -/
theorem RepS.at_ {t : TS} {l : List Nd} {σ : Int → Sl} (h : RepS t l σ) {a : Int} (hu : U64 a) (he : hdT t.M.size l a = 0) :
    ∃ (l1 l2 : List Nd) (g : Nd), l = l1 ++ g :: l2 ∧ g.t = a ∧ fnd l a = l1.length ∧ atN l a = g ∧ Go.Sx.M.ld t.M a = sN g (hdA l2 0) (lsA l1 0) ∧ σ a = sN g (hdA l2 0) (lsA l1 0) ∧ slOK t.M.size a := by
  rcases h.ld hu with ⟨hs, m0, e0, el, ⟨i, hi, ht, hf, hm, hl⟩ | ⟨_, hf, hz⟩⟩ | ⟨_, m0, e0, el, hf, _⟩
  · refine ⟨l.take i, l.drop (i + 1), gN l i, hl, ht, by rw [hf, List.length_take]; omega, by unfold atN; rw [hf]; rfl, ?_⟩
    have hd := h.dl
    rw [hl] at hd
    obtain ⟨_, q⟩ := DL_app.1 hd
    obtain ⟨q, _⟩ := q
    rw [ht] at q
    exact ⟨by rw [el]; exact q, q, hs⟩
  · exfalso
    unfold hdT at he
    rw [m0, hf] at he
    cases he
  · exfalso
    unfold hdT at he
    rw [hf, beq_eq_false_iff_ne.2 m0] at he
    exact m0 he
end Go.Sx.M

