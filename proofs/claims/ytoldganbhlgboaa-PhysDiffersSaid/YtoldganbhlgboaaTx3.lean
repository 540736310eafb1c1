/- A symbolic executor over the model's code, proved sound for whatever program; part 3. Their conditions stand in each. -/
import Derived.Test.YtoldganbhlgboaaTx2
import Derived.Deep.Slices
import Derived.WideKeyArgs
import Derived.OpenShut
import Derived.Maps.RangeWalk
set_option linter.unusedVariables false
set_option linter.unusedSimpArgs false
namespace Go.Sx
open Go.RowKit
section
variable {T : Theory}
def subS : List (Option SV) → List (Option SV) → Prop
  | [], _ => True
  | none :: l, s => subS l (tl s)
  | some v :: l, s => hd s = some v ∧ subS l (tl s)
theorem subS_get : ∀ {l s : List (Option SV)} {t : Nat} {v : SV}, subS l s → l[t]? = some (some v) → s[t]? = some (some v)
  | [], s, t, v, _, h => by simp at h
  | none :: l, s, 0, v, _, h => by simp at h
  | none :: l, s, t + 1, v, k, h => by
    simp at h
    have := subS_get (l := l) (s := tl s) k h
    rwa [tl_get] at this
  | some x :: l, s, 0, v, k, h => by
    simp at h
    subst h
    exact hd_get k.1
  | some x :: l, s, t + 1, v, k, h => by
    simp at h
    have := subS_get (l := l) (s := tl s) k.2 h
    rwa [tl_get] at this
theorem WkB.sub {n0 : Nat} {s s' : St T.R} (hl : s'.slots.length = s.slots.length) (h : subS s'.slots s.slots) (hh : HOws s.heap s'.heap) : WkB T n0 s s' := by
  intro K w0 ρ0 ρ a w _ hp r
  exact ⟨ρ, hp, ⟨by rw [r.size, hl], r.defers, fun t v hv => r.slots t v (subS_get h hv), r.inv.weak hh⟩⟩
def mvF (k n j:Nat) : Option Nat := match beqN j k with
  | true => some n
  | false => some j
def moveSt (k:Nat) (s : St T.R) : Option (St T.R) := match s.heap[k]? with
  | some o => some { s with slots := gcS (mvF k s.heap.length) s.slots, heap := s.heap.set k .gone ++ [o] }
  | none => none
theorem WkB.move {n0 k : Nat} {s s' : St T.R} (h : moveSt k s = some s') : WkB T n0 s s' := by
  unfold moveSt at h
  split at h
  · rename_i o ho
    cases h
    intro K w0 ρ0 ρ a w _ hp r
    obtain ⟨l, hl, hmv⟩ := r.inv.moveN ho
    have hlen := r.inv.len
    refine ⟨ρ ++ [l], hp.trans (Pre.snoc _ _), ⟨by rw [r.size]; exact (gcS_length _).symm, r.defers, ?_, ?_⟩⟩
    · intro t v hv
      obtain ⟨u, h1, h2⟩ := gcS_get hv
      refine ren_rel (ρ := ρ) ?_ _ _ _ h2 (r.slots t u h1)
      intro n m l' hf hn
      unfold mvF at hf
      split at hf
      · rename_i e
        have e := beqN_iff.1 e
        subst e
        cases hf
        rw [hl] at hn
        cases hn
        rw [List.getElem?_append_right (by omega)]
        simp [hlen]
      · cases hf
        rw [List.getElem?_append_left (List.getElem?_eq_some_iff.1 hn).1]
        exact hn
    · exact hmv
  · cases h
def mkSlots (n:Nat) (ps : List (Nat × SV)) : List (Option SV) := ps.foldl (fun l p => l.set p.1 (some p.2)) (List.replicate n none)
theorem mkSlots_length (n:Nat) (ps : List (Nat × SV)) : (mkSlots n ps).length = n := by
  unfold mkSlots
  have : ∀ (ps : List (Nat × SV)) (l : List (Option SV)), (ps.foldl (fun l p => l.set p.1 (some p.2)) l).length = l.length := by
    intro ps
    induction ps with
    | nil => intro l; rfl
    | cons p ps ih => intro l; rw [List.foldl_cons, ih, List.length_set]
  rw [this]; simp
theorem mkSlots_get {n : Nat} {ps : List (Nat × SV)} {t : Nat} {v : SV} (h : (mkSlots n ps)[t]? = some (some v)) : (t, v) ∈ ps := by
  unfold mkSlots at h
  have : ∀ (ps : List (Nat × SV)) (l : List (Option SV)), (ps.foldl (fun l p => l.set p.1 (some p.2)) l)[t]? = some (some v) → (t, v) ∈ ps ∨ l[t]? = some (some v) := by
    intro ps
    induction ps with
    | nil => intro l h; exact .inr h
    | cons p ps ih =>
      intro l h
      rw [List.foldl_cons] at h
      rcases ih _ h with h | h
      · exact .inl (List.mem_cons_of_mem _ h)
      · by_cases e : p.1 = t
        · subst e
          rw [List.getElem?_set] at h
          split at h
          · split at h
            · simp only [Option.some.injEq] at h
              subst h
              exact .inl List.mem_cons_self
            · cases h
          · exact .inr h
        · rw [List.getElem?_set_ne e] at h
          exact .inr h
  rcases this ps _ h with h | h
  · exact h
  · rw [List.getElem?_replicate] at h
    split at h <;> cases h
theorem WkB.named {n0 : Nat} {s s' : St T.R} {ps : List (Nat × SV)} (hs : s'.slots = mkSlots s.slots.length ps) (h : ∀ p, p ∈ ps → s.slots[p.1]? = some (some p.2)) (hh : HOws s.heap s'.heap) : WkB T n0 s s' := by
  intro K w0 ρ0 ρ a w _ hp r
  exact ⟨ρ, hp, ⟨by rw [r.size, hs, mkSlots_length], r.defers, fun t v hv => r.slots t v (h (t, v) (mkSlots_get (by rw [hs] at hv; exact hv))), r.inv.weak hh⟩⟩
end
end Go.Sx

namespace Go.Sx
open Go.RowKit

/-! ### Loops by templates: a state's form, and the values that are read off it -/
inductive Vl (R : Type) where
  | b (x : Bool)
  | i (x:Int)
  | s (x : ByteArray)
  | n (x:Nat)
  | e (f : Nat → List SV)
  | o (x : Obj)
  | r (x : R)
  | c (f : Nat → Int)
  | cb (f : Nat → Bool)
  | cs (f : Nat → ByteArray)
inductive Pt where
  | bool
  | int (k : IntKind)
  | str
  | ptr (n off:Nat)
  | elt (n sz off:Nat)
  | nilp
  | slc (n sz:Nat)
  | slc0 (n sz:Nat)
  | nils
  | map (n:Nat)
  | nilm
  | fn (f:Nat) (l : List Pt)
  | nilf
  | ifc (t:Nat) (p : Pt)
  | nili
  | agg (l : List Pt)
  | tup (l : List Pt)
inductive Ck where
  | int (k : IntKind)
  | bool
  | str
mutual
def rd {R : Type} : Pt → SV → Option (List (Vl R))
  | .bool, v => match v with
    | .bool x => some [.b x]
    | _ => none
  | .int k, v => match v with
    | .int k' x => if k = k' then some [.i x] else none
    | _ => none
  | .str, v => match v with
    | .str x => some [.s x]
    | _ => none
  | .ptr n o, v => match v with
    | .ptr n' o' => match beqN n n', beqN o o' with
      | true, true => some []
      | _, _ => none
    | _ => none
  | .elt n s o, v => match v with
    | .elt n' s' i o' => match beqN n n', beqN s s', beqN o o' with
      | true, true, true => some [.n i]
      | _, _, _ => none
    | _ => none
  | .nilp, v => match v with
    | .nilp => some []
    | _ => none
  | .slc n s, v => match v with
    | .slc n' s' lo len => match beqN n n', beqN s s' with
      | true, true => some [.n lo, .n len]
      | _, _ => none
    | _ => none
  | .slc0 n s, v => match v with
    | .slc n' s' lo len => match beqN n n', beqN s s', beqN lo 0 with
      | true, true, true => some [.n len]
      | _, _, _ => none
    | _ => none
  | .nils, v => match v with
    | .nils => some []
    | _ => none
  | .map n, v => match v with
    | .map n' => match beqN n n' with
      | true => some []
      | _ => none
    | _ => none
  | .nilm, v => match v with
    | .nilm => some []
    | _ => none
  | .fn f l, v => match v with
    | .fn f' l' => match beqN f f' with
      | true => rdL l l'
      | _ => none
    | _ => none
  | .nilf, v => match v with
    | .nilf => some []
    | _ => none
  | .ifc t p, v => match v with
    | .ifc t' x => match beqN t t' with
      | true => rd p x
      | _ => none
    | _ => none
  | .nili, v => match v with
    | .nili => some []
    | _ => none
  | .agg l, v => match v with
    | .agg l' => rdL l l'
    | _ => none
  | .tup l, v => match v with
    | .tup l' => rdL l l'
    | _ => none
def rdL {R : Type} : List Pt → List SV → Option (List (Vl R))
  | [], l => match l with
    | [] => some []
    | _ => none
  | p :: ps, l => match l with
    | v :: vs => match rd p v, rdL ps vs with
      | some a, some b => some (a ++ b)
      | _, _ => none
    | _ => none
end
mutual
def mkS {R : Type} : Pt → List (Vl R) → Option (SV × List (Vl R))
  | .bool, l => match l with
    | .b x :: l => some (.bool x, l)
    | _ => none
  | .int k, l => match l with
    | .i x :: l => some (.int k x, l)
    | _ => none
  | .str, l => match l with
    | .s x :: l => some (.str x, l)
    | _ => none
  | .ptr n o, l => some (.ptr n o, l)
  | .elt n s o, l => match l with
    | .n i :: l => some (.elt n s i o, l)
    | _ => none
  | .nilp, l => some (.nilp, l)
  | .slc n s, l => match l with
    | .n lo :: .n len :: l => some (.slc n s lo len, l)
    | _ => none
  | .slc0 n s, l => match l with
    | .n len :: l => some (.slc n s 0 len, l)
    | _ => none
  | .nils, l => some (.nils, l)
  | .map n, l => some (.map n, l)
  | .nilm, l => some (.nilm, l)
  | .fn f ps, l => match mkL ps l with
    | some (vs, l) => some (.fn f vs, l)
    | none => none
  | .nilf, l => some (.nilf, l)
  | .ifc t p, l => match mkS p l with
    | some (v, l) => some (.ifc t v, l)
    | none => none
  | .nili, l => some (.nili, l)
  | .agg ps, l => match mkL ps l with
    | some (vs, l) => some (.agg vs, l)
    | none => none
  | .tup ps, l => match mkL ps l with
    | some (vs, l) => some (.tup vs, l)
    | none => none
def mkL {R : Type} : List Pt → List (Vl R) → Option (List SV × List (Vl R))
  | [], l => some ([], l)
  | p :: ps, l => match mkS p l with
    | some (v, l) => match mkL ps l with
      | some (vs, l) => some (v :: vs, l)
      | none => none
    | none => none
end
mutual
theorem rd_mk {R : Type} : ∀ (p : Pt) (v : SV) (a r : List (Vl R)), rd p v = some a → mkS p (a ++ r) = some (v, r)
  | .bool, v, a, r, h => by
    cases v <;> simp only [rd, Option.some.injEq, reduceCtorEq] at h
    subst h; rfl
  | .int k, v, a, r, h => by
    cases v <;> simp only [rd, Option.some.injEq, reduceCtorEq] at h
    split at h
    · rename_i e; subst e; cases h; rfl
    · cases h
  | .str, v, a, r, h => by
    cases v <;> simp only [rd, Option.some.injEq, reduceCtorEq] at h
    subst h; rfl
  | .ptr n o, v, a, r, h => by
    cases v <;> simp only [rd, Option.some.injEq, reduceCtorEq] at h
    split at h
    · rename_i e1 e2; obtain rfl := beqN_iff.1 e1; obtain rfl := beqN_iff.1 e2; cases h; rfl
    · cases h
  | .elt n s o, v, a, r, h => by
    cases v <;> simp only [rd, Option.some.injEq, reduceCtorEq] at h
    split at h
    · rename_i e1 e2 e3; obtain rfl := beqN_iff.1 e1; obtain rfl := beqN_iff.1 e2; obtain rfl := beqN_iff.1 e3; cases h; rfl
    · cases h
  | .nilp, v, a, r, h => by
    cases v <;> simp only [rd, Option.some.injEq, reduceCtorEq] at h
    subst h; rfl
  | .slc n s, v, a, r, h => by
    cases v <;> simp only [rd, Option.some.injEq, reduceCtorEq] at h
    split at h
    · rename_i e1 e2; obtain rfl := beqN_iff.1 e1; obtain rfl := beqN_iff.1 e2; cases h; rfl
    · cases h
  | .slc0 n s, v, a, r, h => by
    cases v <;> simp only [rd, Option.some.injEq, reduceCtorEq] at h
    split at h
    · rename_i e1 e2 e3; obtain rfl := beqN_iff.1 e1; obtain rfl := beqN_iff.1 e2; obtain rfl := beqN_iff.1 e3; cases h; rfl
    · cases h
  | .nils, v, a, r, h => by
    cases v <;> simp only [rd, Option.some.injEq, reduceCtorEq] at h
    subst h; rfl
  | .map n, v, a, r, h => by
    cases v <;> simp only [rd, Option.some.injEq, reduceCtorEq] at h
    split at h
    · rename_i e1; obtain rfl := beqN_iff.1 e1; cases h; rfl
    · cases h
  | .nilm, v, a, r, h => by
    cases v <;> simp only [rd, Option.some.injEq, reduceCtorEq] at h
    subst h; rfl
  | .fn f l, v, a, r, h => by
    cases v <;> simp only [rd, Option.some.injEq, reduceCtorEq] at h
    split at h
    · rename_i e1; obtain rfl := beqN_iff.1 e1; simp only [mkS, rdL_mk _ _ a r h]
    · cases h
  | .nilf, v, a, r, h => by
    cases v <;> simp only [rd, Option.some.injEq, reduceCtorEq] at h
    subst h; rfl
  | .ifc t p, v, a, r, h => by
    cases v <;> simp only [rd, Option.some.injEq, reduceCtorEq] at h
    split at h
    · rename_i e1; obtain rfl := beqN_iff.1 e1; simp only [mkS, rd_mk _ _ a r h]
    · cases h
  | .nili, v, a, r, h => by
    cases v <;> simp only [rd, Option.some.injEq, reduceCtorEq] at h
    subst h; rfl
  | .agg l, v, a, r, h => by
    cases v <;> simp only [rd, Option.some.injEq, reduceCtorEq] at h
    simp only [mkS, rdL_mk _ _ a r h]
  | .tup l, v, a, r, h => by
    cases v <;> simp only [rd, Option.some.injEq, reduceCtorEq] at h
    simp only [mkS, rdL_mk _ _ a r h]
theorem rdL_mk {R : Type} : ∀ (p : List Pt) (v : List SV) (a r : List (Vl R)), rdL p v = some a → mkL p (a ++ r) = some (v, r)
  | [], v, a, r, h => by
    cases v <;> simp only [rdL, Option.some.injEq, reduceCtorEq] at h
    subst h; rfl
  | p :: ps, v, a, r, h => by
    cases v <;> simp only [rdL, reduceCtorEq] at h
    split at h
    · rename_i x y h1 h2
      cases h
      rw [List.append_assoc]
      simp only [mkL, rd_mk _ _ x _ h1, rdL_mk _ _ y _ h2]
    · cases h
end

/-! Rows by columns -/
def colI (el : Nat → List SV) (c:Nat) : Nat → Int := fun j => match (el j)[c]? with
  | some (.int _ x) => x
  | _ => 0
def colB (el : Nat → List SV) (c:Nat) : Nat → Bool := fun j => match (el j)[c]? with
  | some (.bool x) => x
  | _ => false
def colS (el : Nat → List SV) (c:Nat) : Nat → ByteArray := fun j => match (el j)[c]? with
  | some (.str x) => x
  | _ => ⟨#[]⟩
def rdC {R : Type} (el : Nat → List SV) : Nat → List Ck → List (Vl R)
  | _, [] => []
  | c, k :: ks => (match k with
    | .int _ => .c (colI el c)
    | .bool => .cb (colB el c)
    | .str => .cs (colS el c)) :: rdC el (c + 1) ks
def elC (el : Nat → List SV) : Nat → List Ck → Nat → List SV
  | _, [], _ => []
  | c, k :: ks, j => (match k with
    | .int k => .int k (colI el c j)
    | .bool => .bool (colB el c j)
    | .str => .str (colS el c j)) :: elC el (c + 1) ks j
def mkC {R : Type} : List Ck → List (Vl R) → Option ((Nat → List SV) × List (Vl R))
  | [], l => some (fun _ => [], l)
  | k :: ks, l => match l with
    | v :: l => match mkC ks l with
      | some (g, l) => match k, v with
        | .int k, .c f => some (fun j => .int k (f j) :: g j, l)
        | .bool, .cb f => some (fun j => .bool (f j) :: g j, l)
        | .str, .cs f => some (fun j => .str (f j) :: g j, l)
        | _, _ => none
      | none => none
    | [] => none
theorem rdC_mk {R : Type} {el : Nat → List SV} : ∀ (ks : List Ck) (c:Nat) (r : List (Vl R)), mkC ks (rdC el c ks ++ r) = some (elC el c ks, r)
  | [], c, r => rfl
  | k :: ks, c, r => by
    simp only [rdC, List.cons_append, mkC, rdC_mk ks (c + 1) r]
    cases k <;> rfl

inductive HPt where
  | gone
  | cells (t:Nat) (l : List Pt)
  | row (t sz:Nat)
  | rowc (t:Nat) (l : List Ck)
  | ro (t sz:Nat)
  | roc (t:Nat) (l : List Ck)
  | res
def lenC : List Ck → Nat
  | [] => 0
  | _ :: l => lenC l + 1
def rdO {R : Type} : HPt → HO R → Option (Option Prop × List (Vl R))
  | .gone, _ => some (none, [])
  | .cells t l, .cells t' l' => match beqN t t', rdL l l' with
    | true, some v => some (none, v)
    | _, _ => none
  | .row t sz, .row t' sz' len el => match beqN t t', beqN sz sz' with
    | true, true => some (none, [.n len, .e el])
    | _, _ => none
  | .rowc t ks, .row t' sz' len el => match beqN t t', beqN (lenC ks) sz' with
    | true, true => some (some (∀ i, i < len → el i = elC el 0 ks i), .n len :: rdC el 0 ks)
    | _, _ => none
  | .ro t sz, .ro t' sz' len el ob => match beqN t t', beqN sz sz' with
    | true, true => some (none, [.n len, .e el, .o ob])
    | _, _ => none
  | .roc t ks, .ro t' sz' len el ob => match beqN t t', beqN (lenC ks) sz' with
    | true, true => some (some (∀ i, i < len → el i = elC el 0 ks i), .n len :: .o ob :: rdC el 0 ks)
    | _, _ => none
  | .res, .res r => some (none, [.r r])
  | _, _ => none
def mkO {R : Type} : HPt → List (Vl R) → Option (HO R × List (Vl R))
  | .gone, l => some (.gone, l)
  | .cells t ps, l => match mkL ps l with
    | some (vs, l) => some (.cells t vs, l)
    | none => none
  | .row t sz, l => match l with
    | .n len :: .e el :: l => some (.row t sz len el, l)
    | _ => none
  | .rowc t ks, l => match l with
    | .n len :: l => match mkC ks l with
      | some (el, l) => some (.row t (lenC ks) len el, l)
      | none => none
    | _ => none
  | .ro t sz, l => match l with
    | .n len :: .e el :: .o ob :: l => some (.ro t sz len el ob, l)
    | _ => none
  | .roc t ks, l => match l with
    | .n len :: .o ob :: l => match mkC ks l with
      | some (el, l) => some (.ro t (lenC ks) len el ob, l)
      | none => none
    | _ => none
  | .res, l => match l with
    | .r r :: l => some (.res r, l)
    | _ => none
def whole : HPt → Bool
  | .gone => false
  | _ => true
theorem rdO_mk {R : Type} {p : HPt} {o : HO R} {nd : Option Prop} {a : List (Vl R)} (h : rdO p o = some (nd, a)) (hn : Nd nd) (r : List (Vl R)) : ∃ o', mkO p (a ++ r) = some (o', r) ∧ HOw o o' ∧ (whole p = true → HOw o' o) := by
  unfold rdO at h
  split at h
  · cases h; exact ⟨.gone, rfl, .inr (.inl rfl), (fun e => by cases e)⟩
  · rename_i t l t' l'
    split at h
    · rename_i v h1 h2
      obtain rfl := beqN_iff.1 h1
      cases h
      exact ⟨_, by simp only [mkO, rdL_mk _ _ _ r h2], .refl _, fun _ => .refl _⟩
    · cases h
  · split at h
    · rename_i h1 h2
      obtain rfl := beqN_iff.1 h1; obtain rfl := beqN_iff.1 h2
      cases h
      exact ⟨_, rfl, .refl _, fun _ => .refl _⟩
    · cases h
  · split at h
    · rename_i h1 h2
      obtain rfl := beqN_iff.1 h1; obtain rfl := beqN_iff.1 h2
      cases h
      exact ⟨_, by simp only [mkO, List.cons_append, rdC_mk], .row hn, fun _ => .row fun i hi => (hn i hi).symm⟩
    · cases h
  · split at h
    · rename_i h1 h2
      obtain rfl := beqN_iff.1 h1; obtain rfl := beqN_iff.1 h2
      cases h
      exact ⟨_, rfl, .refl _, fun _ => .refl _⟩
    · cases h
  · split at h
    · rename_i h1 h2
      obtain rfl := beqN_iff.1 h1; obtain rfl := beqN_iff.1 h2
      cases h
      exact ⟨_, by simp only [mkO, List.cons_append, rdC_mk], .ro hn, fun _ => .ro fun i hi => (hn i hi).symm⟩
    · cases h
  · cases h
    exact ⟨_, rfl, .refl _, fun _ => .refl _⟩
  · cases h

structure Tm where
  n : Nat
  slots : List (Nat × Pt)
  heap : List HPt
def rdSl {R : Type} (sl : List (Option SV)) : List (Nat × Pt) → Option (List (Vl R))
  | [] => some []
  | (i, p) :: ps => match sl[i]? with
    | some (some v) => match rd p v, rdSl sl ps with
      | some a, some b => some (a ++ b)
      | _, _ => none
    | _ => none
def mkSl {R : Type} : List (Nat × Pt) → List (Vl R) → Option (List (Nat × SV) × List (Vl R))
  | [], l => some ([], l)
  | (i, p) :: ps, l => match mkS p l with
    | some (v, l) => match mkSl ps l with
      | some (vs, l) => some ((i, v) :: vs, l)
      | none => none
    | none => none
def rdH {R : Type} : List HPt → List (HO R) → Option (Option Prop × List (Vl R))
  | [], [] => some (none, [])
  | p :: ps, o :: os => match rdO p o, rdH ps os with
    | some (n, a), some (m, b) => some (andN n m, a ++ b)
    | _, _ => none
  | _, _ => none
def mkH {R : Type} : List HPt → List (Vl R) → Option (List (HO R) × List (Vl R))
  | [], l => some ([], l)
  | p :: ps, l => match mkO p l with
    | some (o, l) => match mkH ps l with
      | some (os, l) => some (o :: os, l)
      | none => none
    | none => none
def rdSt {R : Type} (tm : Tm) (st : St R) : Option (Option Prop × List (Vl R)) := match beqN st.slots.length tm.n, rdSl st.slots tm.slots, rdH tm.heap st.heap with
  | true, some a, some (n, b) => some (n, a ++ b)
  | _, _, _ => none
def bld {R : Type} (tm : Tm) (l : List (Vl R)) : Option (St R) := match mkSl tm.slots l with
  | some (ps, l) => match mkH tm.heap l with
    | some (h, []) => some ⟨mkSlots tm.n ps, h, [], []⟩
    | _ => none
  | none => none
theorem rdSl_mk {R : Type} {sl : List (Option SV)} : ∀ {ps : List (Nat × Pt)} {a : List (Vl R)}, rdSl sl ps = some a → ∀ r, ∃ vs, mkSl ps (a ++ r) = some (vs, r) ∧ ∀ p, p ∈ vs → sl[p.1]? = some (some p.2)
  | [], a, h, r => by cases h; exact ⟨[], rfl, fun p hp => by cases hp⟩
  | (i, p) :: ps, a, h, r => by
    simp only [rdSl] at h
    split at h
    · rename_i v hv
      split at h
      · rename_i x y h1 h2
        cases h
        obtain ⟨vs, e1, e2⟩ := rdSl_mk h2 r
        refine ⟨(i, v) :: vs, by rw [List.append_assoc]; simp only [mkSl, rd_mk _ _ x _ h1, e1], fun q hq => ?_⟩
        rcases List.mem_cons.1 hq with rfl | hq
        · exact hv
        · exact e2 q hq
      · cases h
    · cases h
theorem rdH_mk {R : Type} : ∀ {ps : List HPt} {h : List (HO R)} {nd : Option Prop} {a : List (Vl R)}, rdH ps h = some (nd, a) → Nd nd → ∀ r, ∃ h', mkH ps (a ++ r) = some (h', r) ∧ HOws h h' ∧ ∀ (n:Nat) p, ps[n]? = some p → whole p = true → ∃ o o', h[n]? = some o ∧ h'[n]? = some o' ∧ HOw o' o
  | [], [], nd, a, h, _, r => by cases h; exact ⟨[], rfl, .nil, fun n p hp => by simp at hp⟩
  | [], _ :: _, _, _, h, _, _ => by cases h
  | _ :: _, [], _, _, h, _, _ => by cases h
  | p :: ps, o :: os, nd, a, h, hn, r => by
    simp only [rdH] at h
    split at h
    · rename_i n x m y h1 h2
      cases h
      obtain ⟨n1, n2⟩ := andN_iff.1 hn
      obtain ⟨h', e1, e2, e3⟩ := rdH_mk h2 n2 r
      obtain ⟨o', q1, q2, q3⟩ := rdO_mk h1 n1 (y ++ r)
      refine ⟨o' :: h', by rw [List.append_assoc]; simp only [mkH, q1, e1], .cons q2 e2, fun i p' hp' hw => ?_⟩
      cases i with
      | zero => simp at hp'; subst hp'; exact ⟨_, _, rfl, rfl, q3 hw⟩
      | succ i => simp at hp'; simpa using e3 i p' hp' hw
    · cases h
section
variable {T : Theory}
theorem rdSt_bld {tm : Tm} {st : St T.R} {nd : Option Prop} {a : List (Vl T.R)} (h : rdSt tm st = some (nd, a)) (hn : Nd nd) :
    ∃ s', bld tm a = some s' ∧ (∀ n0, WkB T n0 st s') ∧ s'.heap.length = st.heap.length ∧ ∀ (n:Nat) p, tm.heap[n]? = some p → whole p = true → ∃ o o', st.heap[n]? = some o ∧ s'.heap[n]? = some o' ∧ HOw o' o := by
  unfold rdSt at h
  split at h
  · rename_i x m y h1 h2 h3
    cases h
    obtain ⟨vs, e1, e2⟩ := rdSl_mk h2 y
    obtain ⟨h', q1, q2, q3⟩ := rdH_mk h3 hn []
    rw [List.append_nil] at q1
    refine ⟨⟨mkSlots tm.n vs, h', [], []⟩, by simp only [bld, e1, q1], fun n0 => ?_, q2.length, q3⟩
    refine WkB.named (ps := vs) ?_ e2 q2
    rw [beqN_iff.1 h1]
  · cases h
end
end Go.Sx

namespace Go.Sx
open Go.RowKit

structure Mv where
  slot : Nat
  t : Nat
  sz : Nat
def fldAt {R : Type} (sl:Nat) (sls : List (Option SV)) (hp : List (HO R)) : Option (Nat × Nat × List SV × SV) := match sls[sl % 1000]? with
  | some (some (.ptr c 0)) => match hp[c]? with
    | some (.cells t vs) => match vs[sl / 1000 - 1]? with
      | some x => some (c, t, vs, x)
      | none => none
    | _ => none
  | _ => none
def prep0 {T : Theory} (dirt : List Nat) (m : Mv) (st : St T.R) : Option (St T.R) := match st.slots[m.slot]? with
  | some (some (.slc k _ _ _)) => match mem k dirt with
    | true => moveSt k st
    | false => none
  | some (some .nils) => some { st with slots := nilTo st.heap.length m.sz [m.slot] st.slots, heap := st.heap ++ [.row m.t m.sz 0 (fun j => [])] }
  | some (some (.ptr k _)) => match mem k dirt with
    | true => moveSt k st
    | false => none
  | _ => none
def prepC {T : Theory} (dirt : List Nat) (m : Mv) (st : St T.R) : Option (St T.R) := match fldAt m.slot st.slots st.heap with
  | some (c, t, vs, .slc k sz lo len) => match mem c dirt, mem k dirt, beqN k c with
    | true, true, false => match moveSt k st with
      | some s => some { s with heap := s.heap.set c (.cells t (vs.set (m.slot / 1000 - 1) (.slc st.heap.length sz lo len))) }
      | none => none
    | _, _, _ => none
  | some (c, t, vs, .nils) => match mem c dirt with
    | true => some { st with heap := (st.heap ++ [HO.row m.t m.sz 0 (fun j => [])]).set c (.cells t (vs.set (m.slot / 1000 - 1) (.slc st.heap.length m.sz 0 0))) }
    | false => none
  | _ => none
def prep1 {T : Theory} (dirt : List Nat) (m : Mv) (st : St T.R) : Option (St T.R) := match Nat.decLt m.slot 1000 with
  | isTrue _ => prep0 dirt m st
  | isFalse _ => prepC dirt m st
def prep {T : Theory} (dirt : List Nat) : List Mv → St T.R → Option (St T.R)
  | [], st => some st
  | m :: ms, st => match prep1 dirt m st with
    | some s => prep dirt ms s
    | none => none
inductive Rs (R S : Type) where
  | on (s : S)
  | out (ex : Ex) (sl : List (Option SV)) (hp : List (HO R))
def Rs.map {R S S' : Type} (f : S → S') : Rs R S → Rs R S'
  | .on s => .on (f s)
  | .out ex sl hp => .out ex sl hp
structure Lp where
  tm : Tm
  mv : List Mv
  n0 : Nat
  dirt : List Nat
  keep : List Nat
  ext : List Nat
def nameAt (sl : List (Option SV)) (t:Nat) : Nat := match sl[t]? with
  | some (some (.slc n _ _ _)) => n
  | some (some (.ptr n _)) => n
  | _ => 0
def nameC {R : Type} (st : St R) (t:Nat) : Nat := match Nat.decLt t 1000 with
  | isTrue _ => nameAt st.slots t
  | isFalse _ => match fldAt t st.slots st.heap with
    | some (_, _, _, .slc k _ _ _) => k
    | _ => 0
def namesM {R : Type} (st : St R) : List Mv → List Nat
  | [] => []
  | m :: ms => nameC st m.slot :: namesM st ms
def namesE (sl : List (Option SV)) : List Nat → List Nat
  | [] => []
  | m :: ms => nameAt sl m :: namesE sl ms
def keepS (kp : List Nat) : Nat → List (Option SV) → List (Option SV)
  | _, [] => []
  | n, x :: l => (match mem n kp with
    | true => x
    | false => none) :: keepS kp (n + 1) l
theorem keepS_length {kp : List Nat} : ∀ {n : Nat} {l : List (Option SV)}, (keepS kp n l).length = l.length
  | _, [] => rfl
  | n, x :: l => by simp [keepS, keepS_length]
theorem keepS_get {kp : List Nat} : ∀ {n t : Nat} {l : List (Option SV)} {v : SV}, (keepS kp n l)[t]? = some (some v) → l[t]? = some (some v)
  | n, t, [], v, h => by simp [keepS] at h
  | n, 0, x :: l, v, h => by
    simp only [keepS, List.getElem?_cons_zero, Option.some.injEq] at h
    split at h
    · rw [h]; rfl
    · cases h
  | n, t + 1, x :: l, v, h => by
    simp only [keepS, List.getElem?_cons_succ] at h ⊢
    exact keepS_get h
section
variable {T : Theory}
def cvLeaf (d : Lp) (l : Ex × St T.R) : Option (Option Prop × Rs T.R (List (Vl T.R))) :=
  match l.1 with
  | .normal => match gcSt d.n0 (namesM l.2 d.mv) l.2 with
    | some (nd, s) => match rdSt d.tm s with
      | some (n, v) => some (andN nd n, .on v)
      | none => none
    | none => none
  | e => match gcSt d.n0 (namesM l.2 d.mv ++ namesE l.2.slots d.ext) l.2 with
    | some (nd, s) => some (nd, .out e (keepS d.keep 0 s.slots) s.heap)
    | none => none
def cvO (d : Lp) : Tr (Ex × St T.R) → Option (Tr (Rs T.R (List (Vl T.R))))
  | .leaf l => match cvLeaf d l with
    | some (nd, r) => needing nd (some (.leaf r))
    | none => none
  | .need p x => match cvO d x with
    | some u => some (.need p u)
    | none => none
  | .ite c x y => match cvO d x, cvO d y with
    | some u, some v => some (.ite c u v)
    | _, _ => none
def cvE (d : Lp) (o : Out T) : Option (Tr (Rs T.R (List (Vl T.R)))) := match o with
  | some t => cvO d t
  | none => none
theorem bld_slots {tm : Tm} {l : List (Vl T.R)} {s : St T.R} (h : bld tm l = some s) : s.slots.length = tm.n := by
  unfold bld at h
  split at h
  · split at h
    · cases h
      exact mkSlots_length _ _
    · cases h
  · cases h
theorem cvLeaf_spec {d : Lp} {l : Ex × St T.R} {nd : Option Prop} {r : Rs T.R (List (Vl T.R))} (h : cvLeaf d l = some (nd, r)) (hn : Nd nd) :
    (∃ v s', r = .on v ∧ l.1 = .normal ∧ bld d.tm v = some s' ∧ WkB T d.n0 l.2 s') ∨ ∃ ex sl hp, r = .out ex sl hp ∧ l.1 = ex ∧ ex ≠ .normal ∧ WkB T d.n0 l.2 ⟨sl, hp, [], []⟩ ∧ d.n0 ≤ hp.length ∧ sl.length = l.2.slots.length := by
  unfold cvLeaf at h
  split at h
  · rename_i e
    split at h
    · rename_i n1 s hg
      split at h
      · rename_i n2 v hr
        cases h
        obtain ⟨k1, k2⟩ := andN_iff.1 hn
        obtain ⟨s', e1, e2, _⟩ := rdSt_bld hr k2
        exact .inl ⟨v, s', rfl, e, e1, (WkB.gc hg k1).trans (e2 _)⟩
      · cases h
    · cases h
  · rename_i hne
    split at h
    · rename_i n1 s hg
      cases h
      have hgl : d.n0 ≤ s.heap.length ∧ s.slots.length = l.2.slots.length := by
        unfold gcSt at hg
        split at hg
        · rename_i hm _ hget
          cases hg
          have := (getH_spec hget).1
          simp only [List.length_append, iota_length] at this
          exact ⟨by simp only; omega, gcS_length _⟩
        · cases hg
      refine .inr ⟨_, _, _, rfl, rfl, fun e => hne e, (WkB.gc hg hn).trans ?_, hgl.1, by rw [keepS_length]; exact hgl.2⟩
      intro K w0 ρ0 ρ a w _ hp q
      exact ⟨ρ, hp, ⟨by rw [q.size, keepS_length], q.defers, fun t v hv => q.slots t v (keepS_get hv), q.inv⟩⟩
    · cases h
theorem cvO_spec {d : Lp} : ∀ {t : Tr (Ex × St T.R)} {u : Tr (Rs T.R (List (Vl T.R)))}, cvO d t = some u → u.ok → t.ok ∧
    ((∃ v s', u.get = .on v ∧ t.get.1 = .normal ∧ bld d.tm v = some s' ∧ WkB T d.n0 t.get.2 s') ∨ ∃ ex sl hp, u.get = .out ex sl hp ∧ t.get.1 = ex ∧ ex ≠ .normal ∧ WkB T d.n0 t.get.2 ⟨sl, hp, [], []⟩ ∧ d.n0 ≤ hp.length ∧ sl.length = t.get.2.slots.length)
  | .leaf l, u, h, hu => by
    simp only [cvO] at h
    split at h
    · rename_i nd r hl
      obtain ⟨hn, u', hu', _, hget⟩ := needing_spec h hu
      cases hu'
      refine ⟨trivial, ?_⟩
      rw [← hget]
      exact cvLeaf_spec hl hn
    · cases h
  | .need p x, u, h, hu => by
    simp only [cvO] at h
    split at h
    · rename_i v hv
      cases h
      obtain ⟨a, b⟩ := cvO_spec hv hu.2
      exact ⟨⟨hu.1, a⟩, b⟩
    · cases h
  | .ite c x y, u, h, hu => by
    simp only [cvO] at h
    split at h
    · rename_i v w hv hw
      cases h
      cases c with
      | true =>
        obtain ⟨a, b⟩ := cvO_spec hv (hu.1 rfl)
        exact ⟨⟨fun _ => a, (fun e => by cases e)⟩, b⟩
      | false =>
        obtain ⟨a, b⟩ := cvO_spec hw (hu.2 rfl)
        exact ⟨⟨(fun e => by cases e), fun _ => a⟩, b⟩
    · cases h

/-! The rounds, as plain functions -/
inductive LT {R S : Type} (f : S → Tr (Rs R S)) : S → Prop
  | out {s : S} {ex : Ex} {sl : List (Option SV)} {hp : List (HO R)} : (f s).ok → (f s).get = .out ex sl hp → LT f s
  | on {s s' : S} : (f s).ok → (f s).get = .on s' → LT f s' → LT f s
inductive Reach {R S : Type} (f : S → Tr (Rs R S)) : S → S → Prop
  | out {s : S} {ex : Ex} {sl : List (Option SV)} {hp : List (HO R)} : (f s).get = .out ex sl hp → Reach f s s
  | on {s s' z : S} : (f s).get = .on s' → Reach f s' z → Reach f s z
noncomputable def lastS {R S : Type} [Inhabited S] (f : S → Tr (Rs R S)) (s : S) : S := @Classical.epsilon S ⟨default⟩ (Reach f s)
theorem lastS_out {R S : Type} [Inhabited S] {f : S → Tr (Rs R S)} {s : S} {ex : Ex} {sl : List (Option SV)} {hp : List (HO R)} (h : (f s).get = .out ex sl hp) : lastS f s = s := by
  have hx : ∃ z, Reach f s z := ⟨s, .out h⟩
  have := @Classical.epsilon_spec S (Reach f s) hx
  unfold lastS
  revert this
  generalize @Classical.epsilon S _ (Reach f s) = z
  intro hz
  cases hz with
  | out _ => rfl
  | on h2 _ => rw [h] at h2; cases h2
theorem lastS_on {R S : Type} [Inhabited S] {f : S → Tr (Rs R S)} {s s' : S} (h : (f s).get = .on s') : lastS f s = lastS f s' := by
  unfold lastS
  congr 1
  funext z
  refine propext ⟨fun k => ?_, fun k => .on h k⟩
  cases k with
  | out h2 => rw [h] at h2; cases h2
  | on h2 k => rw [h] at h2; cases h2; exact k
theorem LT.last {R S : Type} [Inhabited S] {f : S → Tr (Rs R S)} {s : S} (h : LT f s) : (f (lastS f s)).ok ∧ ∃ ex sl hp, (f (lastS f s)).get = .out ex sl hp := by
  induction h with
  | out h1 h2 => rw [lastS_out h2]; exact ⟨h1, _, _, _, h2⟩
  | on h1 h2 _ ih => rw [lastS_on h2]; exact ih
theorem LT.inv {R S : Type} [Inhabited S] {f : S → Tr (Rs R S)} (V : S → Prop) (μ : S → Nat)
    (h : ∀ s, V s → (f s).ok ∧ ((∃ ex sl hp, (f s).get = .out ex sl hp) ∨ ∃ s', (f s).get = .on s' ∧ V s' ∧ μ s' < μ s)) {s : S} (hs : V s) : LT f s ∧ V (lastS f s) := by
  generalize hm : μ s = m
  induction m using Nat.strongRecOn generalizing s with
  | ind m ih =>
    obtain ⟨h1, ⟨ex, sl, hp, h2⟩ | ⟨s', h2, h3, h4⟩⟩ := h s hs
    · exact ⟨.out h1 h2, by rw [lastS_out h2]; exact hs⟩
    · obtain ⟨a, b⟩ := ih (μ s') (by omega) h3 rfl
      exact ⟨.on h1 h2 a, by rw [lastS_on h2]; exact b⟩
def outT {R S : Type} : Tr (Rs R S) → Option (Tr (Ex × List (Option SV) × List (HO R)))
  | .leaf r => match r with
    | .on _ => none
    | .out ex sl hp => some (.leaf (ex, sl, hp))
  | .need _ x => outT x
  | .ite c x y => match outT x with
    | some a => match outT y with
      | some b => some (.ite c a b)
      | none => some a
    | none => outT y
theorem outT_spec {R S : Type} : ∀ {t : Tr (Rs R S)} {u : Tr (Ex × List (Option SV) × List (HO R))}, outT t = some u → ∀ {ex sl hp}, t.get = .out ex sl hp → u.ok ∧ u.get = (ex, sl, hp)
  | .leaf r, u, h, ex, sl, hp, e => by
    simp only [Tr.get] at e
    subst e
    cases h
    exact ⟨trivial, rfl⟩
  | .need p x, u, h, ex, sl, hp, e => outT_spec (t := x) h e
  | .ite c x y, u, h, ex, sl, hp, e => by
    simp only [outT] at h
    split at h
    · rename_i a ha
      split at h
      · rename_i b hb
        cases h
        cases c with
        | true => obtain ⟨k1, k2⟩ := outT_spec ha e; exact ⟨⟨fun _ => k1, (fun e => by cases e)⟩, k2⟩
        | false => obtain ⟨k1, k2⟩ := outT_spec hb e; exact ⟨⟨(fun e => by cases e), fun _ => k1⟩, k2⟩
      · rename_i hb
        cases h
        cases c with
        | true => exact outT_spec ha e
        | false => exact absurd hb (outT_some (t := y) e)
    · rename_i ha
      cases c with
      | true => exact absurd ha (outT_some (t := x) e)
      | false => exact outT_spec h e
where
  outT_some {R S : Type} : ∀ {t : Tr (Rs R S)} {ex sl hp}, t.get = .out ex sl hp → outT t ≠ none
  | .leaf r, ex, sl, hp, e => by
    simp only [Tr.get] at e
    subst e
    simp [outT]
  | .need p x, ex, sl, hp, e => outT_some (t := x) e
  | .ite true x y, ex, sl, hp, e => by
    have := outT_some (t := x) e
    simp only [outT]
    split
    · split <;> simp
    · rename_i k; exact absurd k this
  | .ite false x y, ex, sl, hp, e => by
    have := outT_some (t := y) e
    simp only [outT]
    split
    · split
      · simp
      · rename_i k; exact absurd k this
    · exact this
def hdO {R : Type} : List (HO R) → HO R
  | [] => .gone
  | o :: _ => o
def tlO {R : Type} : List (HO R) → List (HO R)
  | [] => []
  | _ :: l => l
def ovl {R : Type} (dirt : List Nat) : Nat → List (HO R) → List (HO R) → List (HO R)
  | _, [], hp => hp
  | n, o :: os, hp => (match mem n dirt with
    | true => hdO hp
    | false => o) :: ovl dirt (n + 1) os (tlO hp)
def maskH {R : Type} (dirt : List Nat) : Nat → Nat → List (HO R) → List (HO R)
  | _, 0, _ => []
  | i, k + 1, h => (match mem i dirt with
    | true => .gone
    | false => hdO h) :: maskH dirt (i + 1) k (tlO h)
def outH {R S : Type} (dirt : List Nat) (n0:Nat) : Tr (Rs R S) → List (List (HO R))
  | .leaf r => match r with
    | .on _ => []
    | .out _ _ hp => [maskH dirt 0 n0 hp]
  | .need _ x => outH dirt n0 x
  | .ite _ x y => outH dirt n0 x ++ outH dirt n0 y
def repH {R S : Type} (l : List (HO R)) : Tr (Rs R S) → List (List (HO R))
  | .leaf r => match r with
    | .on _ => []
    | .out _ _ _ => [l]
  | .need _ x => repH l x
  | .ite _ x y => repH l x ++ repH l y
theorem outH_length {R S : Type} {dirt : List Nat} {n0 : Nat} {l : List (HO R)} : ∀ {t : Tr (Rs R S)}, (outH dirt n0 t).length = (repH l t).length
  | .leaf r => by cases r <;> rfl
  | .need _ x => outH_length (t := x)
  | .ite _ x y => by simp only [outH, repH, List.length_append, outH_length (t := x) (l := l), outH_length (t := y) (l := l)]
theorem outH_spec {R S : Type} {dirt : List Nat} {n0 : Nat} {l : List (HO R)} : ∀ {t : Tr (Rs R S)}, outH dirt n0 t = repH l t → ∀ {ex sl hp}, t.get = .out ex sl hp → maskH dirt 0 n0 hp = l
  | .leaf r, h, ex, sl, hp, e => by
    simp only [Tr.get] at e
    subst e
    simpa [outH, repH] using h
  | .need _ x, h, ex, sl, hp, e => outH_spec (t := x) h e
  | .ite c x y, h, ex, sl, hp, e => by
    obtain ⟨a, b⟩ := List.append_inj h outH_length
    cases c with
    | true => exact outH_spec a e
    | false => exact outH_spec b e
theorem hdO_get {R : Type} {h : List (HO R)} {n : Nat} (hn : 0 < h.length) : h[0]? = some (hdO h) := by cases h <;> simp [hdO] at hn ⊢
theorem tlO_get {R : Type} {h : List (HO R)} (i:Nat) : (tlO h)[i]? = h[i + 1]? := by cases h <;> simp [tlO]
theorem maskH_get {R : Type} {dirt : List Nat} : ∀ {k i j : Nat} {h h' : List (HO R)}, maskH dirt i k h = maskH dirt i k h' → j < k → k ≤ h.length → k ≤ h'.length → mem (i + j) dirt = false → h[j]? = h'[j]?
  | 0, i, j, h, h', _, hj, _, _, _ => by omega
  | k + 1, i, 0, h, h', e, _, hl, hl', hm => by
    simp only [maskH, List.cons.injEq] at e
    rw [Nat.add_zero] at hm
    rw [hm] at e
    rw [hdO_get (n := 0) (by omega), hdO_get (n := 0) (by omega)]
    exact congrArg some e.1
  | k + 1, i, j + 1, h, h', e, hj, hl, hl', hm => by
    simp only [maskH, List.cons.injEq] at e
    have e1 : (tlO h).length = h.length - 1 := by cases h <;> simp [tlO]
    have e2 : (tlO h').length = h'.length - 1 := by cases h' <;> simp [tlO]
    have := maskH_get (j := j) e.2 (by omega) (by omega) (by omega) (by rwa [show i + 1 + j = i + (j + 1) by omega])
    rwa [tlO_get, tlO_get] at this
theorem ovl_length {R : Type} {dirt : List Nat} : ∀ {n : Nat} {os hp : List (HO R)}, os.length ≤ hp.length → (ovl dirt n os hp).length = hp.length
  | _, [], hp, _ => rfl
  | n, o :: os, [], h => by simp at h
  | n, o :: os, x :: hp, h => by
    simp only [List.length_cons] at h
    simp only [ovl, tlO, List.length_cons, ovl_length (n := n + 1) (os := os) (hp := hp) (by omega)]
theorem ovl_get {R : Type} {dirt : List Nat} : ∀ {n j : Nat} {os hp : List (HO R)}, os.length ≤ hp.length → j < os.length → (ovl dirt n os hp)[j]? = if mem (n + j) dirt then hp[j]? else os[j]?
  | n, j, [], hp, _, hj => by simp at hj
  | n, j, o :: os, [], h, _ => by simp at h
  | n, 0, o :: os, x :: hp, h, _ => by
    simp only [ovl, List.getElem?_cons_zero, Nat.add_zero, hdO]
    cases mem n dirt <;> rfl
  | n, j + 1, o :: os, x :: hp, h, hj => by
    simp only [List.length_cons] at h hj
    simp only [ovl, List.getElem?_cons_succ, tlO]
    rw [ovl_get (n := n + 1) (by omega) (by omega), show n + 1 + j = n + (j + 1) by omega]
theorem ovl_high {R : Type} {dirt : List Nat} : ∀ {n j : Nat} {os hp : List (HO R)}, os.length ≤ hp.length → os.length ≤ j → (ovl dirt n os hp)[j]? = hp[j]?
  | n, j, [], hp, _, _ => rfl
  | n, j, o :: os, [], h, _ => by simp at h
  | n, 0, o :: os, x :: hp, _, hj => by simp at hj
  | n, j + 1, o :: os, x :: hp, h, hj => by
    simp only [List.length_cons] at h hj
    simp only [ovl, List.getElem?_cons_succ, tlO]
    exact ovl_high (by omega) (by omega)
theorem HOws.of {R : Type} : ∀ {h h' : List (HO R)}, h'.length = h.length → (∀ (i:Nat) o o', h[i]? = some o → h'[i]? = some o' → HOw o o') → HOws h h'
  | [], [], _, _ => .nil
  | [], _ :: _, e, _ => by simp at e
  | _ :: _, [], e, _ => by simp at e
  | o :: h, o' :: h', e, k => .cons (k 0 o o' rfl rfl) (HOws.of (by simpa using e) fun i a b ha hb => k (i + 1) a b (by simpa using ha) (by simpa using hb))
theorem prep0_spec {dirt : List Nat} {m : Mv} {st s : St T.R} (h : prep0 dirt m st = some s) :
    (∀ n0, WkB T n0 st s) ∧ s.heap.length = st.heap.length + 1 ∧ s.slots.length = st.slots.length ∧ ∀ n, n < st.heap.length → n ∉ dirt → s.heap[n]? = st.heap[n]? := by
  unfold prep0 at h
  split at h
  · rename_i k _ _ _ _
    split at h
    · rename_i hm
      refine ⟨fun n0 => WkB.move h, ?_⟩
      unfold moveSt at h
      split at h
      · rename_i o ho
        cases h
        refine ⟨by simp, gcS_length _, fun n hn hd => ?_⟩
        show (st.heap.set k .gone ++ [o])[n]? = _
        rw [List.getElem?_append_left (by simpa using hn), List.getElem?_set_ne (fun e => hd (by rw [← e]; exact mem_iff.1 hm))]
      · cases h
    · cases h
  · cases h
    refine ⟨fun n0 => WkB.nilRow _ _ _ _, by simp, nilTo_length, fun n hn _ => ?_⟩
    show (st.heap ++ _)[n]? = _
    rw [List.getElem?_append_left hn]
  · rename_i k _ _
    split at h
    · rename_i hm
      refine ⟨fun n0 => WkB.move h, ?_⟩
      unfold moveSt at h
      split at h
      · rename_i o ho
        cases h
        refine ⟨by simp, gcS_length _, fun n hn hd => ?_⟩
        show (st.heap.set k .gone ++ [o])[n]? = _
        rw [List.getElem?_append_left (by simpa using hn), List.getElem?_set_ne (fun e => hd (by rw [← e]; exact mem_iff.1 hm))]
      · cases h
    · cases h
  · cases h
theorem RelL_set {ρ : Env} {x y : SV} (hxy : ∀ v, Rel ρ x v → Rel ρ y v) : ∀ {vs : List SV} {f : Nat} {cs : List Value}, vs[f]? = some x → RelL ρ vs cs → RelL ρ (vs.set f y) cs
  | [], f, cs, h, _ => by simp at h
  | a :: vs, 0, cs, h, r => by
    simp only [List.getElem?_cons_zero, Option.some.injEq] at h
    subst h
    obtain ⟨z, zs, e, r1, r2⟩ := r
    exact ⟨z, zs, e, hxy _ r1, r2⟩
  | a :: vs, f + 1, cs, h, r => by
    simp only [List.getElem?_cons_succ] at h
    obtain ⟨z, zs, e, r1, r2⟩ := r
    exact ⟨z, zs, e, r1, RelL_set hxy h r2⟩
theorem Inv.cells {K : Nat → Prop} {w0 w : World} {ρ : Env} {h : List (HO T.R)} {c t : Nat} {vs vs' : List SV} (I : Inv T K w0 ρ h w) (hc : h[c]? = some (.cells t vs)) (hr : ∀ cs, RelL ρ vs cs → RelL ρ vs' cs) :
    Inv T K w0 ρ (h.set c (.cells t vs')) w := by
  obtain ⟨a, b, F, p, d, e⟩ := I
  refine ⟨by rw [List.length_set]; exact a, b, F, ?_, d, fun m i hi => ⟨(e m i hi).1, (e m i hi).2.imp id fun q => ?_⟩⟩
  rotate_left
  · by_cases em : m = c
    · subst em; rw [hc] at q; exact q.elim
    · rw [List.getElem?_set_ne (fun x => em x.symm)]; exact q
  intro n o l hn hl
  by_cases en : n = c
  · subst en
    rw [List.getElem?_set_self (List.getElem?_eq_some_iff.1 hc).1] at hn
    cases hn
    obtain ⟨q1, q2, cs, q3, q4⟩ := p n _ l hc hl
    exact ⟨q1, q2, cs, q3, hr cs q4⟩
  · rw [List.getElem?_set_ne (fun x => en x.symm)] at hn
    exact p n o l hn hl
theorem fldAt_spec {R : Type} {sl : Nat} {sls : List (Option SV)} {hp : List (HO R)} {c t : Nat} {vs : List SV} {x : SV} (h : fldAt sl sls hp = some (c, t, vs, x)) : hp[c]? = some (.cells t vs) ∧ vs[sl / 1000 - 1]? = some x := by
  unfold fldAt at h
  split at h
  · split at h
    · rename_i h1
      split at h
      · rename_i h2
        cases h
        exact ⟨h1, h2⟩
      · cases h
    · cases h
  · cases h
theorem prepC_spec {dirt : List Nat} {m : Mv} {st s : St T.R} (h : prepC dirt m st = some s) :
    (∀ n0, WkB T n0 st s) ∧ s.heap.length = st.heap.length + 1 ∧ s.slots.length = st.slots.length ∧ ∀ n, n < st.heap.length → n ∉ dirt → s.heap[n]? = st.heap[n]? := by
  unfold prepC at h
  split at h
  · rename_i c t vs k sz lo len hcell
    obtain ⟨g1, g2⟩ := fldAt_spec hcell
    split at h
    case h_2 => cases h
    rename_i m1 m2 m3
    split at h
    case h_2 => cases h
    rename_i s1 hs1
    cases h
    have hck : k ≠ c := fun e => by rw [beqN_iff.2 e] at m3; cases m3
    have hclt : c < st.heap.length := (List.getElem?_eq_some_iff.1 g1).1
    unfold moveSt at hs1
    split at hs1
    case h_2 => cases hs1
    rename_i o ho
    cases hs1
    refine ⟨?_, by simp, gcS_length _, fun n hn hd => ?_⟩
    · intro n0 K w0 ρ0 ρ a w _ hp r
      obtain ⟨l, hl, hmv⟩ := r.inv.moveN ho
      have hlen := r.inv.len
      refine ⟨ρ ++ [l], hp.trans (Pre.snoc _ _), ⟨by rw [r.size]; exact (gcS_length _).symm, r.defers, ?_, ?_⟩⟩
      · intro t v hv
        obtain ⟨u, h1, h2⟩ := gcS_get hv
        refine ren_rel (ρ := ρ) ?_ _ _ _ h2 (r.slots t u h1)
        intro n m l' hf hn
        unfold mvF at hf
        split at hf
        · rename_i e
          have e := beqN_iff.1 e
          subst e
          cases hf
          rw [hl] at hn
          cases hn
          rw [List.getElem?_append_right (by omega)]
          simp [hlen]
        · cases hf
          rw [List.getElem?_append_left (List.getElem?_eq_some_iff.1 hn).1]
          exact hn
      · refine hmv.cells (vs := vs) ?_ ?_
        · rw [List.getElem?_append_left (by simpa using hclt), List.getElem?_set_ne hck]
          exact g1
        · intro cs hcs
          refine RelL_set ?_ g2 hcs
          intro v hv
          obtain ⟨l', h1, h2⟩ := hv
          have hkl : k < ρ.length := (List.getElem?_eq_some_iff.1 hl).1
          rw [List.getElem?_append_left hkl, hl] at h1
          cases h1
          exact ⟨l, by rw [← hlen, List.getElem?_append_right (by omega)]; simp, h2⟩
    · show ((st.heap.set k .gone ++ [o]).set c _)[n]? = _
      rw [List.getElem?_set_ne (fun e => hd (by rw [← e]; exact mem_iff.1 m1)), List.getElem?_append_left (by simpa using hn), List.getElem?_set_ne (fun e => hd (by rw [← e]; exact mem_iff.1 m2))]
  · rename_i c t vs hcell
    obtain ⟨g1, g2⟩ := fldAt_spec hcell
    split at h
    case h_2 => cases h
    rename_i m1
    cases h
    have hclt : c < st.heap.length := (List.getElem?_eq_some_iff.1 g1).1
    refine ⟨?_, by simp, rfl, fun n hn hd => ?_⟩
    · intro n0 K w0 ρ0 ρ a w _ hp r
      have hl := r.inv.len
      refine ⟨ρ ++ [⟨0, 0, true, 0⟩], hp.trans (Pre.snoc _ _), ⟨r.size, r.defers, fun t v hv => Rel.mono (Pre.snoc _ _) _ _ (r.slots t v hv), ?_⟩⟩
      refine (r.inv.news ⟨0, 0, true, 0⟩ (.row m.t m.sz 0 (fun j => [])) (fun _ => False) (Turns.refl _ _) (fun _ q => q.elim) (.inl ⟨rfl, rfl⟩)).cells (vs := vs) ?_ ?_
      · rw [List.getElem?_append_left hclt]
        exact g1
      · intro cs hcs
        refine RelL_set ?_ g2 hcs
        intro v hv
        exact ⟨⟨0, 0, true, 0⟩, by rw [← hl, List.getElem?_append_right (by omega)]; simp, .inl ⟨rfl, rfl, rfl, hv⟩⟩
    · show ((st.heap ++ _).set c _)[n]? = _
      rw [List.getElem?_set_ne (fun e => hd (by rw [← e]; exact mem_iff.1 m1)), List.getElem?_append_left hn]
  · cases h
theorem prep1_spec {dirt : List Nat} {m : Mv} {st s : St T.R} (h : prep1 dirt m st = some s) :
    (∀ n0, WkB T n0 st s) ∧ s.heap.length = st.heap.length + 1 ∧ s.slots.length = st.slots.length ∧ ∀ n, n < st.heap.length → n ∉ dirt → s.heap[n]? = st.heap[n]? := by
  unfold prep1 at h
  split at h
  · exact prep0_spec h
  · exact prepC_spec h
theorem prep_spec {dirt : List Nat} : ∀ {ms : List Mv} {st s : St T.R}, prep dirt ms st = some s →
    (∀ n0, WkB T n0 st s) ∧ st.heap.length ≤ s.heap.length ∧ s.slots.length = st.slots.length ∧ ∀ n, n < st.heap.length → n ∉ dirt → s.heap[n]? = st.heap[n]?
  | [], st, s, h => by cases h; exact ⟨fun n0 => WkB.refl _ _, Nat.le_refl _, rfl, fun _ _ _ => rfl⟩
  | m :: ms, st, s, h => by
    simp only [prep] at h
    split at h
    · rename_i s1 h1
      obtain ⟨a1, a2, a3, a4⟩ := prep1_spec h1
      obtain ⟨b1, b2, b3, b4⟩ := prep_spec h
      exact ⟨fun n0 => (a1 n0).trans (b1 n0), by omega, b3.trans a3, fun n hn hd => (b4 n (by omega) hd).trans (a4 n hn hd)⟩
    · cases h
def finL {R : Type} (d : Lp) (st : St R) (r : Ex × List (Option SV) × List (HO R)) : Ex × St R :=
  (r.1, ⟨r.2.1, ovl d.dirt 0 st.heap r.2.2, d.dirt ++ st.dirt, List.range st.slots.length ++ st.ws⟩)
def allWhole (dirt : List Nat) : Nat → Nat → List HPt → Bool
  | _, 0, _ => true
  | i, k + 1, p :: ps => match mem i dirt, whole p with
    | false, false => false
    | _, _ => allWhole dirt (i + 1) k ps
  | _, _ + 1, [] => false
theorem allWhole_spec {dirt : List Nat} : ∀ {k i j : Nat} {ps : List HPt}, allWhole dirt i k ps = true → j < k → mem (i + j) dirt = false → ∃ p, ps[j]? = some p ∧ whole p = true
  | 0, _, _, _, _, h, _ => by omega
  | k + 1, i, j, [], h, _, _ => by cases h
  | k + 1, i, j, p :: ps, h, hj, hm => by
    simp only [allWhole] at h
    cases j with
    | zero =>
      rw [Nat.add_zero] at hm
      refine ⟨p, rfl, ?_⟩
      cases hw : whole p with
      | true => rfl
      | false => rw [hm, hw] at h; cases h
    | succ j =>
      have h' : allWhole dirt (i + 1) k ps = true := by
        split at h
        · cases h
        · exact h
      simpa using allWhole_spec (j := j) h' (by omega) (by rwa [show i + 1 + j = i + (j + 1) by omega])
noncomputable def loopL {Pm S : Type} [Inhabited S] (d : Lp) (ofV : List (Vl T.R) → Option (Pm × S)) (rt : Pm → S → Tr (Rs T.R S)) (st : St T.R) : Out T :=
  match beqN st.heap.length d.n0, prep d.dirt d.mv st with
  | true, some s1 => match rdSt d.tm s1 with
    | some (nd, l) => match ofV l with
      | some (p, s) => match outT (rt p (lastS (rt p) s)) with
        | some t => needing nd (some (.need (LT (rt p) s) (t.map (finL d st))))
        | none => none
      | none => none
    | none => none
  | _, _ => none

theorem loopL_sound {P : Program} {Pm S : Type} [Inhabited S] {b : Code} {E : St T.R → Out T} (hb : CodeSound T P b E) (d : Lp) (I : Pm → S → St T.R) (toV : Pm → S → List (Vl T.R))
    {ofV : List (Vl T.R) → Option (Pm × S)} {rt : Pm → S → Tr (Rs T.R S)}
    (h0 : allWhole d.dirt 0 d.n0 d.tm.heap = true)
    (h1 : ∀ p s, bld d.tm (toV p s) = some (I p s))
    (h2 : ∀ l p s, ofV l = some (p, s) → l = toV p s)
    (h3 : ∀ p s, ∃ u, cvE d (E (I p s)) = some u ∧ ((rt p s).ok → u.ok) ∧ u.get = (rt p s).get.map (toV p))
    (h4 : ∀ p s s1, outH d.dirt d.n0 (rt p s) = repH (maskH d.dirt 0 d.n0 (I p s1).heap) (rt p s)) :
    CodeSound T P (.loop b) (loopL d ofV rt) := by
  intro st t ht hok
  unfold loopL at ht
  split at ht
  case h_2 => cases ht
  rename_i s1 hn0 hp1
  have hn0 := beqN_iff.1 hn0
  split at ht
  case h_2 => cases ht
  rename_i nd l hrd
  split at ht
  case h_2 => cases ht
  rename_i p s hof
  split at ht
  case h_2 => cases ht
  rename_i tt htt
  obtain ⟨hnd, u, hu, hokv, hgetv⟩ := needing_spec ht hok
  cases hu
  obtain ⟨hLT, hokt⟩ := hokv
  rw [← hgetv]
  show Grow st (Tr.need _ (tt.map (finL d st))).get.2 ∧ _
  simp only [Tr.get, Tr.map_get]
  obtain ⟨lok, ex, sl, hp, lget⟩ := hLT.last
  obtain ⟨_, tget⟩ := outT_spec htt lget
  rw [tget]
  obtain ⟨a1, a2, a3, a4⟩ := prep_spec hp1
  obtain ⟨s', b1, b2, b3, b4⟩ := rdSt_bld hrd hnd
  have hl := h2 l p s hof
  rw [hl, h1] at b1
  cases b1
  -- the state at the end, and its length
  obtain ⟨u, hu, huok, huget⟩ := h3 p (lastS (rt p) s)
  have hlen : d.n0 ≤ hp.length ∧ sl.length = st.slots.length := by
    unfold cvE at hu
    split at hu
    · rename_i t0 ht0
      obtain ⟨t0ok, q⟩ := cvO_spec hu (huok lok)
      rw [huget, lget] at q
      rcases q with ⟨v, s', e, _⟩ | ⟨ex', sl', hp', e, _, _, _, e2, e3⟩
      · cases e
      · cases e
        obtain ⟨g, _⟩ := hb _ _ ht0 t0ok
        refine ⟨e2, e3.trans (g.slen.trans ?_)⟩
        rw [bld_slots (h1 p (lastS (rt p) s))]
        unfold rdSt at hrd
        split at hrd
        · rename_i hn _ _
          have := beqN_iff.1 hn
          omega
        · cases hrd
    · cases hu
  have hle : st.heap.length ≤ hp.length := by omega
  refine ⟨⟨?_, hlen.2, fun n hn => List.mem_append_right _ hn, fun n hn => List.mem_append_right _ hn, fun n hn hnd => ?_, fun n hn => ?_⟩, ?_⟩
  · show _ ≤ (ovl d.dirt 0 st.heap hp).length
    rw [ovl_length hle]; exact hle
  · show (ovl d.dirt 0 st.heap hp)[n]? = _
    rw [ovl_get hle hn, Nat.zero_add]
    have : mem n d.dirt = false := by
      cases hm : mem n d.dirt with
      | false => rfl
      | true => exact absurd (List.mem_append_left _ (mem_iff.1 hm)) hnd
    rw [this]; rfl
  · show sl[n]? = _
    have hge : ¬ n < st.slots.length := fun x => hn (List.mem_append_left _ (List.mem_range.2 x))
    rw [List.getElem?_eq_none (by omega), List.getElem?_eq_none (by omega)]
  · intro K w0 ρ a w Q hr hQ
    have hlρ : ρ.length = d.n0 := hr.inv.len.trans hn0
    -- from the last state's form to the contract's
    have hfin : WkB T d.n0 (⟨sl, hp, [], []⟩ : St T.R) (finL d st (ex, sl, hp)).2 := by
      intro K w0 ρ0 ρ a w _ hpre r
      refine ⟨ρ, hpre, ⟨r.size, r.defers, r.slots, ?_⟩⟩
      refine r.inv.weak (HOws.of (ovl_length hle) ?_)
      intro i o o' ho ho'
      by_cases hi : i < st.heap.length
      · have ho' : (ovl d.dirt 0 st.heap hp)[i]? = some o' := ho'
        rw [ovl_get hle hi, Nat.zero_add] at ho'
        cases hm : mem i d.dirt with
        | true =>
          rw [hm] at ho'
          have ho' : hp[i]? = some o' := ho'
          have ho : hp[i]? = some o := ho
          rw [ho] at ho'
          cases ho'
          exact .refl _
        | false =>
          rw [hm] at ho'
          have ho' : st.heap[i]? = some o' := ho'
          have ho : hp[i]? = some o := ho
          have e4 := outH_spec (h4 p (lastS (rt p) s) s) lget
          have hIl : d.n0 ≤ (I p s).heap.length := by omega
          have e5 := maskH_get (j := i) e4 (by omega) hlen.1 hIl (by rwa [Nat.zero_add])
          obtain ⟨pt, hpt, hw⟩ := allWhole_spec (j := i) h0 (by omega) (by rwa [Nat.zero_add])
          obtain ⟨x, y, q1, q2, q3⟩ := b4 i pt hpt hw
          rw [a4 i hi (fun k => by rw [mem_iff.2 k] at hm; cases hm), ho'] at q1
          cases q1
          rw [← e5, ho] at q2
          cases q2
          exact q3
      · have ho' : (ovl d.dirt 0 st.heap hp)[i]? = some o' := ho'
        rw [ovl_high hle (by omega)] at ho'
        have ho : hp[i]? = some o := ho
        rw [ho] at ho'
        cases ho'
        exact .refl _
    obtain ⟨ρ1, p1, r1⟩ := a1 d.n0 K w0 ρ ρ a w hlρ (Pre.refl _) hr
    obtain ⟨ρ2, p2, r2⟩ := b2 d.n0 K w0 ρ ρ1 a w hlρ p1 r1
    have key : ∀ s, LT (rt p) s → lastS (rt p) s = lastS (rt p) s → (rt p (lastS (rt p) s)).get = .out ex sl hp → ∃ n, ∀ ρ' a w, Pre ρ ρ' → StRel T K w0 ρ' (I p s) a w → Code.rounds P b Q n a w := by
      intro s hs
      induction hs with
      | @out s ex' sl' hp' k1 k2 =>
        intro _ he
        refine ⟨1, fun ρ' a w hpre hr => ?_⟩
        rw [lastS_out k2, k2] at he
        cases he
        obtain ⟨u, hu, huok, huget⟩ := h3 p s
        unfold cvE at hu
        split at hu
        · rename_i t0 ht0
          obtain ⟨t0ok, q⟩ := cvO_spec hu (huok k1)
          rw [huget, k2] at q
          rcases q with ⟨v, s', e, _⟩ | ⟨ex', sl', hp', e, e1, e2, e3, _⟩
          · cases e
          · cases e
            obtain ⟨_, run⟩ := hb _ _ ht0 t0ok
            rw [rounds_succ]
            refine run K w0 ρ' a w _ hr fun ρ3 a3 w3 p3 r3 => ?_
            obtain ⟨ρ4, p4, r4⟩ := e3 K w0 ρ ρ3 a3 w3 hlρ (hpre.trans p3) r3
            obtain ⟨ρ5, p5, r5⟩ := hfin K w0 ρ ρ4 a3 w3 hlρ p4 r4
            have := hQ ρ5 a3 w3 p5 r5
            rw [e1]
            cases ex with
            | normal => exact absurd rfl e2
            | exit id => exact this
            | ret => exact this
        · cases hu
      | @on s s' k1 k2 k3 ih =>
        intro _ he
        rw [lastS_on k2] at he
        obtain ⟨n, hn⟩ := ih rfl he
        refine ⟨n + 1, fun ρ' a w hpre hr => ?_⟩
        obtain ⟨u, hu, huok, huget⟩ := h3 p s
        unfold cvE at hu
        split at hu
        · rename_i t0 ht0
          obtain ⟨t0ok, q⟩ := cvO_spec hu (huok k1)
          rw [huget, k2] at q
          rcases q with ⟨v, s'', e, e1, e2, e3⟩ | ⟨ex', sl', hp', e, _⟩
          · cases e
            rw [h1] at e2
            cases e2
            obtain ⟨_, run⟩ := hb _ _ ht0 t0ok
            rw [rounds_succ]
            refine run K w0 ρ' a w _ hr fun ρ3 a3 w3 p3 r3 => ?_
            obtain ⟨ρ4, p4, r4⟩ := e3 K w0 ρ ρ3 a3 w3 hlρ (hpre.trans p3) r3
            rw [e1]
            exact hn ρ4 a3 w3 p4 r4
          · cases e
        · cases hu
    obtain ⟨n, hn⟩ := key s hLT rfl lget
    exact wp_loop_rounds n (hn ρ2 a w p2 r2)
end
end Go.Sx

namespace Go.Sx
open Go.RowKit

/-! ### Hints of many loops; contracts by templates -/
def lookL {α : Type} : List (Nat × α) → Nat → Option α
  | [], _ => none
  | (a, b) :: l, n => match beqN a n with
    | true => some b
    | false => lookL l n
section
variable {P : Program} {T : Theory}
def autoH (ls : List (Nat × (St T.R → Out T))) (unr : List (Nat × Nat)) (lits keep : List Nat) : Hints T :=
  { loops := lookL ls, unroll := lookN unr, lits := fun n => mem n lits, regs := fun _ => none, keep := keep }
theorem autoH_ok {ls : List (Nat × (St T.R → Out T))} {unr : List (Nat × Nat)} {lits keep : List Nat} {c : Code} {bs : List Code} (hc : loopsL c = bs)
    (h : ∀ b, b ∈ bs → ∀ L, lookL ls (firstReg b) = some L → CodeSound T P (.loop b) L) : LoopsOk T P (autoH ls unr lits keep) c :=
  LoopsOk_mem (fun _ => rfl) c fun b hb L hL => h b (by rw [← hc]; exact hb) L hL
theorem fnLoops {k : Nat} {H : Hints T} (h : LoopsOk T P H (bodyOf P k)) : ∀ fn c, P.funcs[k]? = some fn → fn.body = some c → LoopsOk T P H c := by
  intro fn c hf hb
  have e : bodyOf P k = c := by unfold bodyOf; rw [hf]; simp only [hb]
  rw [← e]; exact h
structure Ft where
  args : List Pt
  heap : List HPt
def bldF {R : Type} (d : Ft) (l : List (Vl R)) : Option (List SV × List (HO R)) := match mkL d.args l with
  | some (a, l) => match mkH d.heap l with
    | some (h, []) => some (a, h)
    | _ => none
  | none => none
def allW : List HPt → Bool
  | [] => true
  | p :: ps => match whole p with
    | true => allW ps
    | false => false
theorem allW_spec : ∀ {ps : List HPt}, allW ps = true → ∀ (n:Nat) p, ps[n]? = some p → whole p = true
  | [], _, n, p, h => by simp at h
  | q :: ps, h, n, p, hn => by
    simp only [allW] at h
    split at h
    · rename_i hq
      cases n with
      | zero => simp at hn; subst hn; exact hq
      | succ n => exact allW_spec h n p (by simpa using hn)
    · cases h
def fixF {R : Type} (h : List (HO R)) (r : Fin R) : Fin R := (r.1, ovl r.2.2 0 h r.2.1, r.2.2)
def fnC {V : Type} (d : Ft) (ofV : List (Vl T.R) → Option V) (f : V → Tr (Fin T.R)) : CF T.R := fun args h =>
  match rdL d.args args, rdH d.heap h with
  | some a, some (nd, b) => match ofV (a ++ b) with
    | some v => needing nd (some ((f v).map (fixF h)))
    | none => none
  | _, _ => none
theorem rdH_length {R : Type} : ∀ {ps : List HPt} {h : List (HO R)} {r}, rdH ps h = some r → ps.length = h.length
  | [], [], _, _ => rfl
  | [], _ :: _, _, h => by cases h
  | _ :: _, [], _, h => by cases h
  | p :: ps, o :: os, r, h => by
    simp only [rdH] at h
    split at h
    · rename_i h2
      simp [rdH_length h2]
    · cases h
def setD {R : Type} (d : List Nat) (r : Fin R) : Fin R := (r.1, r.2.1, d)
def allIn (n0:Nat) (d : List Nat) : List Nat → Bool
  | [] => true
  | n :: l => match mem n d, Nat.decLt n n0 with
    | false, isTrue _ => false
    | _, _ => allIn n0 d l
theorem allIn_spec {n0 : Nat} {d : List Nat} : ∀ {l : List Nat}, allIn n0 d l = true → ∀ n, n < n0 → n ∈ l → n ∈ d
  | [], _, n, _, h => by cases h
  | m :: l, h, n, h0, hn => by
    simp only [allIn] at h
    split at h
    · cases h
    · rename_i hne
      rcases List.mem_cons.1 hn with rfl | hn
      · cases hm : mem n d with
        | true => exact mem_iff.1 hm
        | false =>
          cases hd : Nat.decLt n n0 with
          | isTrue q => exact absurd hd (hne q hm)
          | isFalse q => exact absurd h0 q
      · exact allIn_spec h n h0 hn
def allD {R : Type} (n0:Nat) (d : List Nat) : Tr (Fin R) → Bool
  | .leaf r => allIn n0 d r.2.2
  | .need _ x => allD n0 d x
  | .ite _ x y => match allD n0 d x with
    | true => allD n0 d y
    | false => false
theorem allD_spec {R : Type} {n0 : Nat} {d : List Nat} : ∀ {t : Tr (Fin R)}, allD n0 d t = true → ∀ n, n < n0 → n ∈ t.get.2.2 → n ∈ d
  | .leaf r, h, n, h0, hn => allIn_spec h n h0 hn
  | .need _ x, h, n, h0, hn => allD_spec (t := x) h n h0 hn
  | .ite c x y, h, n, h0, hn => by
    simp only [allD] at h
    split at h
    · rename_i hx
      cases c with
      | true => exact allD_spec hx n h0 hn
      | false => exact allD_spec h n h0 hn
    · cases h
theorem fnC_sound {k : Nat} {E : CF T.R} (hE : Sound P T k E) {V : Type} (d : Ft) (A : V → List SV) (Hp : V → List (HO T.R)) (toV : V → List (Vl T.R))
    {ofV : List (Vl T.R) → Option V} {f : V → Tr (Fin T.R)} (h0 : allW d.heap = true) (h1 : ∀ v, bldF d (toV v) = some (A v, Hp v)) (h2 : ∀ l v, ofV l = some v → l = toV v)
    (dd : List Nat) (h3 : ∀ v, ∃ u, E (A v) (Hp v) = some u ∧ ((f v).ok → u.ok) ∧ (u.map (setD dd)).get = (f v).get ∧ allD d.heap.length dd u = true) : Sound P T k (fnC d ofV f) := by
  intro args h t ht hok
  unfold fnC at ht
  split at ht
  case h_2 => cases ht
  rename_i a nd b ha hb
  split at ht
  case h_2 => cases ht
  rename_i v hv
  obtain ⟨hnd, u, hu, hok, hget⟩ := needing_spec ht hok
  cases hu
  rw [← hget, Tr.map_get]
  have hok := (Tr.map_ok _ _).1 hok
  obtain ⟨u, e1, e2, e3, e4⟩ := h3 v
  rw [Tr.map_get] at e3
  have e4 := allD_spec e4
  have hl := h2 _ _ hv
  obtain ⟨h', q1, q2, q3⟩ := rdH_mk hb hnd []
  have hbl := h1 v
  rw [← hl] at hbl
  unfold bldF at hbl
  rw [rdL_mk _ _ a b ha] at hbl
  rw [List.append_nil] at q1
  simp only [q1, Option.some.injEq, Prod.mk.injEq] at hbl
  obtain ⟨rfl, rfl⟩ := hbl
  obtain ⟨hcall, hlen, hfr⟩ := hE _ _ u e1 (e2 hok)
  have e31 : (f v).get.1 = u.get.1 := by rw [← e3]; rfl
  have e32 : (f v).get.2.1 = u.get.2.1 := by rw [← e3]; rfl
  have e33 : (f v).get.2.2 = dd := by rw [← e3]; rfl
  rw [← e32] at hcall hlen hfr
  rw [← e31] at hcall
  have hfr : ∀ n, n < (Hp v).length → n ∉ (f v).get.2.2 → (f v).get.2.1[n]? = (Hp v)[n]? := fun n hn hd => hfr n hn fun k => hd (by rw [e33]; exact e4 n (by rw [rdH_length hb, ← q2.length]; exact hn) k)
  have hll : h.length = (Hp v).length := q2.length.symm
  have hle : h.length ≤ (f v).get.2.1.length := by omega
  refine ⟨fun K w0 ρ w vargs I hr => (hcall K w0 ρ w vargs (I.weak q2) hr).mono ?_, ?_, ?_⟩
  · rintro e w' ⟨ρ', cv, rfl, hp, I', hv'⟩
    refine ⟨ρ', cv, rfl, hp, I'.weak (HOws.of (ovl_length hle) ?_), hv'⟩
    intro i o o' ho ho'
    by_cases hi : i < h.length
    · have ho' : (ovl (f v).get.2.2 0 h (f v).get.2.1)[i]? = some o' := ho'
      rw [ovl_get hle hi, Nat.zero_add] at ho'
      cases hm : mem i (f v).get.2.2 with
      | true =>
        rw [hm] at ho'
        have ho' : (f v).get.2.1[i]? = some o' := ho'
        rw [ho] at ho'
        cases ho'
        exact .refl _
      | false =>
        rw [hm] at ho'
        have ho' : h[i]? = some o' := ho'
        rw [hfr i (by omega) (fun k => by rw [mem_iff.2 k] at hm; cases hm)] at ho
        have hpl := rdH_length hb
        have hpt : d.heap[i]? = some d.heap[i] := List.getElem?_eq_getElem (by omega)
        obtain ⟨x, y, r1, r2, r3⟩ := q3 i _ hpt (allW_spec h0 i _ hpt)
        rw [ho'] at r1
        cases r1
        rw [ho] at r2
        cases r2
        exact r3
    · have ho' : (ovl (f v).get.2.2 0 h (f v).get.2.1)[i]? = some o' := ho'
      rw [ovl_high hle (by omega)] at ho'
      rw [ho] at ho'
      cases ho'
      exact .refl _
  · show h.length ≤ (ovl (f v).get.2.2 0 h (f v).get.2.1).length
    rw [ovl_length hle]; exact hle
  · intro n hn hd
    show (ovl (f v).get.2.2 0 h (f v).get.2.1)[n]? = h[n]?
    rw [ovl_get hle hn, Nat.zero_add]
    have : mem n (f v).get.2.2 = false := by
      cases hm : mem n (f v).get.2.2 with
      | false => rfl
      | true => exact absurd (mem_iff.1 hm) hd
    rw [this]; rfl
theorem fnC_refine {k : Nat} {V : Type} {d : Ft} {ofV : List (Vl T.R) → Option V} {f f' : V → Tr (Fin T.R)} (hf : Sound P T k (fnC d ofV f))
    (hr : ∀ v, (f' v).ok → (f v).ok ∧ (f' v).get.1 = (f v).get.1 ∧ (f' v).get.2.2 = (f v).get.2.2 ∧ HOws (f v).get.2.1 (f' v).get.2.1 ∧ d.heap.length ≤ (f' v).get.2.1.length) : Sound P T k (fnC d ofV f') := by
  refine fn_weak hf ?_
  intro args h t ht hok
  unfold fnC at ht
  split at ht
  case h_2 => cases ht
  rename_i a nd b ha hb
  split at ht
  case h_2 => cases ht
  rename_i v hv
  obtain ⟨hnd, u, hu, hok, hget⟩ := needing_spec ht hok
  cases hu
  rw [← hget, Tr.map_get]
  have hok := (Tr.map_ok _ _).1 hok
  obtain ⟨r1, r2, r3, r4, r5⟩ := hr v hok
  obtain ⟨u, hu, uok, uget⟩ : ∃ u, fnC d ofV f args h = some u ∧ u.ok ∧ u.get = fixF h (f v).get := by
    unfold fnC
    rw [ha, hb]
    dsimp only
    rw [hv]
    cases nd with
    | none => exact ⟨_, rfl, (Tr.map_ok _ _).2 r1, Tr.map_get _ _⟩
    | some p => exact ⟨_, rfl, ⟨hnd, (Tr.map_ok _ _).2 r1⟩, Tr.map_get _ _⟩
  have e5 := r4.length
  have e6 := rdH_length hb
  have hle : h.length ≤ (f v).get.2.1.length := by omega
  have hle' : h.length ≤ (f' v).get.2.1.length := by omega
  refine ⟨u, hu, uok, by rw [uget]; exact r2.symm, ?_, ?_, ?_⟩
  · rw [uget]
    show HOws (ovl (f v).get.2.2 0 h (f v).get.2.1) (ovl (f' v).get.2.2 0 h (f' v).get.2.1)
    rw [r3]
    refine HOws.of (by rw [ovl_length hle, ovl_length hle', e5]) ?_
    intro i o o' ho ho'
    by_cases hi : i < h.length
    · rw [ovl_get hle hi] at ho
      rw [ovl_get hle' hi] at ho'
      cases hm : mem (0 + i) (f v).get.2.2 with
      | true =>
        rw [hm] at ho ho'
        have ho : (f v).get.2.1[i]? = some o := ho
        have ho' : (f' v).get.2.1[i]? = some o' := ho'
        obtain ⟨o1, q1, q2⟩ := r4.get ho'
        rw [ho] at q1
        cases q1
        exact q2
      | false =>
        rw [hm] at ho ho'
        have ho : h[i]? = some o := ho
        have ho' : h[i]? = some o' := ho'
        rw [ho] at ho'
        cases ho'
        exact .refl _
    · rw [ovl_high hle (by omega)] at ho
      rw [ovl_high hle' (by omega)] at ho'
      obtain ⟨o1, q1, q2⟩ := r4.get ho'
      rw [ho] at q1
      cases q1
      exact q2
  · show h.length ≤ (ovl (f' v).get.2.2 0 h (f' v).get.2.1).length
    rw [ovl_length hle']; exact hle'
  · intro n hn hd
    show (ovl (f' v).get.2.2 0 h (f' v).get.2.1)[n]? = h[n]?
    rw [ovl_get hle' hn, Nat.zero_add]
    have : mem n (f' v).get.2.2 = false := by
      cases hm : mem n (f' v).get.2.2 with
      | false => rfl
      | true => exact absurd (mem_iff.1 hm) hd
    rw [this]; rfl
end
end Go.Sx

namespace Go.Sx
open Go.RowKit
section
variable {P : Program} {T : Theory}
theorem fnC_direct {k : Nat} {V : Type} (d : Ft) (A : V → List SV) (Hp : V → List (HO T.R)) (toV : V → List (Vl T.R))
    {ofV : List (Vl T.R) → Option V} {f : V → Tr (Fin T.R)} (h0 : allW d.heap = true) (h1 : ∀ v, bldF d (toV v) = some (A v, Hp v)) (h2 : ∀ l v, ofV l = some v → l = toV v)
    (h3 : ∀ v, (f v).ok → ∀ K w0 ρ w vargs, Inv T K w0 ρ (Hp v) w → RelL ρ (A v) vargs → Calls P k vargs.toArray w fun e w' => ∃ ρ' cv, e = .returned cv ∧ Pre ρ ρ' ∧ Inv T K w0 ρ' (f v).get.2.1 w' ∧ Rel ρ' (f v).get.1 cv)
    (h4 : ∀ v, (f v).ok → (Hp v).length ≤ (f v).get.2.1.length) (h5 : ∀ v, (f v).ok → ∀ n, n < (Hp v).length → n ∉ (f v).get.2.2 → (f v).get.2.1[n]? = (Hp v)[n]?) : Sound P T k (fnC d ofV f) := by
  intro args h t ht hok
  unfold fnC at ht
  split at ht
  case h_2 => cases ht
  rename_i a nd b ha hb
  split at ht
  case h_2 => cases ht
  rename_i v hv
  obtain ⟨hnd, u, hu, hok, hget⟩ := needing_spec ht hok
  cases hu
  rw [← hget, Tr.map_get]
  have hok := (Tr.map_ok _ _).1 hok
  have hl := h2 _ _ hv
  obtain ⟨h', q1, q2, q3⟩ := rdH_mk hb hnd []
  have hbl := h1 v
  rw [← hl] at hbl
  unfold bldF at hbl
  rw [rdL_mk _ _ a b ha] at hbl
  rw [List.append_nil] at q1
  simp only [q1, Option.some.injEq, Prod.mk.injEq] at hbl
  obtain ⟨rfl, rfl⟩ := hbl
  have hcall := h3 v hok
  have hlen := h4 v hok
  have hfr := h5 v hok
  have hll : h.length = (Hp v).length := q2.length.symm
  have hle : h.length ≤ (f v).get.2.1.length := by omega
  refine ⟨fun K w0 ρ w vargs I hr => (hcall K w0 ρ w vargs (I.weak q2) hr).mono ?_, ?_, ?_⟩
  · rintro e w' ⟨ρ', cv, rfl, hp, I', hv'⟩
    refine ⟨ρ', cv, rfl, hp, I'.weak (HOws.of (ovl_length hle) ?_), hv'⟩
    intro i o o' ho ho'
    by_cases hi : i < h.length
    · have ho' : (ovl (f v).get.2.2 0 h (f v).get.2.1)[i]? = some o' := ho'
      rw [ovl_get hle hi, Nat.zero_add] at ho'
      cases hm : mem i (f v).get.2.2 with
      | true =>
        rw [hm] at ho'
        have ho' : (f v).get.2.1[i]? = some o' := ho'
        rw [ho] at ho'
        cases ho'
        exact .refl _
      | false =>
        rw [hm] at ho'
        have ho' : h[i]? = some o' := ho'
        rw [hfr i (by omega) (fun k => by rw [mem_iff.2 k] at hm; cases hm)] at ho
        have hpl := rdH_length hb
        have hpt : d.heap[i]? = some d.heap[i] := List.getElem?_eq_getElem (by omega)
        obtain ⟨x, y, r1, r2, r3⟩ := q3 i _ hpt (allW_spec h0 i _ hpt)
        rw [ho'] at r1
        cases r1
        rw [ho] at r2
        cases r2
        exact r3
    · have ho' : (ovl (f v).get.2.2 0 h (f v).get.2.1)[i]? = some o' := ho'
      rw [ovl_high hle (by omega)] at ho'
      rw [ho] at ho'
      cases ho'
      exact .refl _
  · show h.length ≤ (ovl (f v).get.2.2 0 h (f v).get.2.1).length
    rw [ovl_length hle]; exact hle
  · intro n hn hd
    show (ovl (f v).get.2.2 0 h (f v).get.2.1)[n]? = h[n]?
    rw [ovl_get hle hn, Nat.zero_add]
    have : mem n (f v).get.2.2 = false := by
      cases hm : mem n (f v).get.2.2 with
      | false => rfl
      | true => exact absurd (mem_iff.1 hm) hd
    rw [this]; rfl
theorem fnC_out {k : Nat} {C : CF T.R} (hC : Sound P T k C) {args : List SV} {h : List (HO T.R)} {t : Tr (Fin T.R)} (hc : C args h = some t) (hok : t.ok)
    {K : Nat → Prop} {w0 w : World} {ρ : Env} {vargs : List Value} (I : Inv T K w0 ρ h w) (hr : RelL ρ args vargs) :
    Calls P k vargs.toArray w fun e w' => ∃ ρ' cv, e = .returned cv ∧ Pre ρ ρ' ∧ Inv T K w0 ρ' t.get.2.1 w' ∧ Rel ρ' t.get.1 cv := (hC _ _ _ hc hok).1 K w0 ρ w vargs I hr
def NoRo {R : Type} : List (HO R) → Prop
  | [] => True
  | .ro _ _ _ _ _ :: _ => False
  | _ :: r => NoRo r
theorem NoRo.get {R : Type} : ∀ {l : List (HO R)} {n : Nat} {t sz len : Nat} {el : Nat → List SV} {ob : Obj}, NoRo l → l[n]? = some (.ro t sz len el ob) → False
  | [], _, _, _, _, _, _, _, h => by simp at h
  | o :: r, 0, _, _, _, _, _, hr, h => by
    simp at h
    subst h
    exact hr
  | o :: r, n + 1, t, sz, len, el, ob, hr, h => by
    have h : r[n]? = some (.ro t sz len el ob) := by simpa using h
    cases o with
    | ro => exact hr
    | gone => exact NoRo.get (l := r) hr h
    | cells => exact NoRo.get (l := r) hr h
    | row => exact NoRo.get (l := r) hr h
    | res => exact NoRo.get (l := r) hr h
end
end Go.Sx

namespace Go.Sx
open Go.RowKit Go.ChangeShapes Go.WideShapes Go.Deep

/-! ### Arguments: what a reading says of the cells -/
def okC : Ck → Value → Prop
  | .int k, v => ∃ x, v = .int k x ∧ (Lit.int k x).wf = true
  | .bool, v => ∃ b, v = .bool b
  | .str, v => ∃ s : ByteArray, v = .string s ∧ s.size ≤ maxLen
inductive AllOk : List Ck → List Value → Prop
  | nil : AllOk [] []
  | cons {k : Ck} {v : Value} {ks : List Ck} {vs : List Value} : okC k v → AllOk ks vs → AllOk (k :: ks) (v :: vs)
theorem AllOk.length {ks : List Ck} {vs : List Value} (h : AllOk ks vs) : vs.length = ks.length := by
  induction h with
  | nil => rfl
  | cons _ _ ih => simp [ih]
theorem AllOk.append {ks ls : List Ck} {vs us : List Value} (h : AllOk ks vs) (k : AllOk ls us) : AllOk (ks ++ ls) (vs ++ us) := by
  induction h with
  | nil => exact k
  | cons a _ ih => exact .cons a ih
theorem AllOk.get {ks : List Ck} {vs : List Value} (h : AllOk ks vs) : ∀ {c : Nat} {k : Ck}, ks[c]? = some k → ∃ v, vs[c]? = some v ∧ okC k v := by
  induction h with
  | nil => intro c k h; simp at h
  | cons a _ ih =>
    intro c k h
    cases c with
    | zero => simp at h; subst h; exact ⟨_, rfl, a⟩
    | succ c => simp at h; simpa using ih h
def svV : Value → SV
  | .int k x => .int k x
  | .bool b => .bool b
  | .string s => .str s
  | _ => .nilp
theorem AllOk.rel {ks : List Ck} {vs : List Value} (h : AllOk ks vs) (ρ : Env) : RelL ρ (vs.map svV) vs := by
  induction h with
  | nil => rfl
  | @cons k v ks vs a _ ih =>
    refine ⟨v, vs, rfl, ?_, ih⟩
    cases k
    · obtain ⟨x, rfl, _⟩ := a; rfl
    · obtain ⟨x, rfl⟩ := a; rfl
    · obtain ⟨x, rfl, _⟩ := a; rfl
theorem AllOk.one {ks : List Ck} {vs : List Value} (h : AllOk ks vs) : ∀ v, v ∈ vs → v.oneCell' = true := by
  induction h with
  | nil => intro v hv; simp at hv
  | @cons k v ks vs a _ ih =>
    intro u hu
    rcases List.mem_cons.1 hu with rfl | hu
    · cases k
      · obtain ⟨x, rfl, _⟩ := a; rfl
      · obtain ⟨x, rfl⟩ := a; rfl
      · obtain ⟨x, rfl, _⟩ := a; rfl
    · exact ih u hu
def repK (ks : List Ck) : Nat → List Ck
  | 0 => []
  | n + 1 => ks ++ repK ks n
def flatF (P : Program) (rec : TypeId → Option (List Ck)) : Nat → List Field → Option (List Ck)
  | o, [] => some []
  | o, f :: fs => match beqN f.offset o, rec f.type, flatF P rec (o + P.cellsOf f.type) fs with
    | true, some a, some b => match beqN a.length (P.cellsOf f.type) with
      | true => some (a ++ b)
      | false => none
    | _, _, _ => none
def flatK (P : Program) : Nat → TypeId → Option (List Ck)
  | 0, _ => none
  | n + 1, t => match P.underlying t with
    | some .bool => some [.bool]
    | some (.int k) => some [.int k]
    | some .string => some [.str]
    | some (.struct fs) => match flatF P (flatK P n) 0 fs.toList with
      | some ks => match beqN ks.length (P.cellsOf t) with
        | true => some ks
        | false => none
      | none => none
    | some (.array m e) => match flatK P n e with
      | some ks => match beqN (P.cellsOf t) (m * P.cellsOf e), beqN ks.length (P.cellsOf e) with
        | true, true => some (repK ks m)
        | _, _ => none
      | none => none
    | _ => none
section
variable {H : Type} {enc : TypeId × Value → H} {P : Program} {w : World} {base : Nat} {spare : Nat → Bool} {held : Bool}
theorem flatF_ok {rec : TypeId → Option (List Ck)} {cs : List Value} (hr : ∀ (f : Field) ks, rec f.type = some ks → f.offset + P.cellsOf f.type ≤ cs.length → (∃ n x, DataW.trod enc P w base spare held n f.type ((cs.drop f.offset).take (P.cellsOf f.type)) = some x) → AllOk ks ((cs.drop f.offset).take (P.cellsOf f.type))) :
    ∀ (fs : List Field) (o:Nat) (ks : List Ck), flatF P rec o fs = some ks → (∀ f, f ∈ fs → ∃ n x, DataW.trod enc P w base spare held n f.type ((cs.drop f.offset).take (P.cellsOf f.type)) = some x) →
      o + ks.length ≤ cs.length → AllOk ks ((cs.drop o).take ks.length)
  | [], o, ks, h, _, _ => by simp only [flatF, Option.some.injEq] at h; subst h; simpa using AllOk.nil
  | f :: fs, o, ks, h, ht, hle => by
    simp only [flatF] at h
    split at h
    · rename_i a b h1 h2 h3
      split at h
      case h_2 => cases h
      rename_i hla
      cases h
      have ho := beqN_iff.1 h1
      have la := beqN_iff.1 hla
      simp only [List.length_append] at hle
      have A := hr f a h2 (by omega) (ht f List.mem_cons_self)
      rw [ho, ← la] at A
      rw [← la] at h3
      have B := flatF_ok hr fs (o + a.length) b h3 (fun g hg => ht g (List.mem_cons_of_mem _ hg)) (by omega)
      have e : (cs.drop o).take (a ++ b).length = (cs.drop o).take a.length ++ (cs.drop (o + a.length)).take b.length := by
        rw [List.length_append, List.take_add, List.drop_drop]
      rw [e]
      exact A.append B
    · cases h
theorem rep_ok {ks : List Ck} {s : Nat} (hs : ks.length = s) : ∀ (m o:Nat) (cs : List Value), (∀ i, i < m → AllOk ks ((cs.drop (o + i * s)).take s)) → AllOk (repK ks m) ((cs.drop o).take (m * s))
  | 0, o, cs, _ => by simpa [repK] using AllOk.nil
  | m + 1, o, cs, h => by
    have A := h 0 (by omega)
    rw [Nat.zero_mul, Nat.add_zero] at A
    have B := rep_ok hs m (o + s) cs fun i hi => by
      have := h (i + 1) (by omega)
      rwa [show o + (i + 1) * s = o + s + i * s by rw [Nat.add_mul]; omega] at this
    have e : (cs.drop o).take ((m + 1) * s) = (cs.drop o).take s ++ (cs.drop (o + s)).take (m * s) := by
      rw [show (m + 1) * s = s + m * s by rw [Nat.add_mul]; omega, List.take_add, List.drop_drop]
    rw [e]
    exact A.append B
theorem flatK_ok : ∀ (n:Nat) (t : TypeId) (ks : List Ck), flatK P n t = some ks → ∀ {m : Nat} {cs : List Value} {x : DataW H × List MemPlace}, DataW.trod enc P w base spare held m t cs = some x → AllOk ks cs
  | 0, t, ks, h, _, _, _, _ => by cases h
  | n + 1, t, ks, h, m, cs, x, hx => by
    simp only [flatK] at h
    split at h
    · rename_i ht; cases h
      obtain ⟨b, rfl, _⟩ := DataW.trod_bool ht hx
      exact .cons ⟨b, rfl⟩ .nil
    · rename_i k ht; cases h
      obtain ⟨b, rfl, _, hw⟩ := DataW.trod_int ht hx
      exact .cons ⟨b, rfl, hw⟩ .nil
    · rename_i ht; cases h
      obtain ⟨b, rfl, _, hw⟩ := DataW.trod_string ht hx
      exact .cons ⟨b, rfl, hw⟩ .nil
    · rename_i fs ht
      split at h
      · rename_i ks' hf
        split at h
        · rename_i hl
          cases h
          have hl := beqN_iff.1 hl
          obtain ⟨xs, k, _, _, hlen, hxs, hg⟩ := DataW.trod_struct ht hx
          have key : ∀ f, f ∈ fs.toList → ∃ y, DataW.trod enc P w base spare held k f.type ((cs.drop f.offset).take (P.cellsOf f.type)) = some y := by
            intro f hf
            obtain ⟨i, hi⟩ := List.mem_iff_getElem?.1 hf
            have hi' : fs[i]? = some f := by simpa using hi
            have hlt : i < xs.length := by rw [hxs]; exact (Array.getElem?_eq_some_iff.1 hi').1
            exact ⟨xs[i], by rw [hg i f hi', List.getElem?_eq_getElem hlt]⟩
          have := flatF_ok (P := P) (rec := flatK P n) (enc := enc) (w := w) (base := base) (spare := spare) (held := held) (cs := cs) (fun f ls hk _ ⟨q, y, hy⟩ => flatK_ok n f.type ls hk hy) fs.toList 0 ks hf (fun f hf => ⟨k, key f hf⟩) (by omega)
          rw [List.drop_zero, List.take_of_length_le (by omega)] at this
          exact this
        · cases h
      · cases h
    · rename_i q e ht
      split at h
      · rename_i ks' hk
        split at h
        · rename_i hl hk2
          cases h
          have hl := beqN_iff.1 hl
          have hk2 := beqN_iff.1 hk2
          obtain ⟨xs, k, _, _, hlen, hxs, hg⟩ := DataW.trod_array ht hx
          have := rep_ok hk2 q 0 cs fun i hi => by
            rw [Nat.zero_add]
            exact flatK_ok n e ks' hk ((hg i hi).trans (List.getElem?_eq_getElem (by omega)))
          rw [List.drop_zero, List.take_of_length_le (by omega)] at this
          exact this
        · cases h
      · cases h
    · cases h
def elOf (cs : List Value) (sz:Nat) : Nat → List SV := fun i => ((cs.drop (i * sz)).take sz).map svV
theorem elC_ok {ks : List Ck} {el : Nat → List SV} {i : Nat} : ∀ {c : Nat} {vs : List Value}, AllOk ks vs → (∀ j, (el i)[c + j]? = (vs.map svV)[j]?) → elC el c ks i = vs.map svV
  | c, _, .nil, _ => rfl
  | c, _, @AllOk.cons k v ks vs a b, h => by
    have h0 := h 0
    simp only [Nat.add_zero, List.map_cons, List.getElem?_cons_zero] at h0
    have ih := elC_ok (c := c + 1) b fun j => by
      have := h (j + 1)
      rw [show c + (j + 1) = c + 1 + j by omega] at this
      simpa using this
    simp only [elC, List.map_cons, ih]
    congr 1
    cases k
    · obtain ⟨x, rfl, _⟩ := a
      simp only [svV] at h0 ⊢
      simp only [colI, h0]
    · obtain ⟨x, rfl⟩ := a
      simp only [svV] at h0 ⊢
      simp only [colB, h0]
    · obtain ⟨x, rfl, _⟩ := a
      simp only [svV] at h0 ⊢
      simp only [colS, h0]
theorem col_wf {ks : List Ck} {el : Nat → List SV} {i c : Nat} {k : IntKind} {vs : List Value} (h : AllOk ks vs) (hc : ks[c]? = some (.int k)) (he : el i = vs.map svV) : (Lit.int k (colI el c i)).wf = true := by
  obtain ⟨v, hv, x, rfl, hx⟩ := h.get hc
  have : (el i)[c]? = some (.int k x) := by rw [he, List.getElem?_map, hv]; rfl
  simp only [colI, this]
  exact hx
theorem open_rows {t e : TypeId} {ks : List Ck} (ht : P.underlying t = some (.slice e)) (hk : flatK P 20 e = some ks) (hz : 0 < ks.length) (hs : beqN ks.length (P.cellsOf e) = true) {v : Value} {d : DataW H} {ps : List MemPlace}
    (hv : v.cells.toList = [v]) (h : DataW.Trod enc P w 0 (fun _ => true) true t v d ps) :
    ∃ (l : Loc) (len:Nat) (ob : Obj) (el : Nat → List SV), Rel [l] (.slc 0 ks.length 0 len) v ∧ len ≤ maxLen ∧
      (len = 0 ∨ (l.nil = false ∧ len ≤ l.cap ∧ w.heap[l.blk]? = some ob ∧ ∃ (pre cs post : List Value) (fr : Nat × Nat × Nat), ob = .cells (pre ++ cs ++ post).toArray fr.1 fr.2 ∧ pre.length = l.off ∧ cs.length = len * ks.length ∧
        (∀ v, v ∈ cs → v.oneCell' = true) ∧ ∀ i, i < len → RelL [l] (elC el 0 ks i) ((cs.drop (i * ks.length)).take ks.length))) ∧
      ∀ i, i < len → ∀ (c:Nat) (k : IntKind), ks[c]? = some (.int k) → (Lit.int k (colI el c i)).wf = true := by
  have hs := beqN_iff.1 hs
  obtain ⟨n, hn⟩ := h
  rw [hv] at hn
  rcases open_slice ht hn with ⟨e1, _⟩ | ⟨a, len, cap, m, q, D, Pl, e1, _, hl, hm, hmm, _, hx⟩
  · simp only [List.cons.injEq, and_true] at e1
    subst e1
    exact ⟨⟨0, 0, true, 0⟩, 0, .cells #[] 0, fun _ => [], ⟨_, rfl, .inl ⟨rfl, rfl, rfl, rfl⟩⟩, Nat.zero_le _, .inl rfl, fun i hi => by omega⟩
  · simp only [List.cons.injEq, and_true] at e1
    subst e1
    simp only [if_true] at hmm
    subst hmm
    have each : ∀ i, i < m → ∃ cs', w.cells? 0 (a.add (i * P.cellsOf e)) (P.cellsOf e) = some cs' ∧ AllOk ks cs' := fun i hi => by
      obtain ⟨cs', h1, h2⟩ := hx i hi
      exact ⟨cs', h1, flatK_ok 20 e ks hk h2⟩
    by_cases hm0 : m = 0
    · subst hm0
      have : len = 0 := by omega
      subst this
      exact ⟨⟨0, 0, false, 0⟩, 0, .cells #[] 0, fun _ => [], ⟨_, rfl, .inr ⟨rfl, Nat.le_refl _, a, rfl, fun h => by simp at h⟩⟩, Nat.zero_le _, .inl rfl, fun i hi => by omega⟩
    · -- the block
      have hob : ∃ c t' fr, w.heap[a.block]? = some (.cells c t' fr) ∧ a.spot = none := by
        obtain ⟨cs', h1, h2⟩ := each 0 (by omega)
        obtain ⟨_, _, hat⟩ := World.cells?_some h1
        have hl2 := h2.length
        have hcell := hat 0 (by omega)
        rw [Nat.zero_mul, List.getElem?_eq_getElem (by omega)] at hcell
        unfold World.cell? at hcell
        simp only [Addr.add, if_true] at hcell
        split at hcell
        · rename_i c t' fr hh
          split at hcell
          · cases hcell
          · rename_i hno; exact ⟨c, t', fr, hh, by simpa using hno⟩
        · cases hcell
      obtain ⟨c, t', fr, hh, hsp⟩ := hob
      have cell : ∀ i j, i < m → j < ks.length → ∀ cs', w.cells? 0 (a.add (i * P.cellsOf e)) (P.cellsOf e) = some cs' → c.toList[a.off + (i * ks.length + j)]? = cs'[j]? := by
        intro i j hi hj cs' h1
        obtain ⟨_, _, hat⟩ := World.cells?_some h1
        have := hat j (by omega)
        rw [← this, ← hs]
        have hspot : ((a.add (i * ks.length)).add j) = ⟨a.block, a.off + (i * ks.length + j), none⟩ := by
          rw [Go.Deep.add_add]
          unfold Addr.add
          split
          · rename_i h0
            cases a
            simp only at hsp
            simp [hsp, h0]
          · rfl
        rw [hspot]
        unfold World.cell?
        simp only [hh, Option.isSome_none, Bool.false_eq_true, if_false]
        simp
      have hsize : a.off + m * ks.length ≤ c.size := by
        obtain ⟨cs', h1, h2⟩ := each (m - 1) (by omega)
        have hl2 := h2.length
        have := cell (m - 1) (ks.length - 1) (by omega) (by omega) cs' h1
        rw [List.getElem?_eq_getElem (show ks.length - 1 < cs'.length by omega)] at this
        have := (List.getElem?_eq_some_iff.1 this).1
        simp only [Array.length_toList] at this
        have e2 : (m - 1) * ks.length + ks.length = m * ks.length := by
          rw [← Nat.succ_mul]; congr 1; omega
        omega
      have hlm : len * ks.length ≤ m * ks.length := Nat.mul_le_mul_right _ hl
      let cs := (c.toList.drop a.off).take (len * ks.length)
      have hcl : cs.length = len * ks.length := by
        show ((c.toList.drop a.off).take (len * ks.length)).length = _
        have hcs : c.toList.length = c.size := by simp
        rw [List.length_take, List.length_drop, hcs]; omega
      have chunk : ∀ i, i < len → AllOk ks ((cs.drop (i * ks.length)).take ks.length) := by
        intro i hi
        obtain ⟨cs', h1, h2⟩ := each i (by omega)
        have hl2 := h2.length
        have hi2 : (i + 1) * ks.length ≤ len * ks.length := Nat.mul_le_mul_right _ hi
        rw [Nat.add_mul] at hi2
        have : (cs.drop (i * ks.length)).take ks.length = cs' := by
          apply List.ext_getElem?
          intro j
          by_cases hj : j < ks.length
          · rw [List.getElem?_take, if_pos hj, List.getElem?_drop]
            show ((c.toList.drop a.off).take (len * ks.length))[i * ks.length + j]? = _
            rw [List.getElem?_take, if_pos (by omega), List.getElem?_drop]
            exact cell i j (by omega) hj cs' h1
          · rw [List.getElem?_eq_none (by rw [List.length_take]; omega), List.getElem?_eq_none (by omega)]
        rw [this]
        exact h2
      refine ⟨⟨a.block, m, false, a.off⟩, len, .cells c t' fr, elOf cs ks.length, ⟨_, rfl, .inr ⟨rfl, by simpa using hl, a, rfl, fun _ => by cases a; simp only at hsp; simp [hsp]⟩⟩, by omega, .inr ⟨rfl, hl, hh, c.toList.take a.off, cs, c.toList.drop (a.off + len * ks.length), (t', fr), ?_, ?_, hcl, ?_, ?_⟩, ?_⟩
      · have e : c.toList.take a.off ++ cs ++ c.toList.drop (a.off + len * ks.length) = c.toList := by
          show c.toList.take a.off ++ (c.toList.drop a.off).take (len * ks.length) ++ c.toList.drop (a.off + len * ks.length) = c.toList
          rw [← List.drop_drop, List.append_assoc, List.take_append_drop, List.take_append_drop]
        rw [e]
      · rw [List.length_take, Array.length_toList]; show min a.off c.size = a.off; omega
      · intro v hv
        obtain ⟨i, hi⟩ := List.mem_iff_getElem?.1 hv
        have hil := (List.getElem?_eq_some_iff.1 hi).1
        rw [hcl] at hil
        have hk0 : 0 < ks.length := by
          rcases Nat.eq_zero_or_pos ks.length with h0 | h0
          · rw [h0] at hil; omega
          · exact h0
        have hq : i / ks.length < len := Nat.div_lt_of_lt_mul (by rw [Nat.mul_comm]; exact hil)
        refine (chunk (i / ks.length) hq).one v ?_
        have e : ((cs.drop (i / ks.length * ks.length)).take ks.length)[i % ks.length]? = some v := by
          rw [List.getElem?_take, if_pos (Nat.mod_lt _ hk0), List.getElem?_drop, Nat.mul_comm, Nat.div_add_mod]
          exact hi
        exact List.mem_of_getElem? e
      · intro i hi
        rw [elC_ok (vs := (cs.drop (i * ks.length)).take ks.length) (chunk i hi) fun j => by rw [Nat.zero_add]; rfl]
        exact (chunk i hi).rel _
      · intro i hi c k hc
        exact col_wf (chunk i hi) hc rfl
end
end Go.Sx

namespace Go.Sx
open Go.RowKit Go.ChangeShapes Go.WideShapes Go.Deep
section
variable {H : Type} {enc : TypeId × Value → H} {P : Program} {W W' : World}
theorem Grown.same (h : Grown W W') {p : MemPlace} (hp : p.block < W.heap.size) : W.sameAt W' p := by
  obtain ⟨⟨_, _, hk⟩, _, _⟩ := h
  have hb : W'.heap[p.block]? = W.heap[p.block]? := by
    have := hk p.block hp
    split at this
    · rename_i c t fr c' t' fr' e1 e2
      obtain ⟨rfl, rfl, hs, hc⟩ := this
      rw [e1, e2]
      have : c' = c := Array.ext_getElem? fun j => hc j (fun x => x)
      rw [this]
    · rename_i e1 e2
      rcases this with h | ⟨rfl, rfl⟩
      · exact h.elim
      · rw [e1, e2]
    · exact this
  cases p with
  | cell b off =>
    have hb : W'.heap[b]? = W.heap[b]? := hb
    show W'.cell? _ = W.cell? _
    unfold World.cell?
    simp only [hb]
  | map b => exact hb
theorem TrodAll_stays (hl : laidOutB P = true) {sp : Nat → Bool} (hg : Grown W W') : ∀ {ts : List TypeId} {vs : List Value} {ds : List (DataW H)} {ps : List MemPlace},
    (∀ t, t ∈ ts → P.readableRec t = true ∧ t < P.types.size) → DataW.TrodAll enc P W 0 (fun _ => true) true ts vs ds ps → (∀ p, p ∈ ps → p.block < W.heap.size) → (∀ p, p ∈ ps → sp p.block = true) →
    DataW.TrodAll enc P W' 0 sp true ts vs ds ps
  | [], [], [], _, _, h, _, _ => h
  | t :: ts, v :: vs, d :: ds, _, hT, ⟨p, q, h1, h2, e⟩, hlt, hs => by
    subst e
    refine ⟨p, q, WideElems.Trod_stays hl (hT t List.mem_cons_self).1 (hT t List.mem_cons_self).2 h1 (fun x hx => Grown.same hg (hlt x (List.mem_append_left _ hx))) (fun x hx => hs x (List.mem_append_left _ hx)), ?_, rfl⟩
    exact TrodAll_stays hl hg (fun t ht => hT t (List.mem_cons_of_mem _ ht)) h2 (fun x hx => hlt x (List.mem_append_right _ hx)) (fun x hx => hs x (List.mem_append_right _ hx))
def readables (P : Program) : List TypeId → Bool
  | [] => true
  | t :: ts => match P.readableRec t, Nat.decLt t P.types.size with
    | true, isTrue _ => readables P ts
    | _, _ => false
theorem readables_spec : ∀ {ts : List TypeId}, readables P ts = true → ∀ t, t ∈ ts → P.readableRec t = true ∧ t < P.types.size
  | [], _, t, h => by cases h
  | u :: ts, h, t, ht => by
    simp only [readables] at h
    split at h
    · rcases List.mem_cons.1 ht with rfl | ht
      · exact ⟨by assumption, by assumption⟩
      · exact readables_spec h t ht
    · cases h
end
end Go.Sx

namespace Go.Sx
section
variable {P : Program} {T : Theory} {K : Nat → Prop} {w0 w : World}
theorem RelL.any {ρ ρ' : Env} {l : List SV} {cs : List Value} (h : scpL 0 l = true) (r : RelL ρ l cs) : RelL ρ' l cs :=
  RelL.mono ⟨ρ', by simp⟩ _ _ (scopedL_down (ρ := []) (e := ρ) l cs h r)
def scpH : HO T.R → Prop
  | .row _ _ _ el => ∀ i, scpL 0 (el i) = true
  | .ro _ _ _ el _ => ∀ i, scpL 0 (el i) = true
  | .cells _ xs => scpL 0 xs = true
  | _ => True
theorem OHolds.any {ρ ρ' : Env} {l : Loc} {F : Nat → Prop} {o : HO T.R} (hs : scpH o) (H : OHolds T ρ l F w o) : OHolds T ρ' l F w o := by
  cases o with
  | gone => trivial
  | cells t xs =>
    obtain ⟨ho, hf, cs, hc, hr⟩ := H
    exact ⟨ho, hf, cs, hc, RelL.any hs hr⟩
  | row t sz len el =>
    rcases H with H | ⟨h1, h0, h2, h3, cs, h4, h5, h7, h6⟩
    · exact .inl H
    · exact .inr ⟨h1, h0, h2, h3, cs, h4, h5, h7, fun i hi => RelL.any (hs i) (h6 i hi)⟩
  | ro t sz len el ob =>
    rcases H with H | ⟨h1, h2, h3, h4, a, cs, b, fr, h5, h6, h7, h8, h9⟩
    · exact .inl H
    · exact .inr ⟨h1, h2, h3, h4, a, cs, b, fr, h5, h6, h7, h8, fun i hi => RelL.any (hs i) (h9 i hi)⟩
  | res r => exact H
theorem OHolds.congr' {ρ : Env} {l : Loc} {F F' : Nat → Prop} {o : HO T.R} (H : OHolds T ρ l F w o) (h : F = F') : OHolds T ρ l F' w o := h ▸ H
theorem Inv.two {ρ : Env} {h : List (HO T.R)} (I : Inv T K w0 ρ h w) {m : Nat} (hm : 0 < m) {o0 o1 : HO T.R} {l0 l1 : Loc} (h0 : h[0]? = some o0) (h1 : h[m]? = some o1) (e0 : ρ[0]? = some l0) (e1 : ρ[m]? = some l1)
    (s0 : scpH o0) (s1 : scpH o1) : Inv T K w0 [l0, l1] [o0, o1] w := by
  obtain ⟨_, b, F, c1, c2, c3⟩ := I
  refine ⟨rfl, b, fun k i => (k = 0 ∧ F 0 i) ∨ (k = 1 ∧ F m i), ?_, ?_, ?_⟩
  · intro n o l hn hl
    match n, hn, hl with
    | 0, hn, hl =>
      simp at hn hl
      subst hn hl
      exact OHolds.congr' (OHolds.any s0 (c1 0 _ _ h0 e0)) (by funext i; simp)
    | 1, hn, hl =>
      simp at hn hl
      subst hn hl
      exact OHolds.congr' (OHolds.any s1 (c1 m _ _ h1 e1)) (by funext i; simp)
    | n + 2, hn, _ => simp at hn
  · rintro n k i (⟨a1, a2⟩ | ⟨a1, a2⟩) (⟨b1, b2⟩ | ⟨b1, b2⟩)
    · exact .inl (by omega)
    · exact (c2 _ _ _ a2 b2).imp (fun e => by omega) id
    · exact (c2 _ _ _ a2 b2).imp (fun e => by omega) id
    · exact .inl (by omega)
  · rintro n i (⟨e, a⟩ | ⟨e, a⟩)
    · subst e
      refine ⟨(c3 _ _ a).1, (c3 _ _ a).2.imp id fun q => ?_⟩
      rw [h0] at q; exact q
    · subst e
      refine ⟨(c3 _ _ a).1, (c3 _ _ a).2.imp id fun q => ?_⟩
      rw [h1] at q; exact q
end
end Go.Sx

namespace Go.Sx
set_option maxRecDepth 10000
open Go.RowKit Go.Maps

/-! ### A memory of sheets behind a map, as a resource -/
structure Mem where
  size : Int
  W : Int → Int
instance : Inhabited Mem := ⟨⟨0, fun _ => 0⟩⟩
structure MemOk (M : Mem) : Prop where
  lo : 65536 ≤ M.size
  hi : M.size ≤ 4294967296
  al : M.size % 4096 = 0
  dom : ∀ a, M.W a ≠ 0 → 0 ≤ a ∧ a < M.size ∧ a % 8 = 0
  rng : ∀ a, 0 ≤ M.W a ∧ M.W a < 18446744073709551616
def upd (W : Int → Int) (a x:Int) : Int → Int := fun i => cnd (decide (i = a)) x (W i)
theorem upd_same (W : Int → Int) (a x:Int) : upd W a x a = x := by simp [upd, cnd]
theorem upd_other {W : Int → Int} {a x i : Int} (h : i ≠ a) : upd W a x i = W i := by simp [upd, cnd, h]
def sheet (W : Int → Int) (p:Int) : List Value := (List.range 512).map fun (i:Nat) => Value.int .u64 (W (p * 4096 + 8 * (i:Int)))
theorem sheet_length (W : Int → Int) (p:Int) : (sheet W p).length = 512 := by simp [sheet]
theorem sheet_get (W : Int → Int) (p:Int) {i : Nat} (h : i < 512) : (sheet W p)[i]? = some (.int .u64 (W (p * 4096 + 8 * (i:Int)))) := by
  simp [sheet, h]
theorem sheet_set (W : Int → Int) (p x:Int) {i : Nat} (h : i < 512) : (sheet W p).set i (.int .u64 x) = sheet (upd W (p * 4096 + 8 * (i:Int)) x) p := by
  apply List.ext_getElem?
  intro j
  by_cases hj : j < 512
  · rw [sheet_get _ _ hj, List.getElem?_set]
    by_cases e : i = j
    · subst e; simp [sheet_length, h, upd_same]
    · rw [if_neg e, sheet_get _ _ hj, upd_other (by omega)]
  · rw [List.getElem?_eq_none (by rw [List.length_set, sheet_length]; omega), List.getElem?_eq_none (by rw [sheet_length]; omega)]
theorem sheet_other (W : Int → Int) {p a x : Int} (h : a / 4096 ≠ p) : sheet (upd W a x) p = sheet W p := by
  apply List.ext_getElem?
  intro j
  by_cases hj : j < 512
  · rw [sheet_get _ _ hj, sheet_get _ _ hj, upd_other (by omega)]
  · rw [List.getElem?_eq_none (by rw [sheet_length]; omega), List.getElem?_eq_none (by rw [sheet_length]; omega)]
theorem sheet_zero : sheet (fun _ => 0) 0 = List.replicate 512 (.int .u64 0) := by
  apply List.ext_getElem?
  intro j
  by_cases hj : j < 512
  · rw [sheet_get _ _ hj, List.getElem?_replicate, if_pos hj]
  · rw [List.getElem?_eq_none (by rw [sheet_length]; omega), List.getElem?_eq_none (by rw [List.length_replicate]; omega)]
theorem sheet_eq {W W' : Int → Int} {p q : Int} (h : ∀ i : Nat, i < 512 → W (p * 4096 + 8 * (i:Int)) = W' (q * 4096 + 8 * (i:Int))) : sheet W p = sheet W' q := by
  apply List.ext_getElem?
  intro j
  by_cases hj : j < 512
  · rw [sheet_get _ _ hj, sheet_get _ _ hj, h j hj]
  · rw [List.getElem?_eq_none (by rw [sheet_length]; omega), List.getElem?_eq_none (by rw [sheet_length]; omega)]

def ptrElem : Value → Option (DataW Unit × List MemPlace)
  | .pointer none => some (.nil, [])
  | .pointer (some ⟨b, 0, none⟩) => some (.lit (.int .i64 b), [])
  | _ => none
theorem ptrElem_inv {v : Value} {z : DataW Unit × List MemPlace} (h : ptrElem v = some z) : (v = .pointer none ∧ z = (.nil, [])) ∨ ∃ b : Nat, v = .pointer (some ⟨b, 0, none⟩) ∧ z = (.lit (.int .i64 b), []) := by
  unfold ptrElem at h
  split at h
  · cases h; exact .inl ⟨rfl, rfl⟩
  · cases h; exact .inr ⟨_, rfl, rfl⟩
  · cases h

structure MemAt (P : Program) (tm ts tk:Nat) (M : Mem) (b:Nat) (w : World) (mb:Nat) (D : DataW Unit) (S : Int → Option Nat) : Prop where
  ok : MemOk M
  cells : w.heap[b]? = some (.cells #[.int .u64 M.size, .map (some mb)] tm (0, 0))
  map : w.ownsMap P tk ptrElem mb (Maps.size D) D
  no : ∀ p, S p = none → Maps.has D (.int .u64 p) = false
  yes : ∀ p s, S p = some s → Maps.has D (.int .u64 p) = true ∧ ∀ z, D.atKey (.int .u64 p) z = .lit (.int .i64 (s:Nat))
  keys : ∀ kl, Maps.has D kl = true → ∃ p, kl = .int .u64 p
  inj : ∀ p q s, S p = some s → S q = some s → p = q
  apart : b ≠ mb ∧ ∀ p s, S p = some s → s ≠ b ∧ s ≠ mb
  rng : ∀ p s, S p = some s → 0 ≤ p ∧ p * 4096 < M.size
  data : ∀ p s, S p = some s → w.heap[s]? = some (.cells (sheet M.W p).toArray ts (0, 0))
  zero : ∀ a, M.W a ≠ 0 → S (a / 4096) ≠ none
def memHolds (P : Program) (tm ts tk:Nat) (M : Mem) (b:Nat) (F : Nat → Prop) (w : World) : Prop :=
  ∃ mb D S, MemAt P tm ts tk M b w mb D S ∧ ∀ i, F i ↔ i = b ∨ i = mb ∨ ∃ p, S p = some i
def mrgM (c : Bool) (a b : Mem) : Mem := ⟨cnd c a.size b.size, cnd c a.W b.W⟩
def memTh (P : Program) (tm ts tk:Nat) : Theory where
  R := Mem
  holds := memHolds P tm ts tk
  keep := by
    rintro M b F w w' ⟨mb, D, S, h, hf⟩ hk
    have hmb : w'.heap[mb]? = w.heap[mb]? := hk mb ((hf mb).2 (.inr (.inl rfl)))
    refine ⟨mb, D, S, ⟨h.ok, by rw [hk b ((hf b).2 (.inl rfl))]; exact h.cells, ?_, h.no, h.yes, h.keys, h.inj, h.apart, h.rng, fun p s hs => by rw [hk s ((hf s).2 (.inr (.inr ⟨p, hs⟩)))]; exact h.data p s hs, h.zero⟩, hf⟩
    obtain ⟨es, clock, e, r⟩ := h.map
    exact ⟨es, clock, by rw [hmb]; exact e, r⟩
  merge := fun c a b => some (mrgM c a b)
  merge_spec := by intro c a b r h; cases h; cases c <;> rfl

/-! ### A bound on the pages that are kept -/
theorem pigeon : ∀ (n:Nat) (l : List Nat), l.Pairwise (· ≠ ·) → (∀ x, x ∈ l → x < n) → l.length ≤ n
  | 0, [], _, _ => Nat.le_refl _
  | 0, x :: l, _, h => absurd (h x List.mem_cons_self) (by omega)
  | n + 1, l, hp, h => by
    have h1 := pigeon n (l.filter fun x => decide (x ≠ n)) (hp.filter _) (fun x hx => by
      have := List.mem_filter.1 hx
      have h2 := h x this.1
      have h3 : x ≠ n := by simpa using this.2
      omega)
    have key : ∀ l : List Nat, l.Pairwise (· ≠ ·) → l.length ≤ (l.filter fun x => decide (x ≠ n)).length + 1 := by
      intro l hp
      induction l with
      | nil => simp
      | cons y l ih =>
        rcases List.pairwise_cons.1 hp with ⟨hy, h2⟩
        by_cases e : y = n
        · subst e
          have : (l.filter fun x => decide (x ≠ y)) = l := List.filter_eq_self.2 fun x hx => by
            have := hy x hx; simp; exact fun e => this e.symm
          rw [List.filter_cons_of_neg (by simp), this]
          simp
        · rw [List.filter_cons_of_pos (by simpa using e)]
          have := ih h2
          simp only [List.length_cons]
          omega
    have := key l hp
    omega
section
variable {P : Program} {tm ts tk : Nat} {M : Mem} {b mb : Nat} {w w' : World} {D : DataW Unit} {S : Int → Option Nat}
theorem tight {k : Nat} {R : Value → Option (DataW Unit × List MemPlace)} {n : Nat} (h : w.ownsMap P k R b n D) : w.ownsMap P k R b (Maps.size D) D := by
  obtain ⟨es, clock, hb, F, hs, rfl⟩ := h
  exact ⟨es, clock, hb, F, by simp [Maps.size, length_sorted], rfl⟩
theorem MemAt.some_of_has (h : MemAt P tm ts tk M b w mb D S) {p : Int} (hh : Maps.has D (.int .u64 p) = true) : ∃ s, S p = some s := by
  cases hs : S p with
  | none => rw [h.no p hs] at hh; cases hh
  | some s => exact ⟨s, rfl⟩
theorem MemAt.small (h : MemAt P tm ts tk M b w mb D S) (K : Keyed P tk) : Maps.size D ≤ 1048576 := by
  obtain ⟨es, rfl, hp, _⟩ := h.map.entries K
  have hk : ∀ x, x ∈ es → ∃ p : Int, x.1 = .int .u64 p ∧ 0 ≤ p ∧ p < 1048576 := by
    intro x hx
    have hh : Maps.has (.map es) x.1 = true := List.any_eq_true.2 ⟨x, hx, by
      obtain ⟨_, _⟩ := h.ok
      exact WideAt.sameKey_self (by
        obtain ⟨es', e, _, hk⟩ := h.map.entries K
        cases e
        exact hk x hx)⟩
    obtain ⟨p, hpk⟩ := h.keys _ hh
    rw [hpk] at hh
    obtain ⟨s, hs⟩ := h.some_of_has hh
    have h1 := h.rng p s hs
    have h2 := h.ok.hi
    exact ⟨p, hpk, h1.1, by omega⟩
  have hl : es.length = (es.map fun x => match x.1 with | .int _ p => p.toNat | _ => 0).length := by simp
  show es.length ≤ _
  rw [hl]
  refine pigeon _ _ ?_ ?_
  · rw [List.pairwise_map]
    refine hp.imp_of_mem ?_
    intro x y hx hy hne
    obtain ⟨p, h1, h2, _⟩ := hk x hx
    obtain ⟨q, h3, h4, _⟩ := hk y hy
    rw [h1, h3] at hne ⊢
    intro e
    have e : p.toNat = q.toNat := e
    exact hne (by rw [show p = q by omega])
  · intro x hx
    obtain ⟨y, hy, rfl⟩ := List.mem_map.1 hx
    obtain ⟨p, h1, h2, h3⟩ := hk y hy
    rw [h1]
    show p.toNat < _
    omega
theorem MemAt.look (h : MemAt P tm ts tk M b w mb D S) {t te : Nat} (K : Keyed P tk) (ht : P.underlying t = some (.map tk te)) (hk : P.underlying tk = some (.int .u64)) (hz : (zeroValue te).run P w = .ok (.pointer none) w) {p : Int} (hw : (Lit.int .u64 p).wf = true) :
    (Instr.lookup t (.map (some mb)) (.int .u64 p) true).run P w = .ok (.tuple #[.pointer ((S p).map fun s => ⟨s, 0, none⟩), .bool (S p).isSome]) w := by
  obtain ⟨v, ps, hrun, hv⟩ := h.map.look_ok K ht hz (zd := .nil) (zp := []) rfl (keyOf_int_mk hk hw)
  cases hs : S p with
  | none =>
    have hh := h.no p hs
    rw [hh] at hrun
    rw [Maps.atKey_of_not_has hh] at hv
    rcases ptrElem_inv hv with ⟨rfl, _⟩ | ⟨b, _, e⟩
    · exact hrun
    · cases e
  | some s =>
    obtain ⟨hh, hat⟩ := h.yes p s hs
    rw [hh] at hrun
    rw [hat] at hv
    rcases ptrElem_inv hv with ⟨_, e⟩ | ⟨b, rfl, e⟩
    · cases e
    · simp only [Prod.mk.injEq, DataW.lit.injEq, Lit.int.injEq, true_and] at e
      have : s = b := by omega
      subst this
      exact hrun
theorem MemAt.word (h : MemAt P tm ts tk M b w mb D S) {a : Int} (ha : S (a / 4096) = none) : M.W a = 0 := by
  cases Decidable.em (M.W a = 0) with
  | inl e => exact e
  | inr e => exact absurd ha (h.zero a e)
theorem MemAt.put_old (h : MemAt P tm ts tk M b w mb D S) {a x : Int} (h0 : 0 ≤ a) (h1 : a < M.size) (h8 : a % 8 = 0) (hx : 0 ≤ x ∧ x < 18446744073709551616) {s : Nat} (hs : S (a / 4096) = some s)
    (hw : w'.heap[s]? = some (.cells ((sheet M.W (a / 4096)).set (a % 4096 / 8).toNat (.int .u64 x)).toArray ts (0, 0))) (hr : ∀ i, i ≠ s → w'.heap[i]? = w.heap[i]?) :
    MemAt P tm ts tk ⟨M.size, upd M.W a x⟩ b w' mb D S := by
  have hap := h.apart
  have hne := hap.2 _ _ hs
  refine ⟨⟨h.ok.lo, h.ok.hi, h.ok.al, fun i hi => ?_, fun i => ?_⟩, by rw [hr b (fun e => hne.1 e.symm)]; exact h.cells, ?_, h.no, h.yes, h.keys, h.inj, hap, h.rng, fun p q hq => ?_, fun i hi => ?_⟩
  · by_cases e : i = a
    · subst e; exact ⟨h0, h1, h8⟩
    · rw [show (Mem.mk M.size (upd M.W a x)).W i = M.W i from upd_other e] at hi
      exact h.ok.dom i hi
  · by_cases e : i = a
    · subst e; rw [show (Mem.mk M.size (upd M.W i x)).W i = x from upd_same ..]; exact hx
    · rw [show (Mem.mk M.size (upd M.W a x)).W i = M.W i from upd_other e]; exact h.ok.rng i
  · obtain ⟨es, clock, e, r⟩ := h.map
    exact ⟨es, clock, by rw [hr mb (fun e => hne.2 e.symm)]; exact e, r⟩
  · by_cases e : q = s
    · subst e
      have := h.inj p (a / 4096) q hq hs
      subst this
      rw [hw, sheet_set _ _ _ (by omega)]
      rw [show a / 4096 * 4096 + 8 * (((a % 4096 / 8).toNat:Nat):Int) = a by omega]
    · rw [hr q e, h.data p q hq, show (Mem.mk M.size (upd M.W a x)).W = upd M.W a x from rfl, sheet_other]
      intro e2
      rw [e2] at hs
      rw [hs] at hq
      cases hq
      exact e rfl
  · by_cases e : i = a
    · subst e; rw [hs]; intro e; cases e
    · rw [show (Mem.mk M.size (upd M.W a x)).W i = M.W i from upd_other e] at hi
      exact h.zero i hi
theorem MemAt.put_new (h : MemAt P tm ts tk M b w mb D S) {a x : Int} (h0 : 0 ≤ a) (h1 : a < M.size) (h8 : a % 8 = 0) (hx : 0 ≤ x ∧ x < 18446744073709551616) {s : Nat} (hs : S (a / 4096) = none) (hn : w.heap.size ≤ s)
    (hw : w'.heap[s]? = some (.cells ((List.replicate 512 (.int .u64 0)).set (a % 4096 / 8).toNat (.int .u64 x)).toArray ts (0, 0))) (hr : ∀ i, i < w.heap.size → i ≠ mb → w'.heap[i]? = w.heap[i]?)
    {n : Nat} (hm : w'.ownsMap P tk ptrElem mb n (D.put (.int .u64 (a / 4096)) (.lit (.int .i64 (s:Nat))))) (K : Keyed P tk) :
    MemAt P tm ts tk ⟨M.size, upd M.W a x⟩ b w' mb (D.put (.int .u64 (a / 4096)) (.lit (.int .i64 (s:Nat)))) (fun p => if p = a / 4096 then some s else S p) := by
  have hap := h.apart
  have hb : b < w.heap.size := (Array.getElem?_eq_some_iff.1 h.cells).1
  have hmb := h.map.lt
  have hSlt : ∀ p q, S p = some q → q < w.heap.size := fun p q hq => (Array.getElem?_eq_some_iff.1 (h.data p q hq)).1
  have hmap := h.map.isMap
  refine ⟨⟨h.ok.lo, h.ok.hi, h.ok.al, fun i hi => ?_, fun i => ?_⟩, by rw [hr b hb hap.1]; exact h.cells, tight hm, fun p hp => ?_, fun p q hq => ?_, fun kl hk => ?_, fun p q u hp hq => ?_, ⟨hap.1, fun p q hq => ?_⟩, fun p q hq => ?_, fun p q hq => ?_, fun i hi => ?_⟩
  · by_cases e : i = a
    · subst e; exact ⟨h0, h1, h8⟩
    · rw [show (Mem.mk M.size (upd M.W a x)).W i = M.W i from upd_other e] at hi
      exact h.ok.dom i hi
  · by_cases e : i = a
    · subst e; rw [show (Mem.mk M.size (upd M.W i x)).W i = x from upd_same ..]; exact hx
    · rw [show (Mem.mk M.size (upd M.W a x)).W i = M.W i from upd_other e]; exact h.ok.rng i
  · by_cases e : p = a / 4096
    · rw [if_pos e] at hp; cases hp
    · rw [if_neg e] at hp
      rw [Maps.has_put_other (fun k => e (by simpa using k))]
      exact h.no p hp
  · by_cases e : p = a / 4096
    · rw [if_pos e] at hq
      cases hq
      subst e
      exact ⟨Maps.has_put_same hmap (by trivial) _, fun z => Maps.atKey_put_same hmap (by trivial) _ z⟩
    · rw [if_neg e] at hq
      have := h.yes p q hq
      refine ⟨by rw [Maps.has_put_other (fun k => e (by simpa using k))]; exact this.1, fun z => ?_⟩
      rw [Maps.atKey_put_other (fun k => e (by simpa using k))]
      exact this.2 z
  · by_cases e : kl = .int .u64 (a / 4096)
    · exact ⟨_, e⟩
    · rw [Maps.has_put_other e] at hk
      exact h.keys kl hk
  · by_cases e : p = a / 4096 <;> by_cases e2 : q = a / 4096
    · rw [e, e2]
    · rw [if_pos e] at hp
      rw [if_neg e2] at hq
      have e3 : s = u := Option.some.inj hp
      have := hSlt q u hq
      omega
    · rw [if_neg e] at hp
      rw [if_pos e2] at hq
      have e3 : s = u := Option.some.inj hq
      have := hSlt p u hp
      omega
    · rw [if_neg e] at hp
      rw [if_neg e2] at hq
      exact h.inj p q u hp hq
  · by_cases e : p = a / 4096
    · rw [if_pos e] at hq; cases hq; exact ⟨by omega, by omega⟩
    · rw [if_neg e] at hq; exact hap.2 p q hq
  · by_cases e : p = a / 4096
    · show 0 ≤ p ∧ p * 4096 < M.size
      omega
    · rw [if_neg e] at hq; exact h.rng p q hq
  · by_cases e : p = a / 4096
    · rw [if_pos e] at hq
      cases hq
      subst e
      rw [hw, ← sheet_zero, sheet_set _ _ _ (by omega)]
      congr 3
      refine sheet_eq fun i hi => ?_
      have hz : M.W (a / 4096 * 4096 + 8 * (i:Int)) = 0 := h.word (by rw [show (a / 4096 * 4096 + 8 * (i:Int)) / 4096 = a / 4096 by omega]; exact hs)
      by_cases e : a / 4096 * 4096 + 8 * (i:Int) = a
      · rw [e]
        show _ = upd M.W a x a
        rw [upd_same, show (0:Int) * 4096 + 8 * (i:Int) = 0 * 4096 + 8 * (((a % 4096 / 8).toNat:Nat):Int) by omega, upd_same]
      · show _ = upd M.W a x _
        rw [upd_other e, hz, upd_other (by omega)]
    · rw [if_neg e] at hq
      have hlt := hSlt p q hq
      rw [hr q hlt (hap.2 p q hq).2, h.data p q hq]
      congr 3
      refine sheet_eq fun i hi => ?_
      exact (upd_other (by omega)).symm
  · by_cases e : i / 4096 = a / 4096
    · simp only [e, if_true]
      intro e; cases e
    · simp only [e, if_false]
      by_cases e2 : i = a
      · subst e2; exact absurd rfl e
      · rw [show (Mem.mk M.size (upd M.W a x)).W i = M.W i from upd_other e2] at hi
        exact h.zero i hi
end
end Go.Sx

namespace Go.Sx
open Go.RowKit Go.ChangeShapes Go.WideShapes Go.Deep
section
variable {H : Type} {enc : TypeId × Value → H} {P : Program}
end
end Go.Sx

namespace Go.Sx
open Go.RowKit
section
variable {P : Program} {T : Theory}
def roHl (w : World) (l : Loc) (sz len:Nat) (el : Nat → List SV) (ob : Obj) : Prop := len = 0 ∨ (l.nil = false ∧ len ≤ l.cap ∧ w.heap[l.blk]? = some ob ∧ ∃ (pre cs post : List Value) (fr : Nat × Nat × Nat), ob = .cells (pre ++ cs ++ post).toArray fr.1 fr.2 ∧ pre.length = l.off ∧ cs.length = len * sz ∧
      (∀ v, v ∈ cs → v.oneCell' = true) ∧ ∀ i, i < len → RelL [l] (el i) ((cs.drop (i * sz)).take sz))
theorem Rel.second {l1 l2 : Loc} {sz lo len : Nat} {v : Value} (h : Rel [l2] (.slc 0 sz lo len) v) : Rel [l1, l2] (.slc 1 sz lo len) v := by
  obtain ⟨l, hl, q⟩ := h
  have hl : l2 = l := by simpa using hl
  subst hl
  exact ⟨l2, rfl, q⟩
theorem Rel.first {l1 l2 : Loc} {sz lo len : Nat} {v : Value} (h : Rel [l1] (.slc 0 sz lo len) v) : Rel [l1, l2] (.slc 0 sz lo len) v := Rel.mono ⟨[l2], rfl⟩ _ _ h
theorem law_of2 {k : Nat} {C : CF T.R} (hC : Sound P T k C) {args : List SV} {t1 sz1 len1 t2 sz2 len2 : Nat} {el1 el2 : Nat → List SV} {o1 o2 : Obj} {tr : Tr (Fin T.R)} (hc : C args [.ro t1 sz1 len1 el1 o1, .ro t2 sz2 len2 el2 o2] = some tr) (hok : tr.ok)
    (hg : tr.get.1 = .bool true) (w : World) (l1 l2 : Loc) (h1 : roHl w l1 sz1 len1 el1 o1) (h2 : roHl w l2 sz2 len2 el2 o2) (s1 : ∀ i, scpL 0 (el1 i) = true) (s2 : ∀ i, scpL 0 (el2 i) = true) {vargs : Array Value} (hr : RelL [l1, l2] args vargs.toList) :
    Calls P k vargs w fun e w' => e = .returned (.bool true) ∧ Grown w w' := by
  refine law_ofR hC hc hok hg w [l1, l2] rfl (fun n o l hn hl => ?_) hr
  match n, hn, hl with
  | 0, hn, hl =>
    simp at hn hl
    subst hn hl
    refine ⟨t1, sz1, len1, el1, o1, rfl, h1.imp id fun ⟨a, b, c, p, cs, q, fr, d, e, f, g, k⟩ => ⟨a, b, c, p, cs, q, fr, d, e, f, g, fun i hi => RelL.any (s1 i) (k i hi)⟩⟩
  | 1, hn, hl =>
    simp at hn hl
    subst hn hl
    refine ⟨t2, sz2, len2, el2, o2, rfl, h2.imp id fun ⟨a, b, c, p, cs, q, fr, d, e, f, g, k⟩ => ⟨a, b, c, p, cs, q, fr, d, e, f, g, fun i hi => RelL.any (s2 i) (k i hi)⟩⟩
  | n + 2, hn, _ => simp at hn
end
end Go.Sx

