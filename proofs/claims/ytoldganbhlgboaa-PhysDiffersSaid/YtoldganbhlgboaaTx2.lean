/- A symbolic executor over the model's code, proved sound for whatever program; part 2. Their conditions stand in each. -/
import Derived.Test.YtoldganbhlgboaaTx1
import Derived.Orders
set_option linter.unusedVariables false
set_option linter.unusedSimpArgs false
namespace Go.Sx
open Go.RowKit

/-! ### Regions that draw their order -/
def addAll : List Nat → List Nat → List Nat
  | [], l => l
  | n :: ns, l => match mem n l with
    | true => addAll ns l
    | false => addAll ns (n :: l)
theorem addAll_mem : ∀ {a b : List Nat} {n : Nat}, n ∈ addAll a b ↔ n ∈ a ∨ n ∈ b
  | [], b, n => by simp [addAll]
  | m :: a, b, n => by
    simp only [addAll]
    split
    · rename_i h
      rw [addAll_mem]
      have := mem_iff.1 h
      constructor
      · rintro (h | h)
        · exact .inl (List.mem_cons_of_mem _ h)
        · exact .inr h
      · rintro (h | h)
        · rcases List.mem_cons.1 h with rfl | h
          · exact .inr this
          · exact .inl h
        · exact .inr h
    · rw [addAll_mem]
      simp only [List.mem_cons]
      constructor
      · rintro (h | h | h)
        · exact .inl (.inr h)
        · exact .inl (.inl h)
        · exact .inr h
      · rintro ((h | h) | h)
        · exact .inr (.inl h)
        · exact .inl h
        · exact .inr (.inr h)
def edgeL : List Edge → List Nat
  | [] => []
  | e :: l => match Region.binds .any e with
    | true => e.on :: edgeL l
    | false => edgeL l
theorem edgeL_mem : ∀ {l : List Edge} {n : Nat}, n ∈ edgeL l ↔ ∃ e, e ∈ l ∧ Region.binds .any e = true ∧ e.on = n
  | [], n => by simp [edgeL]
  | e :: l, n => by
    simp only [edgeL]
    split
    · rename_i h
      simp only [List.mem_cons, edgeL_mem]
      constructor
      · rintro (rfl | ⟨e', a, b, c⟩)
        · exact ⟨e, .inl rfl, h, rfl⟩
        · exact ⟨e', .inr a, b, c⟩
      · rintro ⟨e', rfl | a, b, c⟩
        · exact .inl c.symm
        · exact .inr ⟨e', a, b, c⟩
    · rename_i h
      simp only [edgeL_mem, List.mem_cons]
      constructor
      · rintro ⟨e', a, b, c⟩; exact ⟨e', .inr a, b, c⟩
      · rintro ⟨e', rfl | a, b, c⟩
        · rw [b] at h; cases h
        · exact ⟨e', a, b, c⟩
def closeD (ds : List (List Nat)) : List Nat → List Nat → Option (List Nat)
  | [], acc => some acc
  | e :: l, acc => match ds[e]? with
    | some d => closeD ds l (addAll (e :: d) acc)
    | none => none
theorem closeD_spec {ds : List (List Nat)} : ∀ {l acc r : List Nat}, closeD ds l acc = some r →
    (∀ e, e ∈ l → e < ds.length) ∧ ∀ n, n ∈ r ↔ n ∈ acc ∨ ∃ e d, e ∈ l ∧ ds[e]? = some d ∧ (n = e ∨ n ∈ d)
  | [], acc, r, h => by cases h; simp
  | e :: l, acc, r, h => by
    simp only [closeD] at h
    split at h
    · rename_i d hd
      obtain ⟨a, b⟩ := closeD_spec h
      refine ⟨fun x hx => ?_, fun n => ?_⟩
      · rcases List.mem_cons.1 hx with rfl | hx
        · exact (List.getElem?_eq_some_iff.1 hd).1
        · exact a x hx
      · rw [b, addAll_mem]
        simp only [List.mem_cons]
        constructor
        · rintro (((rfl | h) | h) | ⟨e', d', h1, h2, h3⟩)
          · exact .inr ⟨n, d, .inl rfl, hd, .inl rfl⟩
          · exact .inr ⟨e, d, .inl rfl, hd, .inr h⟩
          · exact .inl h
          · exact .inr ⟨e', d', .inr h1, h2, h3⟩
        · rintro (h | ⟨e', d', rfl | h1, h2, h3⟩)
          · exact .inl (.inr h)
          · rw [hd] at h2; cases h2
            rcases h3 with rfl | h3
            · exact .inl (.inl (.inl rfl))
            · exact .inl (.inl (.inr h3))
          · exact .inr ⟨e', d', h1, h2, h3⟩
    · cases h
def depsL : List Oper → List (List Nat) → Option (List (List Nat))
  | [], ds => some ds
  | o :: l, ds => match closeD ds (edgeL o.after.toList) [] with
    | some d => depsL l (ds ++ [d])
    | none => none
structure DepsOk (ops : List Oper) (ds : List (List Nat)) : Prop where
  len : ds.length = ops.length
  less : ∀ (i n:Nat) d, ds[i]? = some d → n ∈ d → n < i
  edge : ∀ (i:Nat) o d e, ops[i]? = some o → ds[i]? = some d → e ∈ edgeL o.after.toList → e ∈ d
  close : ∀ (i:Nat) o d n, ops[i]? = some o → ds[i]? = some d → n ∈ d → ∃ e d', e ∈ edgeL o.after.toList ∧ ds[e]? = some d' ∧ (n = e ∨ n ∈ d')
theorem depsL_spec : ∀ {l pre : List Oper} {ds r : List (List Nat)}, depsL l ds = some r → DepsOk pre ds → DepsOk (pre ++ l) r
  | [], pre, ds, r, h, k => by cases h; simpa using k
  | o :: l, pre, ds, r, h, k => by
    simp only [depsL] at h
    split at h
    · rename_i d hd
      obtain ⟨a, b⟩ := closeD_spec hd
      have k' : DepsOk (pre ++ [o]) (ds ++ [d]) := by
        have hl := k.len
        refine ⟨by simp [hl], ?_, ?_, ?_⟩
        · intro i n d' hi hn
          by_cases hlt : i < ds.length
          · rw [List.getElem?_append_left hlt] at hi; exact k.less i n d' hi hn
          · rw [List.getElem?_append_right (by omega)] at hi
            have hi0 : i - ds.length = 0 := by
              have := (List.getElem?_eq_some_iff.1 hi).1
              simp at this; omega
            rw [hi0] at hi
            simp at hi
            subst hi
            rcases (b n).1 hn with h0 | ⟨e, d', h1, h2, h3⟩
            · cases h0
            · have := a e h1
              rcases h3 with rfl | h3
              · omega
              · have := k.less e n d' h2 h3; omega
        · intro i o' d' e ho hi he
          by_cases hlt : i < ds.length
          · rw [List.getElem?_append_left hlt] at hi
            rw [List.getElem?_append_left (by omega)] at ho
            exact k.edge i o' d' e ho hi he
          · rw [List.getElem?_append_right (by omega)] at hi ho
            have hi0 : i - ds.length = 0 := by
              have := (List.getElem?_eq_some_iff.1 hi).1
              simp at this; omega
            rw [hi0] at hi
            rw [← hl, hi0] at ho
            simp at hi ho
            subst hi ho
            obtain ⟨d', hd'⟩ : ∃ d', ds[e]? = some d' := ⟨_, List.getElem?_eq_getElem (a e he)⟩
            exact (b e).2 (.inr ⟨e, d', he, hd', .inl rfl⟩)
        · intro i o' d' n ho hi hn
          by_cases hlt : i < ds.length
          · rw [List.getElem?_append_left hlt] at hi
            rw [List.getElem?_append_left (by omega)] at ho
            obtain ⟨e, d2, h1, h2, h3⟩ := k.close i o' d' n ho hi hn
            exact ⟨e, d2, h1, by rw [List.getElem?_append_left (List.getElem?_eq_some_iff.1 h2).1]; exact h2, h3⟩
          · rw [List.getElem?_append_right (by omega)] at hi ho
            have hi0 : i - ds.length = 0 := by
              have := (List.getElem?_eq_some_iff.1 hi).1
              simp at this; omega
            rw [hi0] at hi
            rw [← hl, hi0] at ho
            simp at hi ho
            subst hi ho
            rcases (b n).1 hn with h0 | ⟨e, d', h1, h2, h3⟩
            · cases h0
            · exact ⟨e, d', h1, by rw [List.getElem?_append_left (List.getElem?_eq_some_iff.1 h2).1]; exact h2, h3⟩
      have := depsL_spec h k'
      simpa using this
    · cases h

def Down (ds : List (List Nat)) (S : Nat → Bool) : Prop := ∀ (j n:Nat) d, S j = true → ds[j]? = some d → n ∈ d → S n = true
theorem Down.add {ops : List Oper} {ds : List (List Nat)} (D : DepsOk ops ds) {S : Nat → Bool} (h : Down ds S) {i : Nat} {o : Oper} (ho : ops[i]? = some o) (hi : ∀ e, e ∈ edgeL o.after.toList → S e = true) :
    Down ds (fun j => S j || j == i) ∧ ∀ d, ds[i]? = some d → ∀ n, n ∈ d → S n = true := by
  have key : ∀ d, ds[i]? = some d → ∀ n, n ∈ d → S n = true := by
    intro d hd n hn
    obtain ⟨e, d', h1, h2, h3⟩ := D.close i o d n ho hd hn
    rcases h3 with rfl | h3
    · exact hi n h1
    · exact h e n d' (hi e h1) h2 h3
  refine ⟨fun j n d hj hd hn => ?_, key⟩
  simp only [Bool.or_eq_true, beq_iff_eq] at hj ⊢
  rcases hj with hj | rfl
  · exact .inl (h j n d hj hd hn)
  · exact .inl (key d hd n hn)
end Go.Sx

namespace Go.Sx
open Go.RowKit

structure Rc (R : Type) where
  dst : Option Nat
  gd : Bool
  π : Path
  v : Option SV
  need : Option Prop
  kind : Nat
  h0 : List (HO R)
  h1 : List (HO R)
  eff : List Nat

def blankS (i:Nat) : List Oper → List (List Nat) → List (Option SV) → List (Option SV)
  | o :: os, d :: ds, sl => match o.dst with
    | none => blankS i os ds sl
    | some t => match mem i d with
      | true => blankS i os ds sl
      | false => blankS i os ds (sl.set t none)
  | _, _, sl => sl
def layS {R : Type} (recs : List (Rc R)) : List Nat → List (Option SV) → List (Option SV)
  | [], sl => sl
  | j :: js, sl => match recs[j]? with
    | some r => match r.dst, r.gd with
      | some t, false => layS recs js (sl.set t r.v)
      | _, _ => layS recs js sl
    | none => layS recs js sl
def layG {R : Type} (recs : List (Rc R)) : List Nat → GT
  | [] => []
  | j :: js => match recs[j]? with
    | some r => match r.dst, r.gd, r.v with
      | some t, true, some v => (t, r.π, v) :: layG recs js
      | _, _, _ => layG recs js
    | none => layG recs js

structure Res (R : Type) where
  v : Option SV
  need : Option Prop
  kind : Nat
  h1 : List (HO R)
  eff : List Nat
def isNil {α : Type} : List α → Bool
  | [] => true
  | _ => false
def eqLen {α β : Type} : List α → List β → Bool
  | [], [] => true
  | _ :: a, _ :: b => eqLen a b
  | _, _ => false
theorem eqLen_iff {α β : Type} : ∀ {a : List α} {b : List β}, eqLen a b = true ↔ a.length = b.length
  | [], [] => by simp [eqLen]
  | _ :: a, _ :: b => by simp [eqLen, eqLen_iff]
  | [], _ :: _ => by simp [eqLen]
  | _ :: _, [] => by simp [eqLen]
def opKind : Op → Nat
  | .load _ _ => 1
  | .alloc _ => 3
  | .box _ _ => 3
  | .buildSlice _ _ _ => 3
  | .store _ _ _ => 4
  | _ => 0
def frozenAt (tch : Nat → Bool) (ev : Operand → Option SV) : Op → Option Nat
  | .load _ x => match ev x with
    | some (.ptr n _) => match tch n with
      | true => none
      | false => some n
    | some (.elt n _ _ _) => match tch n with
      | true => none
      | false => some n
    | _ => none
  | _ => none
def zerO {R : Type} (c : Bool) : HO R → HO R
  | .row t sz len el => .row t sz (cnd c len 0) el
  | _ => .gone
def zers {R : Type} (c : Bool) : Nat → List (HO R) → List (HO R)
  | 0, [] => []
  | 0, o :: l => zerO c o :: zers c 0 l
  | _ + 1, [] => []
  | n + 1, _ :: l => zers c n l
theorem zers_length {R : Type} {c : Bool} : ∀ {n : Nat} {l : List (HO R)}, (zers c n l).length = l.length - n
  | 0, [] => rfl
  | 0, o :: l => by simp [zers, zers_length (n := 0) (l := l)]
  | _ + 1, [] => by simp [zers]
  | n + 1, _ :: l => by simp [zers, zers_length (n := n) (l := l)]
theorem zers_get {R : Type} {c : Bool} : ∀ {n : Nat} {l : List (HO R)} {i : Nat} {o : HO R}, (zers c n l)[i]? = some o → ∃ u, l[n + i]? = some u ∧ o = zerO c u
  | 0, [], i, o, h => by simp [zers] at h
  | 0, u :: l, 0, o, h => by simp only [zers, List.getElem?_cons_zero, Option.some.injEq] at h; exact ⟨u, rfl, h.symm⟩
  | 0, u :: l, i + 1, o, h => by
    simp only [zers, List.getElem?_cons_succ] at h
    obtain ⟨u', a, b⟩ := zers_get (n := 0) h
    exact ⟨u', by simpa using a, b⟩
  | _ + 1, [], i, o, h => by simp [zers] at h
  | n + 1, _ :: l, i, o, h => by
    simp only [zers] at h
    obtain ⟨u, a, b⟩ := zers_get (n := n) h
    exact ⟨u, by rw [show n + 1 + i = (n + i) + 1 by omega, List.getElem?_cons_succ]; exact a, b⟩
def evOne (T : Theory) (P : Program) (tbl : Nat → Option (CF T.R)) (tch : Nat → Bool) (o : Oper) (sl : List (Option SV)) (g : GT) (π : Path) (c : Bool) (he cur : List (HO T.R)) : Option (Res T.R) :=
  match o.op with
  | .pick x y z => match evPick sl g π x y z with
    | some v => some ⟨some v, none, 0, [], []⟩
    | none => none
  | .call { callee := .value f, args := as, argTypes := _ } =>
    match evalG sl g π f, evArgs (evalG sl g π) as.toList with
    | some (.fn k caps), some vs => match calleeOk P k, tbl k with
      | true, some C => match scpL 0 (vs ++ caps) with
        | true => match C (vs ++ caps) [] with
          | some tr => match tr.single with
            | some (p, v, [], []) => some ⟨some v, whenN c p, 0, [], []⟩
            | _ => none
          | none => none
        | false => match C (vs ++ caps) cur with
          | some tr => match tr.single with
            | some (p, v, h', dt) => match isNil dt, eqLen h' cur with
              | true, true => some ⟨some v, whenN c p, 2, [], []⟩
              | true, false => match o.guard with
                | none => some ⟨some v, p, 3, h', []⟩
                | some _ => some ⟨some v, whenN c p, 4, cur ++ zers c cur.length h', []⟩
              | false, _ => match o.guard with
                | none => some ⟨some v, p, 4, h', dt⟩
                | some _ => match mrgH c dt 0 cur h' cur with
                  | some hm => some ⟨some v, whenN c p, 4, hm ++ gones (h'.length - cur.length), dt⟩
                  | none => none
            | none => none
          | none => none
      | _, _ => none
    | _, _ => none
  | _ => match opKind o.op with
    | 0 => match evOp P (evalG sl g π) ([] : List (HO T.R)) o with
      | some (some v, [], n) => some ⟨some v, whenN c n, 0, [], []⟩
      | _ => none
    | 1 => match frozenAt tch (evalG sl g π) o.op with
      | some m => match evOp P (evalG sl g π) he o with
        | some (some v, _, n) => some ⟨some v, whenN c n, m + 5, [], []⟩
        | _ => none
      | none => match evOp P (evalG sl g π) he o with
        | some (some v, _, n) => some ⟨some v, whenN c n, 1, [], []⟩
        | _ => match evOp P (evalG sl g π) cur o with
          | some (some v, _, n) => some ⟨some v, whenN c n, 2, [], []⟩
          | _ => none
    | k => match o.guard with
      | none => match evOp P (evalG sl g π) cur o with
        | some (v, h', n) => some ⟨v, n, k, h', dirtOf (evalG sl g π) o.op⟩
        | none => none
      | some _ => none

def isC (k:Nat) : Bool := match k with
  | 3 => true
  | 4 => true
  | _ => false
def evDr (T : Theory) (P : Program) (tbl : Nat → Option (CF T.R)) (tch : Nat → Bool) (all : Array Oper) (ds : List (List Nat)) (slots : List (Option SV)) :
    List Oper → List (List Nat) → Nat → List (Rc T.R) → (he cur : List (HO T.R)) → Option (List (Rc T.R))
  | o :: os, d :: dl, i, recs, he, cur =>
    match guardPath all (layG recs d) o.guard with
    | some π => match pathB (layS recs d (blankS i all.toList ds slots)) (layG recs d) [] π, okPath slots.length o π with
      | some c, true => match evOne T P tbl tch o (layS recs d (blankS i all.toList ds slots)) (layG recs d) π c he cur with
        | some r => match r.kind with
          | 3 => evDr T P tbl tch all ds slots os dl (i + 1) (recs ++ [⟨o.dst, o.guard.isSome, π, r.v, r.need, 3, cur, r.h1, r.eff⟩]) he r.h1
          | 4 => evDr T P tbl tch all ds slots os dl (i + 1) (recs ++ [⟨o.dst, o.guard.isSome, π, r.v, r.need, 4, cur, r.h1, r.eff⟩]) r.h1 r.h1
          | 1 => evDr T P tbl tch all ds slots os dl (i + 1) (recs ++ [⟨o.dst, o.guard.isSome, π, r.v, r.need, 1, he, r.h1, r.eff⟩]) he cur
          | k => evDr T P tbl tch all ds slots os dl (i + 1) (recs ++ [⟨o.dst, o.guard.isSome, π, r.v, r.need, k, cur, r.h1, r.eff⟩]) he cur
        | none => none
      | _, _ => none
    | none => none
  | [], [], _, recs, _, _ => some recs
  | _, _, _, _, _, _ => none

section
variable {P : Program} {T : Theory} {K : Nat → Prop} {w0 w : World} {ρ : Env} {h : List (HO T.R)}

theorem blankS_get {i : Nat} : ∀ {os : List Oper} {ds : List (List Nat)} {sl : List (Option SV)} {t : Nat} {v : SV}, (blankS i os ds sl)[t]? = some (some v) →
    sl[t]? = some (some v) ∧ ∀ (j:Nat) o d, os[j]? = some o → ds[j]? = some d → o.dst = some t → i ∈ d
  | [], ds, sl, t, v, h => ⟨by simpa [blankS] using h, fun j o d ho => by simp at ho⟩
  | o :: os, [], sl, t, v, h => ⟨by simpa [blankS] using h, fun j o d _ hd => by simp at hd⟩
  | o :: os, d :: ds, sl, t, v, h => by
    simp only [blankS] at h
    split at h
    · rename_i hd
      obtain ⟨a, b⟩ := blankS_get h
      refine ⟨a, fun j o' d' ho hd' hdst => ?_⟩
      cases j with
      | zero => simp at ho; subst ho; rw [hd] at hdst; cases hdst
      | succ j => simp at ho hd'; exact b j o' d' ho hd' hdst
    · rename_i t' hd
      split at h
      · rename_i hm
        obtain ⟨a, b⟩ := blankS_get h
        refine ⟨a, fun j o' d' ho hd' hdst => ?_⟩
        cases j with
        | zero => simp at ho hd'; subst hd'; exact mem_iff.1 hm
        | succ j => simp at ho hd'; exact b j o' d' ho hd' hdst
      · obtain ⟨a, b⟩ := blankS_get h
        have hne : t' ≠ t := by
          rintro rfl
          rw [List.getElem?_set] at a
          split at a
          · split at a <;> cases a
          · rename_i e; exact absurd rfl e
        rw [List.getElem?_set_ne hne] at a
        refine ⟨a, fun j o' d' ho hd' hdst => ?_⟩
        cases j with
        | zero => simp at ho; subst ho; rw [hd] at hdst; cases hdst; exact absurd rfl hne
        | succ j => simp at ho hd'; exact b j o' d' ho hd' hdst
theorem blankS_length {i : Nat} : ∀ {os : List Oper} {ds : List (List Nat)} {sl : List (Option SV)}, (blankS i os ds sl).length = sl.length
  | [], ds, sl => by simp [blankS]
  | o :: os, [], sl => by simp [blankS]
  | o :: os, d :: ds, sl => by
    simp only [blankS]
    split
    · exact blankS_length
    · split
      · exact blankS_length
      · rw [blankS_length]; simp
theorem layS_get {R : Type} {recs : List (Rc R)} : ∀ {js : List Nat} {sl : List (Option SV)} {t : Nat} {v : SV}, (layS recs js sl)[t]? = some (some v) →
    (∃ j r, j ∈ js ∧ recs[j]? = some r ∧ r.dst = some t ∧ r.gd = false ∧ r.v = some v) ∨ sl[t]? = some (some v)
  | [], sl, t, v, h => .inr h
  | j :: js, sl, t, v, h => by
    simp only [layS] at h
    split at h
    · rename_i r hr
      split at h
      · rename_i t' h1 h2
        rcases layS_get h with ⟨j', r', a, b⟩ | h'
        · exact .inl ⟨j', r', List.mem_cons_of_mem _ a, b⟩
        · by_cases e : t' = t
          · subst e
            rw [List.getElem?_set] at h'
            split at h'
            · split at h'
              · simp only [Option.some.injEq] at h'
                exact .inl ⟨j, r, List.mem_cons_self, hr, h1, h2, h'⟩
              · cases h'
            · rename_i e; exact absurd rfl e
          · rw [List.getElem?_set_ne e] at h'
            exact .inr h'
      · rcases layS_get h with ⟨j', r', a, b⟩ | h'
        · exact .inl ⟨j', r', List.mem_cons_of_mem _ a, b⟩
        · exact .inr h'
    · rcases layS_get h with ⟨j', r', a, b⟩ | h'
      · exact .inl ⟨j', r', List.mem_cons_of_mem _ a, b⟩
      · exact .inr h'
theorem layS_length {R : Type} {recs : List (Rc R)} : ∀ {js : List Nat} {sl : List (Option SV)}, (layS recs js sl).length = sl.length
  | [], sl => rfl
  | j :: js, sl => by
    simp only [layS]
    split
    · split
      · rw [layS_length]; simp
      · exact layS_length
    · exact layS_length
theorem layG_mem {R : Type} {recs : List (Rc R)} : ∀ {js : List Nat} {x : Nat × Path × SV}, x ∈ layG recs js → ∃ j r, j ∈ js ∧ recs[j]? = some r ∧ r.dst = some x.1 ∧ r.gd = true ∧ r.π = x.2.1 ∧ r.v = some x.2.2
  | [], x, h => by cases h
  | j :: js, x, h => by
    simp only [layG] at h
    split at h
    · rename_i r hr
      split at h
      · rename_i t v h1 h2 h3
        rcases List.mem_cons.1 h with rfl | h
        · exact ⟨j, r, List.mem_cons_self, hr, h1, h2, rfl, h3⟩
        · obtain ⟨j', r', a, b⟩ := layG_mem h
          exact ⟨j', r', List.mem_cons_of_mem _ a, b⟩
      · obtain ⟨j', r', a, b⟩ := layG_mem h
        exact ⟨j', r', List.mem_cons_of_mem _ a, b⟩
    · obtain ⟨j', r', a, b⟩ := layG_mem h
      exact ⟨j', r', List.mem_cons_of_mem _ a, b⟩

theorem evAppend_nil {R : Type} {P : Program} {t t' : Nat} {x y : SV} : evAppend P ([] : List (HO R)) t t' x y = none := by
  unfold evAppend
  repeat' (first | rfl | split)
  all_goals simp_all
theorem evClear_nil {R : Type} {P : Program} {t : Nat} {x : SV} {h' : List (HO R)} {n : Option Prop} (H : evClear P ([] : List (HO R)) t x = some (h', n)) (h : List (HO R)) : h' = [] ∧ evClear P h t x = some (h, n) := by
  unfold evClear at H ⊢
  split at H
  · split at H
    · split at H
      · simp at H
      · cases H; exact ⟨rfl, by simp_all⟩
      · cases H
    · cases H
  · cases H
theorem evOp_any {R : Type} {P : Program} {ev : Operand → Option SV} {o : Oper} {v : Option SV} {n : Option Prop} {h' : List (HO R)} (hk : opKind o.op = 0) (H : evOp P ev ([] : List (HO R)) o = some (v, h', n)) (h : List (HO R)) :
    evOp P ev h o = some (v, h, n) := by
  unfold evOp at H ⊢
  split at H <;> rename_i eo <;> simp only [eo, opKind, reduceCtorEq] at hk ⊢
  all_goals try (cases H; done)
  case h_22 =>
    split at H
    · rw [evAppend_nil] at H; cases H
    · cases H
  case h_23 =>
    split at H
    · split at H
      · rename_i hq
        cases H
        obtain ⟨_, e⟩ := evClear_nil hq h
        rw [e]
      · cases H
    · cases H
  all_goals (repeat' (first | (cases H; rfl) | (cases H; done) | split at H))
theorem evLoad_more {R : Type} {P : Program} {t : Nat} {h : List (HO R)} {a : SV} {r : SV × Option Prop} (H : evLoad P t h a = some r) (e : List (HO R)) : evLoad P t (h ++ e) a = some r := by
  unfold evLoad at H ⊢
  split at H
  · rename_i n off
    split at H
    · rename_i u xs ho
      have : (h ++ e)[n]? = some (.cells u xs) := by rw [List.getElem?_append_left (List.getElem?_eq_some_iff.1 ho).1]; exact ho
      simp only [this]
      exact H
    · cases H
  · rename_i n sz i off
    split at H
    · rename_i u xs ho
      have : (h ++ e)[n]? = some (.cells u xs) := by rw [List.getElem?_append_left (List.getElem?_eq_some_iff.1 ho).1]; exact ho
      simp only [this]
      exact H
    · rename_i u sz' len el ho
      have : (h ++ e)[n]? = some (.row u sz' len el) := by rw [List.getElem?_append_left (List.getElem?_eq_some_iff.1 ho).1]; exact ho
      simp only [this]
      exact H
    · rename_i u sz' len el ob ho
      have : (h ++ e)[n]? = some (.ro u sz' len el ob) := by rw [List.getElem?_append_left (List.getElem?_eq_some_iff.1 ho).1]; exact ho
      simp only [this]
      exact H
    · cases H
  · exact H
  · cases H
theorem evLoad_same {R : Type} {P : Program} {t : Nat} {h h' : List (HO R)} {a : SV} {m : Nat} (ha : (∃ off, a = .ptr m off) ∨ ∃ sz i off, a = .elt m sz i off) (hh : h'[m]? = h[m]?) : evLoad P t h' a = evLoad P t h a := by
  rcases ha with ⟨off, rfl⟩ | ⟨sz, i, off, rfl⟩
  · simp only [evLoad, hh]
  · simp only [evLoad, hh]
theorem frozenAt_spec {tch : Nat → Bool} {ev : Operand → Option SV} {o : Op} {m : Nat} (h : frozenAt tch ev o = some m) : ∃ t x a, o = .load t x ∧ ev x = some a ∧ ((∃ off, a = .ptr m off) ∨ ∃ sz i off, a = .elt m sz i off) := by
  unfold frozenAt at h
  split at h
  · rename_i t x
    split at h
    · rename_i n off hx
      split at h
      · cases h
      · cases h; exact ⟨t, x, _, rfl, hx, .inl ⟨_, rfl⟩⟩
    · rename_i n sz i off hx
      split at h
      · cases h
      · cases h; exact ⟨t, x, _, rfl, hx, .inr ⟨_, _, _, rfl⟩⟩
    · cases h
  · cases h
theorem evOp_frozen {R : Type} {P : Program} {ev : Operand → Option SV} {o : Oper} {v : Option SV} {n : Option Prop} {h h' hs : List (HO R)} {tch : Nat → Bool} {m : Nat} (hf : frozenAt tch ev o.op = some m) (H : evOp P ev h o = some (v, h', n)) (hh : hs[m]? = h[m]?) :
    evOp P ev hs o = some (v, hs, n) := by
  obtain ⟨t, x, a, e1, e2, e3⟩ := frozenAt_spec hf
  unfold evOp at H ⊢
  rw [e1] at H ⊢
  simp only [e2] at H ⊢
  rw [evLoad_same e3 hh]
  split at H
  · cases H; rfl
  · cases H
theorem evOp_load {R : Type} {P : Program} {ev : Operand → Option SV} {o : Oper} {v : Option SV} {n : Option Prop} {h h' : List (HO R)} (hk : opKind o.op = 1) (H : evOp P ev h o = some (v, h', n)) (e : List (HO R)) :
    evOp P ev (h ++ e) o = some (v, h ++ e, n) := by
  unfold evOp at H ⊢
  split at H <;> rename_i eo <;> first | (rw [eo] at hk) | (cases H; done)
  all_goals first
    | (simp [opKind] at hk; done)
    | skip
  split at H
  · rename_i a ha
    split at H
    · rename_i r n' hl
      cases H
      simp only [evLoad_more hl e]
    · cases H
  · cases H
end
end Go.Sx

namespace Go.Sx
open Go.RowKit
section
variable {P : Program} {T : Theory} {K : Nat → Prop} {w0 w : World} {ρ : Env}

theorem opKind_all (op : Op) : opKind op = 0 ∨ opKind op = 1 ∨ opKind op = 3 ∨ opKind op = 4 := by cases op <;> simp [opKind]
theorem opKind_frame {R : Type} {P : Program} {ev : Operand → Option SV} {h h' : List (HO R)} {o : Oper} {v : Option SV} {n : Option Prop} (H : evOp P ev h o = some (v, h', n)) (hk : opKind o.op = 3) : ∃ x, h' = h ++ [x] := by
  unfold evOp at H
  split at H <;> rename_i eo <;> first | (rw [eo] at hk) | (cases H; done)
  all_goals first
    | (simp [opKind] at hk; done)
    | skip
  · split at H
    · cases H; exact ⟨_, rfl⟩
    · cases H
  · split at H
    · cases H; exact ⟨_, rfl⟩
    · cases H
  · split at H
    · split at H
      · split at H
        · split at H
          · split at H
            · cases H; exact ⟨_, rfl⟩
            · cases H
          · cases H
        · cases H
      · cases H
    · cases H

theorem zer_run {h' cur : List (HO T.R)} (hl : cur.length ≤ h'.length) (hf : ∀ n, n < cur.length → h'[n]? = cur[n]?) (I : Inv T K w0 ρ h' w) : Inv T K w0 ρ (cur ++ zers true cur.length h') w := by
  refine I.weaken (by rw [List.length_append, zers_length]; omega) ?_
  intro i o hi
  by_cases hlt : i < cur.length
  · rw [List.getElem?_append_left hlt, ← hf i hlt] at hi
    exact .inr hi
  · rw [List.getElem?_append_right (by omega)] at hi
    obtain ⟨u, a, b⟩ := zers_get hi
    rw [show cur.length + (i - cur.length) = i by omega] at a
    cases u with
    | row t sz len el => exact .inr (by rw [b]; exact a)
    | _ => exact .inl b
theorem zer_pad : ∀ (l : List (HO T.R)) {h : List (HO T.R)} {ρ : Env}, (∀ o, o ∈ l → o = .gone ∨ ∃ t sz el, o = .row t sz 0 el) → Inv T K w0 ρ h w → Inv T K w0 (ρ ++ List.replicate l.length ⟨0, 0, true, 0⟩) (h ++ l) w
  | [], h, ρ, _, I => by simpa using I
  | o :: l, h, ρ, hl, I => by
    have I1 := I.news ⟨0, 0, true, 0⟩ o (fun _ => False) (Turns.refl _ _) (fun _ q => q.elim) (by
      rcases hl o List.mem_cons_self with rfl | ⟨t, sz, el, rfl⟩
      · trivial
      · exact .inl ⟨rfl, rfl⟩)
    have := zer_pad l (fun o ho => hl o (List.mem_cons_of_mem _ ho)) I1
    simpa [List.replicate_succ] using this
theorem zer_skip {h' cur : List (HO T.R)} (I : Inv T K w0 ρ cur w) : ∃ ρ', Pre ρ ρ' ∧ Inv T K w0 ρ' (cur ++ zers false cur.length h') w := by
  refine ⟨_, ⟨_, rfl⟩, zer_pad _ (fun o ho => ?_) I⟩
  obtain ⟨i, hi⟩ := List.mem_iff_getElem?.1 ho
  obtain ⟨u, _, b⟩ := zers_get hi
  cases u with
  | row t sz len el => exact .inr ⟨t, sz, el, b⟩
  | _ => exact .inl b
theorem evOne_kind {tbl : Nat → Option (CF T.R)} {tch : Nat → Bool} (hT : ∀ k C, tbl k = some C → Sound P T k C) {o : Oper} {sl : List (Option SV)} {g : GT} {π : Path} {c : Bool} {he cur : List (HO T.R)} {r : Res T.R}
    (E : evOne T P tbl tch o sl g π c he cur = some r) (hn : Nd r.need) : True ∧ (r.kind = 3 → (∃ x, r.h1 = cur ++ x) ∧ r.eff = [] ∧ o.guard = none) ∧
      (r.kind = 4 → (o.guard = none ∨ ∀ (K : Nat → Prop) (w0 : World) (ρ : Env) (w : World), c = false → Inv T K w0 ρ cur w → ∃ ρ', Pre ρ ρ' ∧ Inv T K w0 ρ' r.h1 w) ∧ cur.length ≤ r.h1.length ∧ ∀ n, n < cur.length → n ∉ r.eff → r.h1[n]? = cur[n]?) ∧ (r.kind ≠ 4 → r.eff = []) := by
  unfold evOne at E
  split at E
  · split at E
    · cases E; exact ⟨by simp, (fun e => by cases e), (fun e => by cases e), fun _ => rfl⟩
    · cases E
  · split at E
    · split at E
      · rename_i C hco hC
        split at E
        · split at E
          · split at E
            · cases E; exact ⟨by simp, (fun e => by cases e), (fun e => by cases e), fun _ => rfl⟩
            · cases E
          · cases E
        · split at E
          · rename_i tr htr
            split at E
            · rename_i p v h' dt hs
              split at E
              · cases E; exact ⟨by simp, (fun e => by cases e), (fun e => by cases e), fun _ => rfl⟩
              · rename_i hd hl
                split at E
                · rename_i hgn
                  cases E
                  obtain ⟨s1, s2⟩ := Tr.single_spec hs
                  obtain ⟨_, a, b⟩ := hT _ C hC _ _ _ htr (s1 hn)
                  rw [s2] at a b
                  have hdt : dt = [] := by
                    cases dt with
                    | nil => rfl
                    | cons _ _ => cases hd
                  refine ⟨by simp, fun _ => ⟨⟨h'.drop cur.length, ?_⟩, rfl, hgn⟩, (fun e => by cases e), fun _ => rfl⟩
                  show h' = cur ++ h'.drop cur.length
                  have e : h'.take cur.length = cur := by
                    apply List.ext_getElem?
                    intro i
                    by_cases hi : i < cur.length
                    · rw [List.getElem?_take, if_pos hi]
                      exact b i hi (by rw [hdt]; simp)
                    · rw [List.getElem?_eq_none (by rw [List.length_take]; omega), List.getElem?_eq_none (by omega)]
                  conv => lhs; rw [← List.take_append_drop cur.length h', e]
                · cases E
                  refine ⟨by simp, (fun e => by cases e), fun _ => ⟨.inr fun K w0 ρ w hc I => by subst hc; exact zer_skip I, by rw [List.length_append]; omega, fun n hn _ => List.getElem?_append_left hn⟩, fun e => absurd rfl e⟩
              · split at E
                · rename_i hgn
                  cases E
                  obtain ⟨s1, s2⟩ := Tr.single_spec hs
                  obtain ⟨_, a, b⟩ := hT _ C hC _ _ _ htr (s1 hn)
                  rw [s2] at a b
                  exact ⟨by simp, (fun e => by cases e), fun _ => ⟨.inl hgn, a, b⟩, fun e => absurd rfl e⟩
                · split at E
                  · rename_i hm hmm
                    cases E
                    obtain ⟨m1, m2⟩ := mrgH_spec hmm
                    refine ⟨by simp, (fun e => by cases e), fun _ => ⟨.inr fun K w0 ρ w hc I => ⟨_, ⟨_, rfl⟩, mrgH_skip hmm hc I _⟩, ?_, ?_⟩, fun e => absurd rfl e⟩
                    · show cur.length ≤ (hm ++ _).length
                      rw [List.length_append]; omega
                    · intro n hlt hnd
                      show (hm ++ _)[n]? = _
                      rw [List.getElem?_append_left (by omega)]
                      obtain ⟨o', u, v', a1, _, _, a4⟩ := m2 n _ (List.getElem?_eq_getElem hlt)
                      rw [a1, List.getElem?_eq_getElem hlt]
                      rcases a4 with ⟨q, _⟩ | ⟨_, rfl⟩
                      · rw [Nat.zero_add] at q
                        exact absurd (mem_iff.1 q) hnd
                      · rfl
                  · cases E
            · cases E
          · cases E
      · cases E
    · cases E
  · split at E
    · split at E
      · cases E; exact ⟨by simp, (fun e => by cases e), (fun e => by cases e), fun _ => rfl⟩
      · cases E
    · split at E
      · split at E
        · cases E; exact ⟨trivial, (fun e => by simp only at e; omega), (fun e => by simp only at e; omega), fun _ => rfl⟩
        · cases E
      · split at E
        · cases E; exact ⟨by simp, (fun e => by cases e), (fun e => by cases e), fun _ => rfl⟩
        · split at E
          · cases E; exact ⟨by simp, (fun e => by cases e), (fun e => by cases e), fun _ => rfl⟩
          · cases E
    · rename_i hk1 hk2
      split at E
      · rename_i hgn
        split at E
        · rename_i v h' n he'
          cases E
          have hk34 : opKind o.op = 3 ∨ opKind o.op = 4 := by
            rcases opKind_all o.op with e | e | e | e
            · exact (hk1 e).elim
            · exact (hk2 e).elim
            · exact .inl e
            · exact .inr e
          obtain ⟨f1, f2, _⟩ := evOp_frame he'
          refine ⟨trivial, fun e => ⟨(let ⟨x, q⟩ := opKind_frame he' e; ⟨[x], q⟩), ?_, hgn⟩, fun _ => ⟨.inl hgn, f1, f2⟩, fun e => ?_⟩
          · cases ho : o.op <;> rw [ho] at e <;> first | rfl | (simp [opKind] at e)
          · simp only at e
            have hk0 : opKind o.op ≠ 0 := by rcases hk34 with q | q <;> rw [q] <;> decide
            cases ho : o.op <;> first | rfl | (rw [ho] at e; exact absurd rfl e) | (rw [ho] at hk0; exact absurd rfl hk0)
        · cases E
      · cases E

end
end Go.Sx

namespace Go.Sx
open Go.RowKit
section
variable {P : Program} {T : Theory} {K : Nat → Prop} {w0 w : World} {ρ : Env}

theorem evOne_sound {tbl : Nat → Option (CF T.R)} {tch : Nat → Bool} (hT : ∀ k C, tbl k = some C → Sound P T k C) {o : Oper} {sl : List (Option SV)} {g : GT} {π : Path} {c : Bool} {he cur hs : List (HO T.R)} {r : Res T.R} {a : Act}
    (E : evOne T P tbl tch o sl g π c he cur = some r) (hG : GRel ρ sl g a) (hc : c = true) (hn : Nd r.need) (hp : holds a π) (I : Inv T K w0 ρ hs w)
    (h1 : r.kind = 1 → ∃ e, hs = he ++ e) (h2 : r.kind = 2 ∨ r.kind = 3 ∨ r.kind = 4 → hs = cur) (h5 : ∀ m, r.kind = m + 5 → hs[m]? = he[m]?) {next : Act → World → Prop} {Q : Exit → Act → World → Prop}
    (hnext : ∀ ρ' cv w', Pre ρ ρ' → Inv T K w0 ρ' (if isC r.kind then r.h1 else hs) w' → (∀ v, r.v = some v → Rel ρ' v cv) → next (a.put o.dst cv) w') : o.wp P a w next Q := by
  subst hc
  unfold evOne at E
  split at E
  · rename_i x y z eo
    split at E
    · rename_i v hv
      cases E
      obtain ⟨b, hb, hr⟩ := evPick_sound hG hp hv
      have e : (execOp a.eval o).run P w = .ok (.value (if b then a.eval y else a.eval z)) w := by simp [execOp, eo, hb, asBool]
      simp only [Oper.wp, e, Oper.upon_value]
      exact hnext ρ _ w (Pre.refl _) I (fun u hu => by cases hu; exact hr)
    · cases E
  · rename_i f as ts eo
    split at E
    · rename_i k caps vs hf has
      obtain ⟨cs, hfe, hcs⟩ := evalG_sound hG hp _ _ hf
      have hargs := (evArgs_sound (evalG_sound hG hp) has).append hcs
      split at E
      · rename_i C hco hC
        simp only [Oper.wp, run_call eo hfe hco w, Oper.upon_enter]
        split at E
        · rename_i hsc
          split at E
          · rename_i tr htr
            split at E
            · rename_i p v hsg
              cases E
              obtain ⟨s1, s2⟩ := Tr.single_spec hsg
              refine (pure_call (hT k C hC) htr (s1 (whenN_out hn rfl)) s2 hsc I hargs).mono ?_
              rintro e w' ⟨cv, rfl, I', hr⟩
              exact hnext ρ cv w' (Pre.refl _) I' (fun u hu => by cases hu; exact hr)
            · cases E
          · cases E
        · split at E
          · rename_i tr htr
            split at E
            · rename_i p v h' dt hsg
              obtain ⟨s1, s2⟩ := Tr.single_spec hsg
              split at E
              · rename_i hd hl
                cases E
                obtain rfl := h2 (.inl rfl)
                obtain ⟨q1, q2, q3⟩ := hT k C hC _ _ _ htr (s1 (whenN_out hn rfl))
                rw [s2] at q1 q2 q3
                refine (q1 K w0 ρ w _ I hargs).mono ?_
                rintro e w' ⟨ρ', cv, rfl, hpre, I', hr⟩
                have hh : h' = hs := by
                  apply List.ext_getElem?
                  intro i
                  by_cases hi : i < hs.length
                  · refine q3 i hi ?_
                    cases dt with
                    | nil => simp
                    | cons _ _ => cases hd
                  · rw [List.getElem?_eq_none (by rw [eqLen_iff.1 hl]; omega), List.getElem?_eq_none (by omega)]
                subst hh
                exact hnext ρ' cv w' hpre I' (fun u hu => by cases hu; exact hr)
              · rename_i hd hl
                split at E
                · cases E
                  obtain rfl := h2 (.inr (.inl rfl))
                  obtain ⟨q1, q2, q3⟩ := hT k C hC _ _ _ htr (s1 hn)
                  rw [s2] at q1
                  refine (q1 K w0 ρ w _ I hargs).mono ?_
                  rintro e w' ⟨ρ', cv, rfl, hpre, I', hr⟩
                  exact hnext ρ' cv w' hpre I' (fun u hu => by cases hu; exact hr)
                · cases E
                  obtain rfl := h2 (.inr (.inr rfl))
                  obtain ⟨q1, q2, q3⟩ := hT k C hC _ _ _ htr (s1 (whenN_out hn rfl))
                  rw [s2] at q1 q2 q3
                  refine (q1 K w0 ρ w _ I hargs).mono ?_
                  rintro e w' ⟨ρ', cv, rfl, hpre, I', hr⟩
                  have hdt : dt = [] := by
                    cases dt with
                    | nil => rfl
                    | cons _ _ => cases hd
                  exact hnext ρ' cv w' hpre (zer_run q2 (fun n hn => q3 n hn (by rw [hdt]; exact List.not_mem_nil)) I') (fun u hu => by cases hu; exact hr)
              · split at E
                · cases E
                  obtain rfl := h2 (.inr (.inr rfl))
                  obtain ⟨q1, q2, q3⟩ := hT k C hC _ _ _ htr (s1 hn)
                  rw [s2] at q1
                  refine (q1 K w0 ρ w _ I hargs).mono ?_
                  rintro e w' ⟨ρ', cv, rfl, hpre, I', hr⟩
                  exact hnext ρ' cv w' hpre I' (fun u hu => by cases hu; exact hr)
                · split at E
                  · rename_i hm hmm
                    cases E
                    obtain rfl := h2 (.inr (.inr rfl))
                    obtain ⟨q1, q2, q3⟩ := hT k C hC _ _ _ htr (s1 (whenN_out hn rfl))
                    rw [s2] at q1 q2 q3
                    refine (q1 K w0 ρ w _ I hargs).mono ?_
                    rintro e w' ⟨ρ', cv, rfl, hpre, I', hr⟩
                    exact hnext ρ' cv w' hpre (mrgH_run hmm q2 q3 rfl I') (fun u hu => by cases hu; exact hr)
                  · cases E
            · cases E
          · cases E
      · cases E
    · cases E
  · split at E
    · rename_i hk
      split at E
      · rename_i v n he'
        cases E
        obtain ⟨w', ρ', nx, e1, hpre, hI', hres⟩ := evOp_sound (evOp_any hk he' hs) (whenN_out hn rfl) I (evalG_sound hG hp)
        simp only [Oper.wp, e1]
        rcases hres with ⟨vv, cv, hv, rfl, hr⟩ | ⟨hv, _⟩
        · cases hv
          rw [Oper.upon_value]
          exact hnext ρ' cv w' hpre hI' (fun u hu => by cases hu; exact hr)
        · cases hv
      · cases E
    · rename_i hk
      split at E
      · rename_i m hfz
        split at E
        · rename_i v h' n he'
          cases E
          obtain ⟨w', ρ', nx, e1, hpre, hI', hres⟩ := evOp_sound (evOp_frozen hfz he' (h5 _ rfl)) (whenN_out hn rfl) I (evalG_sound hG hp)
          have hnc : isC (m + 5) = false := rfl
          simp only [Oper.wp, e1]
          rcases hres with ⟨vv, cv, hv, rfl, hr⟩ | ⟨hv, _⟩
          · cases hv
            rw [Oper.upon_value]
            exact hnext ρ' cv w' hpre (by rw [if_neg (by rw [hnc]; exact Bool.false_ne_true)]; exact hI') (fun u hu => by cases hu; exact hr)
          · cases hv
        · cases E
      · split at E
        · rename_i v h' n he'
          cases E
          obtain ⟨ex, rfl⟩ := h1 rfl
          obtain ⟨w', ρ', nx, e1, hpre, hI', hres⟩ := evOp_sound (evOp_load hk he' ex) (whenN_out hn rfl) I (evalG_sound hG hp)
          simp only [Oper.wp, e1]
          rcases hres with ⟨vv, cv, hv, rfl, hr⟩ | ⟨hv, _⟩
          · cases hv
            rw [Oper.upon_value]
            exact hnext ρ' cv w' hpre hI' (fun u hu => by cases hu; exact hr)
          · cases hv
        · split at E
          · rename_i v h' n he'
            cases E
            obtain rfl := h2 (.inl rfl)
            obtain ⟨w', ρ', nx, e1, hpre, hI', hres⟩ := evOp_sound (evOp_load hk he' []) (whenN_out hn rfl) (by rw [List.append_nil]; exact I) (evalG_sound hG hp)
            simp only [List.append_nil] at hI'
            simp only [Oper.wp, e1]
            rcases hres with ⟨vv, cv, hv, rfl, hr⟩ | ⟨hv, _⟩
            · cases hv
              rw [Oper.upon_value]
              exact hnext ρ' cv w' hpre hI' (fun u hu => by cases hu; exact hr)
            · cases hv
          · cases E
    · rename_i hk1 hk2
      split at E
      · split at E
        · rename_i v h' n he'
          cases E
          have hk34 : opKind o.op = 3 ∨ opKind o.op = 4 := by
            rcases opKind_all o.op with e | e | e | e
            · exact (hk1 e).elim
            · exact (hk2 e).elim
            · exact .inl e
            · exact .inr e
          obtain rfl := h2 (.inr hk34)
          obtain ⟨w', ρ', nx, e1, hpre, hI', hres⟩ := evOp_sound he' hn I (evalG_sound hG hp)
          have hisC : isC (opKind o.op) = true := by rcases hk34 with e | e <;> rw [e] <;> rfl
          simp only [Oper.wp, e1]
          rcases hres with ⟨vv, cv, rfl, rfl, hr⟩ | ⟨rfl, rfl⟩
          · rw [Oper.upon_value]
            exact hnext ρ' cv w' hpre (by rw [if_pos hisC]; exact hI') (fun u hu => by cases hu; exact hr)
          · rw [Oper.upon_skip]
            exact hnext ρ' _ w' hpre (by rw [if_pos hisC]; exact hI') (fun u hu => by cases hu)
        · cases E
      · cases E
end
end Go.Sx

namespace Go.Sx
open Go.RowKit

def orB (a b : Bool) : Bool := match a with
  | true => true
  | false => b
def andB (a b : Bool) : Bool := match a with
  | true => b
  | false => false
theorem orB_iff {a b : Bool} : orB a b = true ↔ a = true ∨ b = true := by cases a <;> cases b <;> simp [orB]
theorem andB_iff {a b : Bool} : andB a b = true ↔ a = true ∧ b = true := by cases a <;> cases b <;> simp [andB]
def exactK : Nat → Bool
  | 2 => true
  | 3 => true
  | 4 => true
  | _ => false
def impB (a b : Bool) : Bool := match a with
  | true => b
  | false => true
theorem impB_iff {a b : Bool} : impB a b = true ↔ (a = true → b = true) := by cases a <;> cases b <;> simp [impB]
def okPair {R : Type} (i:Nat) (r : Rc R) (d : List Nat) (k:Nat) (q : Rc R) (e : List Nat) : Bool :=
  andB (match r.dst, q.dst with
    | some a, some b => match beqN a b with
      | true => false
      | false => true
    | _, _ => true)
  (andB (impB (andB (exactK r.kind) (isC q.kind)) (orB (mem k d) (mem i e)))
  (andB (impB (andB (beqN r.kind 1) (beqN q.kind 4)) (orB (mem k d) (mem i e)))
    (match r.dst with
    | some a => impB (mentions a q.π) (mem i e)
    | none => true)))
def okRow {R : Type} (i:Nat) (r : Rc R) (d : List Nat) : Nat → List (Rc R) → List (List Nat) → Bool
  | k, q :: qs, e :: es => andB (orB (beqN i k) (okPair i r d k q e)) (okRow i r d (k + 1) qs es)
  | _, _, _ => true
def okAll {R : Type} (recs : List (Rc R)) (ds : List (List Nat)) : Nat → List (Rc R) → List (List Nat) → Bool
  | i, r :: rs, d :: es => andB (okRow i r d 0 recs ds) (okAll recs ds (i + 1) rs es)
  | _, _, _ => true
theorem okRow_spec {R : Type} {i : Nat} {r : Rc R} {d : List Nat} : ∀ {k : Nat} {qs : List (Rc R)} {es : List (List Nat)}, okRow i r d k qs es = true →
    ∀ (j:Nat) q e, qs[j]? = some q → es[j]? = some e → i ≠ k + j → okPair i r d (k + j) q e = true
  | k, [], es, _, j, q, e, hq, _, _ => by simp at hq
  | k, q0 :: qs, [], _, j, q, e, _, he, _ => by simp at he
  | k, q0 :: qs, e0 :: es, h, j, q, e, hq, he, hne => by
    simp only [okRow, andB_iff, orB_iff] at h
    cases j with
    | zero =>
      simp at hq he
      subst hq he
      rcases h.1 with h1 | h1
      · exact absurd (beqN_iff.1 h1) hne
      · exact h1
    | succ j =>
      simp at hq he
      have := okRow_spec h.2 j q e hq he (by omega)
      rwa [show k + (j + 1) = k + 1 + j by omega]
theorem okAll_spec {R : Type} {recs : List (Rc R)} {ds : List (List Nat)} : ∀ {i : Nat} {rs : List (Rc R)} {es : List (List Nat)}, okAll recs ds i rs es = true →
    ∀ (j:Nat) r d, rs[j]? = some r → es[j]? = some d → okRow (i + j) r d 0 recs ds = true
  | i, [], es, _, j, r, d, hr, _ => by simp at hr
  | i, r0 :: rs, [], _, j, r, d, _, hd => by simp at hd
  | i, r0 :: rs, d0 :: es, h, j, r, d, hr, hd => by
    simp only [okAll, andB_iff] at h
    cases j with
    | zero => simp at hr hd; subst hr hd; exact h.1
    | succ j =>
      simp at hr hd
      have := okAll_spec h.2 j r d hr hd
      rwa [show i + (j + 1) = i + 1 + j by omega]

def curOf {R : Type} : List (Rc R) → List (HO R) → List (HO R)
  | [], h => h
  | r :: rs, h => curOf rs (match isC r.kind with | true => r.h1 | false => h)
def heOf {R : Type} : List (Rc R) → List (HO R) → List (HO R)
  | [], h => h
  | r :: rs, h => heOf rs (match beqN r.kind 4 with | true => r.h1 | false => h)
theorem curOf_append {R : Type} : ∀ (a b : List (Rc R)) (h : List (HO R)), curOf (a ++ b) h = curOf b (curOf a h)
  | [], b, h => rfl
  | r :: a, b, h => by simp only [List.cons_append, curOf]; exact curOf_append a b _
theorem heOf_append {R : Type} : ∀ (a b : List (Rc R)) (h : List (HO R)), heOf (a ++ b) h = heOf b (heOf a h)
  | [], b, h => rfl
  | r :: a, b, h => by simp only [List.cons_append, heOf]; exact heOf_append a b _
def hp {R : Type} (S : Nat → Bool) : Nat → List (Rc R) → List (HO R) → List (HO R)
  | _, [], h => h
  | i, r :: rs, h => hp S (i + 1) rs (match isC r.kind, S i with | true, true => r.h1 | _, _ => h)
theorem hp_congr {R : Type} {S S' : Nat → Bool} : ∀ {i : Nat} {rs : List (Rc R)} {h : List (HO R)}, (∀ (j:Nat) r, rs[j]? = some r → isC r.kind = true → S (i + j) = S' (i + j)) → hp S i rs h = hp S' i rs h
  | i, [], h, _ => rfl
  | i, r :: rs, h, H => by
    simp only [hp]
    have h0 : (match isC r.kind, S i with | true, true => r.h1 | _, _ => h) = (match isC r.kind, S' i with | true, true => r.h1 | _, _ => h) := by
      cases hk : isC r.kind with
      | false => rfl
      | true =>
        have := H 0 r rfl hk
        rw [Nat.add_zero] at this
        rw [this]
    rw [h0]
    exact hp_congr fun j r' hj hk => by
      have := H (j + 1) r' (by simpa using hj) hk
      rwa [show i + 1 + j = i + (j + 1) by omega]
def ltB (n m:Nat) : Bool := decide (n < m)
theorem hp_take {R : Type} : ∀ {i p : Nat} {rs : List (Rc R)} {h : List (HO R)}, hp (fun j => ltB j (i + p)) i rs h = curOf (rs.take p) h
  | i, p, [], h => by simp [hp, curOf]
  | i, 0, r :: rs, h => by
    simp only [hp, List.take_zero, curOf]
    have h0 : ltB i (i + 0) = false := by simp [ltB]
    rw [h0]
    have h1 : (match isC r.kind, false with | true, true => r.h1 | _, _ => h) = h := by cases isC r.kind <;> rfl
    rw [h1]
    have := hp_congr (S := fun j => ltB j (i + 0)) (S' := fun j => ltB j (i + 1 + 0)) (i := i + 1) (rs := rs) (h := h) (fun j r _ _ => by simp [ltB]; omega)
    rw [this, hp_take]
    simp [curOf]
  | i, p + 1, r :: rs, h => by
    simp only [hp, List.take_succ_cons, curOf]
    have h0 : ltB i (i + (p + 1)) = true := by simp [ltB]
    rw [h0]
    have h1 : (match isC r.kind, true with | true, true => r.h1 | _, _ => h) = (match isC r.kind with | true => r.h1 | false => h) := by cases isC r.kind <;> rfl
    rw [h1, show i + (p + 1) = i + 1 + p by omega]
    exact hp_take

def needR {R : Type} : List (Rc R) → Option Prop
  | [] => none
  | r :: rs => andN r.need (needR rs)
theorem needR_get {R : Type} : ∀ {l : List (Rc R)}, Nd (needR l) → ∀ (i:Nat) r, l[i]? = some r → Nd r.need
  | [], _, i, r, h => by simp at h
  | x :: l, hn, 0, r, h => by simp at h; subst h; exact (andN_iff.1 hn).1
  | x :: l, hn, i + 1, r, h => by simp at h; exact needR_get (andN_iff.1 hn).2 i r h
def finS {R : Type} : List (Rc R) → List (Option SV) → List (Option SV)
  | [], sl => sl
  | r :: rs, sl => match r.dst with
    | none => finS rs sl
    | some t => match r.gd with
      | false => finS rs (sl.set t r.v)
      | true => finS rs (sl.set t none)
def effs {R : Type} : List (Rc R) → List Nat
  | [] => []
  | r :: rs => r.eff ++ effs rs
def dstL {R : Type} : List (Rc R) → List Nat
  | [] => []
  | r :: rs => match r.dst with
    | none => dstL rs
    | some t => t :: dstL rs
def okFrz {R : Type} (n0:Nat) (ef : List Nat) : List (Rc R) → Bool
  | [] => true
  | r :: rs => match Nat.decLt 4 r.kind with
    | isFalse _ => okFrz n0 ef rs
    | isTrue _ => match Nat.decLt (r.kind - 5) n0, mem (r.kind - 5) ef with
      | isTrue _, false => okFrz n0 ef rs
      | _, _ => false
theorem okFrz_spec {R : Type} {n0 : Nat} {ef : List Nat} : ∀ {recs : List (Rc R)}, okFrz n0 ef recs = true → ∀ (i:Nat) r m, recs[i]? = some r → r.kind = m + 5 → m < n0 ∧ m ∉ ef
  | [], _, i, r, m, h, _ => by simp at h
  | x :: rs, h, i, r, m, hr, hk => by
    simp only [okFrz] at h
    cases i with
    | zero =>
      simp at hr
      subst hr
      split at h
      · rename_i hn _; omega
      · split at h
        · rename_i b hlt _ hm
          rw [hk, Nat.add_sub_cancel] at hlt hm
          refine ⟨hlt, fun e => by rw [mem_iff.2 e] at hm; cases hm⟩
        · cases h
    | succ i =>
      simp at hr
      split at h
      · exact okFrz_spec h i r m hr hk
      · split at h
        · exact okFrz_spec h i r m hr hk
        · cases h
def drawAt {R : Type} (ds : List (List Nat)) (st : St R) (recs : List (Rc R)) : Option (Tr (St R)) := match okAll recs ds 0 recs ds, okFrz st.heap.length (effs recs) recs with
  | true, true => needing (needR recs) (some (.leaf { slots := finS recs st.slots, heap := curOf recs st.heap, dirt := effs recs ++ st.dirt, ws := dstL recs ++ st.ws }))
  | _, _ => none
def evDraw (T : Theory) (P : Program) (tbl : Nat → Option (CF T.R)) (ops : Array Oper) (st : St T.R) : Option (Tr (St T.R)) :=
  match P.follows .mixedOrders, depsL ops.toList [] with
  | true, some ds => match evDr T P tbl (fun _ => true) ops ds st.slots ops.toList ds 0 [] st.heap st.heap with
    | some recs => match drawAt ds st recs with
      | some t => some t
      | none => match evDr T P tbl (fun n => mem n (effs recs)) ops ds st.slots ops.toList ds 0 [] st.heap st.heap with
        | some recs => drawAt ds st recs
        | none => none
    | none => none
  | _, _ => none

section
variable {P : Program} {T : Theory} {K : Nat → Prop} {w0 w : World} {ρ : Env}

theorem layG_pre {R : Type} {a b : List (Rc R)} : ∀ {js : List Nat}, (∀ j, j ∈ js → j < a.length) → layG (a ++ b) js = layG a js
  | [], _ => rfl
  | j :: js, h => by
    simp only [layG]
    rw [List.getElem?_append_left (h j List.mem_cons_self), layG_pre fun j hj => h j (List.mem_cons_of_mem _ hj)]
theorem layS_pre {R : Type} {a b : List (Rc R)} : ∀ {js : List Nat} {sl : List (Option SV)}, (∀ j, j ∈ js → j < a.length) → layS (a ++ b) js sl = layS a js sl
  | [], _, _ => rfl
  | j :: js, sl, h => by
    simp only [layS]
    rw [List.getElem?_append_left (h j List.mem_cons_self)]
    have := fun sl => layS_pre (a := a) (b := b) (js := js) (sl := sl) fun j hj => h j (List.mem_cons_of_mem _ hj)
    split
    · split <;> rw [this]
    · rw [this]

structure RcOk (T : Theory) (P : Program) (tbl : Nat → Option (CF T.R)) (all : Array Oper) (ds : List (List Nat)) (slots : List (Option SV)) (base : List (HO T.R)) (recs : List (Rc T.R)) (i:Nat) (o : Oper) (d : List Nat) (r : Rc T.R) : Prop where
  path : guardPath all (layG recs d) o.guard = some r.π
  dst : r.dst = o.dst
  gd : r.gd = o.guard.isSome
  ev : ∃ tch c res, pathB (layS recs d (blankS i all.toList ds slots)) (layG recs d) [] r.π = some c ∧ okPath slots.length o r.π = true ∧
    evOne T P tbl tch o (layS recs d (blankS i all.toList ds slots)) (layG recs d) r.π c (heOf (recs.take i) base) (curOf (recs.take i) base) = some res ∧
    res.v = r.v ∧ res.need = r.need ∧ res.kind = r.kind ∧ res.h1 = r.h1 ∧ res.eff = r.eff

theorem evDr_spec {tbl : Nat → Option (CF T.R)} {tch : Nat → Bool} {all : Array Oper} {ds : List (List Nat)} {slots : List (Option SV)} {base : List (HO T.R)} :
    ∀ {os : List Oper} {dl : List (List Nat)} {i : Nat} {pre recs : List (Rc T.R)} {he cur : List (HO T.R)}, evDr T P tbl tch all ds slots os dl i pre he cur = some recs →
      i = pre.length → he = heOf pre base → cur = curOf pre base → (∀ (j:Nat) d, dl[j]? = some d → ∀ n, n ∈ d → n < i + j) →
      os.length = dl.length ∧ recs.length = pre.length + os.length ∧ (∃ suf, recs = pre ++ suf) ∧ ∀ (j:Nat) o d, os[j]? = some o → dl[j]? = some d → ∃ r, recs[i + j]? = some r ∧ RcOk T P tbl all ds slots base recs (i + j) o d r
  | [], [], i, pre, recs, he, cur, h, hi, hhe, hcur, hd => by
    simp only [evDr, Option.some.injEq] at h
    subst h
    exact ⟨rfl, by simp, ⟨[], by simp⟩, fun j o d ho => by simp at ho⟩
  | [], d :: dl, i, pre, recs, he, cur, h, _, _, _, _ => by simp [evDr] at h
  | o :: os, [], i, pre, recs, he, cur, h, _, _, _, _ => by simp [evDr] at h
  | o :: os, d :: dl, i, pre, recs, he, cur, h, hi, hhe, hcur, hd => by
    simp only [evDr] at h
    split at h
    · rename_i π hπ
      split at h
      · rename_i c hc hok
        split at h
        · rename_i res hres
          have hdi : ∀ n, n ∈ d → n < pre.length := fun n hn => by have := hd 0 d rfl n hn; omega
          have step : ∀ (rc : Rc T.R) (he' cur' : List (HO T.R)), rc.dst = o.dst → rc.gd = o.guard.isSome → rc.π = π → res.v = rc.v → res.need = rc.need → res.kind = rc.kind → res.h1 = rc.h1 → res.eff = rc.eff →
              he' = heOf (pre ++ [rc]) base → cur' = curOf (pre ++ [rc]) base →
              evDr T P tbl tch all ds slots os dl (i + 1) (pre ++ [rc]) he' cur' = some recs →
              (o :: os).length = (d :: dl).length ∧ recs.length = pre.length + (o :: os).length ∧ (∃ suf, recs = pre ++ suf) ∧ ∀ (j:Nat) o' d', (o :: os)[j]? = some o' → (d :: dl)[j]? = some d' → ∃ r, recs[i + j]? = some r ∧ RcOk T P tbl all ds slots base recs (i + j) o' d' r := by
            intro rc he' cur' e1 e2 e3 e4 e5 e6 e7 e8 e9 e10 hh
            obtain ⟨a1, a2, ⟨suf, a3⟩, a4⟩ := evDr_spec hh (by simp [hi]) e9 e10 (fun j d' hj n hn => by have := hd (j + 1) d' (by simpa using hj) n hn; omega)
            refine ⟨by simp [a1], by simp at a2 ⊢; omega, ⟨rc :: suf, by rw [a3]; simp⟩, ?_⟩
            intro j o' d' ho' hd'
            cases j with
            | zero =>
              simp at ho' hd'
              subst ho' hd'
              have hrecs : recs = pre ++ (rc :: suf) := by rw [a3]; simp
              have htake : recs.take i = pre := by rw [hrecs, hi]; simp
              refine ⟨rc, by rw [hrecs, hi]; simp, ?_⟩
              rw [Nat.add_zero]
              refine ⟨by rw [hrecs, layG_pre hdi, e3]; exact hπ, e1, e2, tch, c, res, ?_, by rw [e3]; exact hok, ?_, e4, e5, e6, e7, e8⟩
              · rw [hrecs, layG_pre hdi, layS_pre hdi, e3]; exact hc
              · rw [htake, hrecs, layG_pre hdi, layS_pre hdi, e3, ← hhe, ← hcur]; exact hres
            | succ j =>
              simp at ho' hd'
              have := a4 j o' d' ho' hd'
              rwa [show i + 1 + j = i + (j + 1) by omega] at this
          split at h
          · rename_i hk
            exact step _ _ _ rfl rfl rfl rfl rfl hk rfl rfl (by rw [heOf_append, ← hhe]; rfl) (by rw [curOf_append, ← hcur]; rfl) h
          · rename_i hk
            exact step _ _ _ rfl rfl rfl rfl rfl hk rfl rfl (by rw [heOf_append, ← hhe]; rfl) (by rw [curOf_append, ← hcur]; rfl) h
          · rename_i hk
            exact step _ _ _ rfl rfl rfl rfl rfl hk rfl rfl (by rw [heOf_append, ← hhe]; rfl) (by rw [curOf_append, ← hcur]; rfl) h
          · rename_i hk3 hk4 hk1
            have hC : isC res.kind = false := by
              unfold isC
              split
              · rename_i e; exact absurd e hk3
              · rename_i e; exact absurd e hk4
              · rfl
            have h4 : beqN res.kind 4 = false := by
              cases hb : beqN res.kind 4 with
              | false => rfl
              | true => exact absurd (beqN_iff.1 hb) hk4
            exact step _ _ _ rfl rfl rfl rfl rfl rfl rfl rfl (by rw [heOf_append, ← hhe]; simp only [heOf, h4]) (by rw [curOf_append, ← hcur]; simp only [curOf, hC]) h
        · cases h
      · cases h
    · cases h
end
end Go.Sx

namespace Go.Sx
open Go.RowKit

section
variable {P : Program} {T : Theory} {K : Nat → Prop} {w0 w : World} {ρ : Env}

structure SRel (ρ : Env) (slots : List (Option SV)) {R : Type} (recs : List (Rc R)) (S : Nat → Bool) (a : Act) : Prop where
  size : a.tmps.size = slots.length
  init : ∀ t v, slots[t]? = some (some v) → (∀ (j:Nat) r, recs[j]? = some r → r.dst = some t → S j = false) → Rel ρ v (a.tmps.getD t undef)
  plain : ∀ (j:Nat) r t v, recs[j]? = some r → S j = true → r.dst = some t → r.gd = false → r.v = some v → t < slots.length → Rel ρ v (a.tmps.getD t undef)
  grd : ∀ (j:Nat) r t v, recs[j]? = some r → S j = true → r.dst = some t → r.gd = true → r.v = some v → (holds a r.π → Rel ρ v (a.tmps.getD t undef)) ∧ (¬ holds a r.π → a.tmps.getD t undef = undef)

theorem SRel.mono {slots : List (Option SV)} {R : Type} {recs : List (Rc R)} {S : Nat → Bool} {a : Act} {ρ' : Env} (h : SRel ρ slots recs S a) (hp : Pre ρ ρ') : SRel ρ' slots recs S a :=
  ⟨h.size, fun t v x y => Rel.mono hp _ _ (h.init t v x y), fun j r t v a b c d e f => Rel.mono hp _ _ (h.plain j r t v a b c d e f),
    fun j r t v a b c d e => ⟨fun k => Rel.mono hp _ _ ((h.grd j r t v a b c d e).1 k), (h.grd j r t v a b c d e).2⟩⟩

theorem finS_length {R : Type} : ∀ (recs : List (Rc R)) (sl : List (Option SV)), (finS recs sl).length = sl.length
  | [], sl => rfl
  | r :: rs, sl => by
    simp only [finS]
    split
    · exact finS_length rs sl
    · split <;> (rw [finS_length]; simp)
theorem finS_get {R : Type} : ∀ {recs : List (Rc R)} {sl : List (Option SV)} {t : Nat} {v : SV}, (finS recs sl)[t]? = some (some v) →
    (∃ j : Nat, ∃ r, recs[j]? = some r ∧ r.dst = some t ∧ r.gd = false ∧ r.v = some v) ∨ (sl[t]? = some (some v) ∧ ∀ (j:Nat) r, recs[j]? = some r → r.dst ≠ some t)
  | [], sl, t, v, h => .inr ⟨h, fun j r hj => by simp at hj⟩
  | r :: rs, sl, t, v, h => by
    simp only [finS] at h
    have up : (∃ j : Nat, ∃ q, rs[j]? = some q ∧ q.dst = some t ∧ q.gd = false ∧ q.v = some v) → (∃ j : Nat, ∃ q, (r :: rs)[j]? = some q ∧ q.dst = some t ∧ q.gd = false ∧ q.v = some v) := by
      rintro ⟨j, r', a, b⟩
      exact ⟨j + 1, r', by simpa using a, b⟩
    split at h
    · rename_i hd
      rcases finS_get h with h' | ⟨h1, h2⟩
      · exact .inl (up h')
      · refine .inr ⟨h1, fun j r' hj => ?_⟩
        cases j with
        | zero => simp at hj; subst hj; rw [hd]; exact fun e => by cases e
        | succ j => simp at hj; exact h2 j r' hj
    · rename_i t' hd
      split at h
      · rename_i hg
        rcases finS_get h with h' | ⟨h1, h2⟩
        · exact .inl (up h')
        · by_cases e : t' = t
          · subst e
            rw [List.getElem?_set] at h1
            split at h1
            · split at h1
              · simp only [Option.some.injEq] at h1
                exact .inl ⟨0, r, rfl, hd, hg, h1⟩
              · cases h1
            · rename_i e; exact absurd rfl e
          · rw [List.getElem?_set_ne e] at h1
            refine .inr ⟨h1, fun j r' hj => ?_⟩
            cases j with
            | zero => simp at hj; subst hj; rw [hd]; exact fun k => e (by cases k; rfl)
            | succ j => simp at hj; exact h2 j r' hj
      · rename_i hg
        rcases finS_get h with h' | ⟨h1, h2⟩
        · exact .inl (up h')
        · by_cases e : t' = t
          · subst e
            rw [List.getElem?_set] at h1
            split at h1
            · split at h1 <;> cases h1
            · rename_i e; exact absurd rfl e
          · rw [List.getElem?_set_ne e] at h1
            refine .inr ⟨h1, fun j r' hj => ?_⟩
            cases j with
            | zero => simp at hj; subst hj; rw [hd]; exact fun k => e (by cases k; rfl)
            | succ j => simp at hj; exact h2 j r' hj
theorem finS_keep {R : Type} : ∀ {recs : List (Rc R)} {sl : List (Option SV)} {t : Nat}, t ∉ dstL recs → (finS recs sl)[t]? = sl[t]?
  | [], sl, t, _ => rfl
  | r :: rs, sl, t, h => by
    simp only [finS]
    simp only [dstL] at h
    split
    · rename_i hd
      rw [hd] at h
      exact finS_keep h
    · rename_i t' hd
      rw [hd] at h
      simp only [List.mem_cons, not_or] at h
      split <;> (rw [finS_keep h.2, List.getElem?_set_ne (fun e => h.1 e.symm)])

structure DrawOk (T : Theory) (P : Program) (tbl : Nat → Option (CF T.R)) (ops : Array Oper) (ds : List (List Nat)) (slots : List (Option SV)) (base : List (HO T.R)) (recs : List (Rc T.R)) : Prop where
  D : DepsOk ops.toList ds
  len : recs.length = ops.size
  rc : ∀ (i:Nat) o d, ops.toList[i]? = some o → ds[i]? = some d → ∃ r, recs[i]? = some r ∧ RcOk T P tbl ops ds slots base recs i o d r
  pairs : ∀ (i k:Nat) r q d e, recs[i]? = some r → recs[k]? = some q → ds[i]? = some d → ds[k]? = some e → i ≠ k → okPair i r d k q e = true
  need : ∀ (i:Nat) r, recs[i]? = some r → Nd r.need
  frz : ∀ (i:Nat) r m, recs[i]? = some r → r.kind = m + 5 → m < base.length ∧ m ∉ effs recs

theorem DrawOk.at_ {tbl : Nat → Option (CF T.R)} {ops : Array Oper} {ds : List (List Nat)} {slots : List (Option SV)} {base : List (HO T.R)} {recs : List (Rc T.R)} (H : DrawOk T P tbl ops ds slots base recs) {i : Nat} {r : Rc T.R} (hr : recs[i]? = some r) :
    ∃ o d, ops.toList[i]? = some o ∧ ds[i]? = some d ∧ RcOk T P tbl ops ds slots base recs i o d r := by
  have hi : i < ops.toList.length := by have := (List.getElem?_eq_some_iff.1 hr).1; have := H.len; simp; omega
  have hi2 : i < ds.length := by rw [H.D.len]; exact hi
  obtain ⟨r', h1, h2⟩ := H.rc i _ _ (List.getElem?_eq_getElem hi) (List.getElem?_eq_getElem hi2)
  rw [hr] at h1
  cases h1
  exact ⟨_, _, List.getElem?_eq_getElem hi, List.getElem?_eq_getElem hi2, h2⟩

section
variable {tbl : Nat → Option (CF T.R)} {ops : Array Oper} {ds : List (List Nat)} {slots : List (Option SV)} {base : List (HO T.R)} {recs : List (Rc T.R)}

theorem DrawOk.kind (H : DrawOk T P tbl ops ds slots base recs) (hT : ∀ k C, tbl k = some C → Sound P T k C) {i : Nat} {r : Rc T.R} (hr : recs[i]? = some r) :
    True ∧ (r.kind = 3 → (∃ x, r.h1 = curOf (recs.take i) base ++ x) ∧ r.eff = [] ∧ r.gd = false) ∧
      (r.kind = 4 → (curOf (recs.take i) base).length ≤ r.h1.length ∧ ∀ n, n < (curOf (recs.take i) base).length → n ∉ r.eff → r.h1[n]? = (curOf (recs.take i) base)[n]?) ∧ (r.kind ≠ 4 → r.eff = []) := by
  obtain ⟨o, d, _, _, hrc⟩ := H.at_ hr
  obtain ⟨tch, c, res, _, _, hev, e1, e2, e3, e4, e5⟩ := hrc.ev
  obtain ⟨k1, k2, k3, k4⟩ := evOne_kind hT hev (by rw [e2]; exact H.need i r hr)
  rw [e3, e4, e5] at *
  refine ⟨k1, fun e => ?_, fun e => ?_, k4⟩
  · obtain ⟨a, b, c⟩ := k2 e
    exact ⟨a, b, by rw [hrc.gd, c]; rfl⟩
  · obtain ⟨_, b, c⟩ := k3 e
    exact ⟨b, c⟩

theorem DrawOk.view (H : DrawOk T P tbl ops ds slots base recs) {S : Nat → Bool} {a : Act} (hD : Down ds S) (R : SRel ρ slots recs S a) {i : Nat} {d : List Nat} (hi : S i = false) (hdS : ∀ n, n ∈ d → S n = true) :
    GRel ρ (layS recs d (blankS i ops.toList ds slots)) (layG recs d) a := by
  refine ⟨by rw [layS_length, blankS_length]; exact R.size, ?_, ?_⟩
  · intro t v hv
    rcases layS_get hv with ⟨j, r, h1, h2, h3, h4, h5⟩ | h
    · exact R.plain j r t v h2 (hdS j h1) h3 h4 h5 (by have := (List.getElem?_eq_some_iff.1 hv).1; rwa [layS_length, blankS_length] at this)
    · obtain ⟨h1, h2⟩ := blankS_get h
      refine R.init t v h1 fun j r hj hdst => ?_
      obtain ⟨o, dj, ho, hdj, hrc⟩ := H.at_ hj
      have := h2 j o dj ho hdj (by rw [← hrc.dst]; exact hdst)
      cases hS : S j with
      | false => rfl
      | true =>
        have := hD j i dj hS hdj this
        rw [this] at hi
        cases hi
  · intro t x hx e
    obtain ⟨j, r, h1, h2, h3, h4, h5, h6⟩ := layG_mem hx
    subst e
    have := R.grd j r x.1 x.2.2 h2 (hdS j h1) h3 h4 h6
    rw [h5] at this
    exact this

theorem DrawOk.step (H : DrawOk T P tbl ops ds slots base recs) {S : Nat → Bool} {a : Act} (hD : Down ds S) (R : SRel ρ slots recs S a) {i : Nat} {r : Rc T.R} (hr : recs[i]? = some r) (hi : S i = false) {cv : Value}
    (hplain : ∀ v, r.gd = false → r.v = some v → Rel ρ v cv) (hgrd : ∀ v, r.gd = true → r.v = some v → (holds a r.π → Rel ρ v cv) ∧ (¬ holds a r.π → cv = undef))
    (hok : ∀ t, r.gd = true → r.dst = some t → t < slots.length ∧ mentions t r.π = false) : SRel ρ slots recs (fun j => S j || j == i) (a.put r.dst cv) := by
  obtain ⟨o, d, ho, hd, hrc⟩ := H.at_ hr
  have hsize := R.size
  -- where another one's slot and path are untouched
  have far : ∀ (j:Nat) q t, recs[j]? = some q → S j = true → q.dst = some t → (a.put r.dst cv).tmps.getD t undef = a.tmps.getD t undef ∧ (holds (a.put r.dst cv) q.π ↔ holds a q.π) := by
    intro j q t hq hS ht
    obtain ⟨o', d', ho', hd', hrc'⟩ := H.at_ hq
    have hne : i ≠ j := fun e => by rw [e] at hi; rw [hS] at hi; cases hi
    have hp := H.pairs i j r q d d' hr hq hd hd' hne
    simp only [okPair, andB_iff] at hp
    obtain ⟨p1, _, _, p4⟩ := hp
    cases hdst : r.dst with
    | none => exact ⟨rfl, Iff.rfl⟩
    | some s =>
      rw [hdst, ht] at p1
      rw [hdst] at p4
      simp only at p1 p4
      have hst : t ≠ s := by
        intro e
        rw [beqN_iff.2 e.symm] at p1
        cases p1
      refine ⟨by rw [put_getD, if_neg fun k => hst k.1], ?_⟩
      refine put_holds ?_
      cases hm : mentions s q.π with
      | false => rfl
      | true =>
        have := mem_iff.1 (impB_iff.1 p4 hm)
        have := hD j i d' hS hd' this
        rw [this] at hi
        cases hi
  refine ⟨by rw [put_size]; exact hsize, ?_, ?_, ?_⟩
  · intro t v hv hno
    have hne : r.dst ≠ some t := fun e => by have := hno i r hr e; simp at this
    have : (a.put r.dst cv).tmps.getD t undef = a.tmps.getD t undef := by
      cases hdst : r.dst with
      | none => rfl
      | some s => rw [put_getD, if_neg fun k => hne (by rw [hdst, k.1])]
    rw [this]
    exact R.init t v hv fun j q hq hdq => by have := hno j q hq hdq; simp only [Bool.or_eq_false_iff] at this; exact this.1
  · intro j q t v hq hS ht hg hv hlt
    simp only [Bool.or_eq_true, beq_iff_eq] at hS
    rcases hS with hS | rfl
    · rw [(far j q t hq hS ht).1]
      exact R.plain j q t v hq hS ht hg hv hlt
    · rw [hr] at hq
      cases hq
      have hrel := hplain v hg hv
      rw [ht, put_getD, if_pos ⟨rfl, by rw [hsize]; exact hlt⟩]
      exact hrel
  · intro j q t v hq hS ht hg hv
    simp only [Bool.or_eq_true, beq_iff_eq] at hS
    rcases hS with hS | rfl
    · rw [(far j q t hq hS ht).1, (far j q t hq hS ht).2]
      exact R.grd j q t v hq hS ht hg hv
    · rw [hr] at hq
      cases hq
      obtain ⟨hlt, hm⟩ := hok t hg ht
      have hg' := hgrd v hg hv
      rw [ht, put_getD, if_pos ⟨rfl, by rw [hsize]; exact hlt⟩, put_holds hm]
      exact hg'

theorem DrawOk.heap_at (H : DrawOk T P tbl ops ds slots base recs) {S : Nat → Bool} (hD : Down ds S) {i : Nat} {r : Rc T.R} (hr : recs[i]? = some r) (hi : S i = false) {d : List Nat} (hd : ds[i]? = some d) (hdS : ∀ n, n ∈ d → S n = true) (hk : exactK r.kind = true) :
    ∀ (j:Nat) q, recs[j]? = some q → isC q.kind = true → S j = ltB j i := by
  intro j q hq hC
  by_cases e : j = i
  · subst e; rw [hi]; simp [ltB]
  · obtain ⟨o', d', ho', hd', _⟩ := H.at_ hq
    have hp := H.pairs i j r q d d' hr hq hd hd' (fun k => e k.symm)
    simp only [okPair, andB_iff] at hp
    have := impB_iff.1 hp.2.1 (andB_iff.2 ⟨hk, hC⟩)
    rcases orB_iff.1 this with h | h
    · have hm := mem_iff.1 h
      rw [hdS j hm]
      have := H.D.less i j d hd hm
      simp [ltB, this]
    · have hm := mem_iff.1 h
      have hlt := H.D.less j i d' hd' hm
      have : S j = false := by
        cases hS : S j with
        | false => rfl
        | true => rw [hD j i d' hS hd' hm] at hi; cases hi
      rw [this]
      have : ¬ j < i := by omega
      simp [ltB, this]
theorem DrawOk.heap_exact (H : DrawOk T P tbl ops ds slots base recs) {S : Nat → Bool} (hD : Down ds S) {i : Nat} {r : Rc T.R} (hr : recs[i]? = some r) (hi : S i = false) {d : List Nat} (hd : ds[i]? = some d) (hdS : ∀ n, n ∈ d → S n = true) (hk : exactK r.kind = true) :
    hp S 0 recs base = curOf (recs.take i) base := by
  have h := H.heap_at hD hr hi hd hdS hk
  rw [hp_congr (S' := fun j => ltB j (0 + i)) (fun j q hq hC => by rw [Nat.zero_add, Nat.zero_add]; exact h j q hq hC)]
  exact hp_take
theorem DrawOk.heap_add (H : DrawOk T P tbl ops ds slots base recs) {S : Nat → Bool} (hD : Down ds S) {i : Nat} {r : Rc T.R} (hr : recs[i]? = some r) (hi : S i = false) {d : List Nat} (hd : ds[i]? = some d) (hdS : ∀ n, n ∈ d → S n = true) :
    hp (fun j => S j || j == i) 0 recs base = if isC r.kind then r.h1 else hp S 0 recs base := by
  split
  · rename_i hC
    have hex : exactK r.kind = true := by
      unfold isC at hC
      split at hC
      · rename_i e; rw [e]; rfl
      · rename_i e; rw [e]; rfl
      · cases hC
    have h := H.heap_at hD hr hi hd hdS hex
    rw [hp_congr (S' := fun j => ltB j (0 + (i + 1))) (fun j q hq hCq => by
      rw [Nat.zero_add, Nat.zero_add]
      by_cases e : j = i
      · subst e; simp [ltB]
      · rw [h j q hq hCq]
        by_cases h2 : j < i
        · have : j < i + 1 := by omega
          simp [ltB, h2, this]
        · have : ¬ j < i + 1 := by omega
          simp [ltB, h2, this, e])]
    rw [hp_take, List.take_add_one, hr, curOf_append]
    simp [curOf, hC]
  · rename_i hC
    refine hp_congr fun j q hq hCq => ?_
    rw [Nat.zero_add]
    have : j ≠ i := by
      rintro rfl
      rw [hr] at hq
      cases hq
      exact hC hCq
    simp [this]

theorem cur_he (H : DrawOk T P tbl ops ds slots base recs) (hT : ∀ k C, tbl k = some C → Sound P T k C) : ∀ p, p ≤ recs.length → ∃ e, curOf (recs.take p) base = heOf (recs.take p) base ++ e
  | 0, _ => ⟨[], by simp [curOf, heOf]⟩
  | p + 1, hp' => by
    have hlt : p < recs.length := by omega
    have hr : recs[p]? = some recs[p] := List.getElem?_eq_getElem hlt
    obtain ⟨e, he⟩ := cur_he H hT p (by omega)
    obtain ⟨_, k3, _, _⟩ := H.kind hT hr
    rw [List.take_add_one, hr, curOf_append, heOf_append]
    simp only [Option.toList_some, curOf, heOf]
    by_cases h4 : recs[p].kind = 4
    · rw [h4]; exact ⟨[], by simp [isC, beqN]⟩
    · have hb : beqN recs[p].kind 4 = false := by
        cases hb : beqN recs[p].kind 4 with
        | false => rfl
        | true => exact absurd (beqN_iff.1 hb) h4
      rw [hb]
      by_cases h3 : recs[p].kind = 3
      · obtain ⟨⟨x, hx⟩, _⟩ := k3 h3
        rw [h3]
        simp only [isC]
        rw [hx, he]
        exact ⟨e ++ x, by simp⟩
      · have hC : isC recs[p].kind = false := by
          unfold isC
          split
          · rename_i e; exact absurd e h3
          · rename_i e; exact absurd e h4
          · rfl
        rw [hC]
        exact ⟨e, he⟩
theorem he_same : ∀ {p q : Nat}, p ≤ q → (∀ (j:Nat) r, recs[j]? = some r → p ≤ j → j < q → r.kind ≠ 4) → heOf (recs.take q) base = heOf (recs.take p) base := by
  intro p q hpq h
  obtain ⟨k, rfl⟩ : ∃ k, q = p + k := ⟨q - p, by omega⟩
  clear hpq
  induction k with
  | zero => rfl
  | succ k ih =>
    rw [← ih (fun j r hj a b => h j r hj a (by omega))]
    rw [show p + (k + 1) = (p + k) + 1 by omega, List.take_add_one]
    cases hr : recs[p + k]? with
    | none => simp
    | some r =>
      rw [heOf_append]
      simp only [Option.toList_some, heOf]
      have hb : beqN r.kind 4 = false := by
        cases hb : beqN r.kind 4 with
        | false => rfl
        | true => exact absurd (beqN_iff.1 hb) (h (p + k) r hr (by omega) (by omega))
      rw [hb]
theorem DrawOk.cutAt (H : DrawOk T P tbl ops ds slots base recs) {S : Nat → Bool} (hD : Down ds S) : ∃ p, p ≤ recs.length ∧ ∀ (j:Nat) q, recs[j]? = some q → isC q.kind = true → S j = ltB j p := by
  by_cases hex : ∃ j : Nat, ∃ q, recs[j]? = some q ∧ isC q.kind = true ∧ S j = false
  · -- the first that is not done
    have hfirst : ∀ n, (∃ j : Nat, ∃ q, j ≤ n ∧ recs[j]? = some q ∧ isC q.kind = true ∧ S j = false) → ∃ p : Nat, ∃ q, recs[p]? = some q ∧ isC q.kind = true ∧ S p = false ∧ ∀ (j:Nat) r, j < p → recs[j]? = some r → isC r.kind = true → S j = true := by
      intro n
      induction n with
      | zero =>
        rintro ⟨j, q, hj, h1, h2, h3⟩
        have : j = 0 := by omega
        subst this
        exact ⟨0, q, h1, h2, h3, fun j r hj => by omega⟩
      | succ n ih =>
        rintro ⟨j, q, hj, h1, h2, h3⟩
        by_cases hs : ∃ j : Nat, ∃ q, j ≤ n ∧ recs[j]? = some q ∧ isC q.kind = true ∧ S j = false
        · exact ih hs
        · have hjn : j = n + 1 := by
            by_cases hle : j ≤ n
            · exact absurd ⟨j, q, hle, h1, h2, h3⟩ hs
            · omega
          subst hjn
          refine ⟨n + 1, q, h1, h2, h3, fun j r hj hr hC => ?_⟩
          cases hS : S j with
          | true => rfl
          | false => exact absurd ⟨j, r, by omega, hr, hC, hS⟩ hs
    obtain ⟨j0, q0, a1, a2, a3⟩ := hex
    obtain ⟨p, q, h1, h2, h3, h4⟩ := hfirst j0 ⟨j0, q0, Nat.le_refl _, a1, a2, a3⟩
    refine ⟨p, Nat.le_of_lt (List.getElem?_eq_some_iff.1 h1).1, fun j r hr hC => ?_⟩
    by_cases hlt : j < p
    · rw [h4 j r hlt hr hC]; simp [ltB, hlt]
    · have hf : ltB j p = false := by simp [ltB, hlt]
      rw [hf]
      by_cases e : j = p
      · subst e; exact h3
      · obtain ⟨o1, d1, _, hd1, _⟩ := H.at_ h1
        obtain ⟨o2, d2, _, hd2, _⟩ := H.at_ hr
        have hp := H.pairs p j q r d1 d2 h1 hr hd1 hd2 (fun k => e k.symm)
        simp only [okPair, andB_iff] at hp
        have hex : exactK q.kind = true := by
          unfold isC at h2
          split at h2
          · rename_i e; rw [e]; rfl
          · rename_i e; rw [e]; rfl
          · cases h2
        rcases orB_iff.1 (impB_iff.1 hp.2.1 (andB_iff.2 ⟨hex, hC⟩)) with h | h
        · have := H.D.less p j d1 hd1 (mem_iff.1 h); omega
        · cases hS : S j with
          | false => rfl
          | true => rw [hD j p d2 hS hd2 (mem_iff.1 h)] at h3; cases h3
  · refine ⟨recs.length, Nat.le_refl _, fun j q hq hC => ?_⟩
    have hlt : j < recs.length := (List.getElem?_eq_some_iff.1 hq).1
    have : ltB j recs.length = true := by simp [ltB, hlt]
    rw [this]
    cases hS : S j with
    | true => rfl
    | false => exact absurd ⟨j, q, hq, hC, hS⟩ hex
theorem DrawOk.heap_load (H : DrawOk T P tbl ops ds slots base recs) (hT : ∀ k C, tbl k = some C → Sound P T k C) {S : Nat → Bool} (hD : Down ds S) {i : Nat} {r : Rc T.R} (hr : recs[i]? = some r) (hi : S i = false) {d : List Nat} (hd : ds[i]? = some d) (hdS : ∀ n, n ∈ d → S n = true) (hk : r.kind = 1) :
    ∃ e, hp S 0 recs base = heOf (recs.take i) base ++ e := by
  obtain ⟨p, hple, hcut⟩ := H.cutAt hD
  rw [hp_congr (S' := fun j => ltB j (0 + p)) (fun j q hq hC => by rw [Nat.zero_add, Nat.zero_add]; exact hcut j q hq hC), hp_take]
  obtain ⟨e, he⟩ := cur_he H hT p hple
  rw [he]
  -- turns: just those ahead of i
  have h4 : ∀ (j:Nat) q, recs[j]? = some q → q.kind = 4 → S j = ltB j i := by
    intro j q hq h4
    have hne : j ≠ i := by rintro rfl; rw [hr] at hq; cases hq; rw [hk] at h4; cases h4
    obtain ⟨o', d', ho', hd', _⟩ := H.at_ hq
    have hp := H.pairs i j r q d d' hr hq hd hd' (fun k => hne k.symm)
    simp only [okPair, andB_iff] at hp
    rcases orB_iff.1 (impB_iff.1 hp.2.2.1 (andB_iff.2 ⟨beqN_iff.2 hk, beqN_iff.2 h4⟩)) with h | h
    · have hm := mem_iff.1 h
      rw [hdS j hm]
      have := H.D.less i j d hd hm
      simp [ltB, this]
    · have hm := mem_iff.1 h
      have hlt := H.D.less j i d' hd' hm
      have : S j = false := by
        cases hS : S j with
        | false => rfl
        | true => rw [hD j i d' hS hd' hm] at hi; cases hi
      rw [this]
      have : ¬ j < i := by omega
      simp [ltB, this]
  have hC4 : ∀ (q : Rc T.R), q.kind = 4 → isC q.kind = true := fun q e => by rw [e]; rfl
  by_cases hpi : p ≤ i
  · refine ⟨e, ?_⟩
    rw [he_same hpi fun j q hq a b h => ?_]
    have h1 := hcut j q hq (hC4 q h)
    have h2 := h4 j q hq h
    rw [h1] at h2
    have n1 : ¬ j < p := by omega
    simp [ltB, n1, b] at h2
  · refine ⟨e, ?_⟩
    rw [he_same (p := i) (q := p) (by omega) fun j q hq a b h => ?_]
    have h1 := hcut j q hq (hC4 q h)
    have h2 := h4 j q hq h
    rw [h1] at h2
    have n1 : ¬ j < i := by omega
    simp [ltB, n1, b] at h2
end
end
end Go.Sx

namespace Go.Sx
open Go.RowKit

section
variable {P : Program} {T : Theory} {K : Nat → Prop} {w0 : World}

theorem okPath_spec {n : Nat} {o : Oper} {π : Path} (h : okPath n o π = true) (t:Nat) (hg : o.guard.isSome = true) (hd : o.dst = some t) : t < n ∧ mentions t π = false := by
  unfold okPath at h
  cases hgd : o.guard with
  | none => rw [hgd] at hg; cases hg
  | some x =>
    rw [hgd, hd] at h
    simp only at h
    split at h
    · refine ⟨by assumption, by assumption⟩
    · cases h

section
variable {tbl : Nat → Option (CF T.R)} {ops : Array Oper} {ds : List (List Nat)} {slots : List (Option SV)} {base : List (HO T.R)} {recs : List (Rc T.R)}

theorem DrawOk.all_done (H : DrawOk T P tbl ops ds slots base recs) {S : Nat → Bool} {a : Act} {ρ : Env} {w : World} (R : SRel ρ slots recs S a) (hd : a.defers = []) (I : Inv T K w0 ρ (hp S 0 recs base) w)
    (hall : ∀ j, j < ops.size → S j = true) (dirt ws : List Nat) : StRel T K w0 ρ { slots := finS recs slots, heap := curOf recs base, dirt := dirt, ws := ws } a w := by
  have hS : ∀ (j:Nat) (r : Rc T.R), recs[j]? = some r → S j = true := fun j r hr => hall j (by have := (List.getElem?_eq_some_iff.1 hr).1; have := H.len; omega)
  refine ⟨by rw [finS_length]; exact R.size, hd, ?_, ?_⟩
  · intro t v hv
    have hlt : t < slots.length := by have := (List.getElem?_eq_some_iff.1 hv).1; rwa [finS_length] at this
    rcases finS_get hv with ⟨j, r, h1, h2, h3, h4⟩ | ⟨h1, h2⟩
    · exact R.plain j r t v h1 (hS j r h1) h2 h3 h4 hlt
    · exact R.init t v h1 fun j r hr hdst => absurd hdst (h2 j r hr)
  · have : hp S 0 recs base = curOf recs base := by
      rw [hp_congr (S' := fun j => ltB j (0 + recs.length)) (fun j q hq _ => by
        rw [Nat.zero_add, Nat.zero_add, hS j q hq]
        have := (List.getElem?_eq_some_iff.1 hq).1
        simp [ltB, this]), hp_take, List.take_length]
    rw [← this]
    exact I

end
theorem curOf_frame {tbl : Nat → Option (CF T.R)} {ops : Array Oper} {ds : List (List Nat)} {slots : List (Option SV)} {base : List (HO T.R)} {recs : List (Rc T.R)}
    (H : DrawOk T P tbl ops ds slots base recs) (hT : ∀ k C, tbl k = some C → Sound P T k C) : ∀ p, p ≤ recs.length →
      base.length ≤ (curOf (recs.take p) base).length ∧ ∀ n, n < base.length → n ∉ effs (recs.take p) → (curOf (recs.take p) base)[n]? = base[n]?
  | 0, _ => by simp [curOf]
  | p + 1, hp' => by
    have hlt : p < recs.length := by omega
    have hr : recs[p]? = some recs[p] := List.getElem?_eq_getElem hlt
    obtain ⟨l1, l2⟩ := curOf_frame H hT p (by omega)
    obtain ⟨_, k3, k4, k5⟩ := H.kind hT hr
    have heff : ∀ (a b : List (Rc T.R)), effs (a ++ b) = effs a ++ effs b := by
      intro a b
      induction a with
      | nil => rfl
      | cons x a ih => simp [effs, ih]
    rw [List.take_add_one, hr, curOf_append, heff]
    simp only [Option.toList_some, curOf, effs, List.append_nil]
    generalize recs[p] = r at *
    by_cases h3 : r.kind = 3
    · obtain ⟨⟨x, hx⟩, _⟩ := k3 h3
      rw [h3]
      simp only [isC]
      rw [hx]
      refine ⟨by simp; omega, fun n hn hnd => ?_⟩
      rw [List.getElem?_append_left (by omega)]
      exact l2 n hn fun e => hnd (List.mem_append_left _ e)
    · by_cases h4 : r.kind = 4
      · obtain ⟨q1, q2⟩ := k4 h4
        rw [h4]
        simp only [isC]
        refine ⟨by omega, fun n hn hnd => ?_⟩
        rw [q2 n (by omega) fun e => hnd (List.mem_append_right _ e)]
        exact l2 n hn fun e => hnd (List.mem_append_left _ e)
      · have hC : isC r.kind = false := by
          unfold isC
          split
          · rename_i e; exact absurd e h3
          · rename_i e; exact absurd e h4
          · rfl
        rw [hC]
        exact ⟨l1, fun n hn hnd => l2 n hn fun e => hnd (List.mem_append_left _ e)⟩

theorem h1_frame {tbl : Nat → Option (CF T.R)} {ops : Array Oper} {ds : List (List Nat)} {slots : List (Option SV)} {base : List (HO T.R)} {recs : List (Rc T.R)}
    (H : DrawOk T P tbl ops ds slots base recs) (hT : ∀ k C, tbl k = some C → Sound P T k C) {n : Nat} (hn : n < base.length) (he : n ∉ effs recs) : ∀ (j:Nat) r, recs[j]? = some r → isC r.kind = true → r.h1[n]? = base[n]? := by
  intro j r hr hC
  have hj : j < recs.length := (List.getElem?_eq_some_iff.1 hr).1
  obtain ⟨_, l2⟩ := curOf_frame H hT (j + 1) (by omega)
  have hsub : ∀ (p:Nat), n ∉ effs (recs.take p) := by
    intro p hm
    refine he ?_
    have : ∀ (a b : List (Rc T.R)), effs (a ++ b) = effs a ++ effs b := by
      intro a b
      induction a with
      | nil => rfl
      | cons x a ih => simp [effs, ih]
    rw [← List.take_append_drop p recs, this]
    exact List.mem_append_left _ hm
  have := l2 n hn (hsub _)
  rw [List.take_add_one, hr, curOf_append] at this
  simp only [Option.toList_some, curOf] at this
  rw [hC] at this
  exact this
theorem hp_frame {R : Type} {S : Nat → Bool} {base : List (HO R)} {n : Nat} : ∀ {rs : List (Rc R)} {i : Nat} {h : List (HO R)}, (∀ (j:Nat) r, rs[j]? = some r → isC r.kind = true → r.h1[n]? = base[n]?) → h[n]? = base[n]? → (hp S i rs h)[n]? = base[n]?
  | [], _, _, _, h => h
  | r :: rs, i, hh, hr, h => by
    simp only [hp]
    refine hp_frame (fun j q hq => hr (j + 1) q (by simpa using hq)) ?_
    split
    · rename_i h1 _
      exact hr 0 r rfl h1
    · exact h
theorem heOf_frame {R : Type} {base : List (HO R)} {n : Nat} : ∀ {rs : List (Rc R)} {h : List (HO R)}, (∀ (j:Nat) r, rs[j]? = some r → isC r.kind = true → r.h1[n]? = base[n]?) → h[n]? = base[n]? → (heOf rs h)[n]? = base[n]?
  | [], _, _, h => h
  | r :: rs, hh, hr, h => by
    simp only [heOf]
    split
    · rename_i h4
      refine heOf_frame (fun j q hq => hr (j + 1) q (by simpa using hq)) ?_
      exact hr 0 r rfl (by rw [beqN_iff.1 h4]; rfl)
    · exact heOf_frame (fun j q hq => hr (j + 1) q (by simpa using hq)) h

section
variable {tbl : Nat → Option (CF T.R)} {ops : Array Oper} {ds : List (List Nat)} {slots : List (Option SV)} {base : List (HO T.R)} {recs : List (Rc T.R)}
theorem wpAny_draw (H : DrawOk T P tbl ops ds slots base recs) (hT : ∀ k C, tbl k = some C → Sound P T k C) {Q : Exit → Act → World → Prop} {ρ0 : Env} {dirt ws : List Nat}
    (hQ : ∀ ρ' a' w', Pre ρ0 ρ' → StRel T K w0 ρ' { slots := finS recs slots, heap := curOf recs base, dirt := dirt, ws := ws } a' w' → Q .normal a' w') :
    ∀ (fuel:Nat) (listed : Array Bool) (a : Act) (w : World) (ρ : Env), listed.size = ops.size → listed.toList.count false ≤ fuel → Pre ρ0 ρ → Down ds (fun j => listed.getD j false) →
      SRel ρ slots recs (fun j => listed.getD j false) a → a.defers = [] → Inv T K w0 ρ (hp (fun j => listed.getD j false) 0 recs base) w → wpAny P .any ops Q fuel listed a w := by
  have done : ∀ (listed : Array Bool) (a : Act) (w : World) (ρ : Env), listed.size = ops.size → Pre ρ0 ρ → SRel ρ slots recs (fun j => listed.getD j false) a → a.defers = [] →
      Inv T K w0 ρ (hp (fun j => listed.getD j false) 0 recs base) w → (∀ j, j < ops.size → listed.getD j false = true) → Q .normal a w :=
    fun listed a w ρ hs hp R hd I hall => hQ ρ a w hp (H.all_done R hd I hall _ _)
  have first : ∀ (listed : Array Bool), listed.size = ops.size → Region.ready .any ops listed = [] → ∀ j, j < ops.size → listed.getD j false = true := by
    intro listed hs hr j
    induction j using Nat.strongRecOn with
    | ind j ih =>
      intro hj
      cases hl : listed.getD j false with
      | true => rfl
      | false =>
        exfalso
        have hj2 : j < listed.size := by omega
        have : j ∈ Region.ready .any ops listed := by
          rw [mem_ready]
          refine ⟨by simpa [Array.getD, hj2] using hl, ops[j], Array.getElem?_eq_getElem hj, fun e he hb => ?_⟩
          have hdl : j < ds.length := by rw [H.D.len]; simpa using hj
          have h1 := H.D.edge j ops[j] ds[j] e.on (by simp [hj]) (List.getElem?_eq_getElem hdl) (edgeL_mem.2 ⟨e, by simpa using he, hb, rfl⟩)
          have h2 := H.D.less j e.on ds[j] (List.getElem?_eq_getElem hdl) h1
          exact ih e.on h2 (by omega)
        rw [hr] at this
        cases this
  intro fuel
  induction fuel with
  | zero =>
    intro listed a w ρ hs hc hpr hD R hd I
    have hall : ∀ j, j < ops.size → listed.getD j false = true := by
      intro j hj
      have hj2 : j < listed.size := by omega
      cases hl : listed.getD j false with
      | true => rfl
      | false =>
        have : false ∈ listed.toList := by
          have h2 : listed[j] = false := by simpa [Array.getD, hj2] using hl
          rw [← h2]
          simp
        have := List.count_pos_iff.2 this
        omega
    refine ⟨?_, done listed a w ρ hs hpr R hd I hall⟩
    cases hr : Region.ready .any ops listed with
    | nil => rfl
    | cons i l =>
      have : i ∈ Region.ready .any ops listed := by rw [hr]; exact List.mem_cons_self
      rw [mem_ready] at this
      obtain ⟨h1, o, ho, _⟩ := this
      have hi := (Array.getElem?_eq_some_iff.1 ho).1
      have := hall i hi
      have hj2 : i < listed.size := by omega
      simp [Array.getD, hj2] at this h1
      rw [this] at h1
      cases h1
  | succ fuel ih =>
    intro listed a w ρ hs hc hpr hD R hd I
    refine ⟨fun hr => done listed a w ρ hs hpr R hd I (first listed hs hr), fun i hi => ?_⟩
    rw [mem_ready] at hi
    obtain ⟨h1, o, ho, hedge⟩ := hi
    have hilt := (Array.getElem?_eq_some_iff.1 ho).1
    have hj2 : i < listed.size := by omega
    have hSi : listed.getD i false = false := by simpa [Array.getD, hj2] using h1
    have hoL : ops.toList[i]? = some o := by simpa using ho
    obtain ⟨hD', hdS⟩ := Down.add H.D hD hoL (fun e he => by
      obtain ⟨e', a1, a2, a3⟩ := edgeL_mem.1 he
      rw [← a3]
      exact hedge e' (by simpa using a1) a2)
    have hirc : i < recs.length := by have := H.len; omega
    have hr : recs[i]? = some recs[i] := List.getElem?_eq_getElem hirc
    generalize recs[i] = r at hr
    obtain ⟨o', d, ho', hd', hrc⟩ := H.at_ hr
    rw [hoL] at ho'
    cases ho'
    have hdS' := hdS d hd'
    obtain ⟨tch, c, res, hpb, hok, hev, e1, e2, e3, e4, e5⟩ := hrc.ev
    have hG := H.view hD R hSi hdS'
    have hw := guardPath_spec hG hrc.path hpb
    have hcw := pathB_sound hG hpb (by intro p hp; cases hp)
    obtain ⟨k1, k2, k3, k4⟩ := H.kind hT hr
    have hS' : (fun j => (listed.setIfInBounds i true).getD j false) = fun j => (listed.getD j false || j == i) := by
      funext j
      by_cases e : j = i
      · subst e
        simp [Array.getD, hj2]
      · have e' : i ≠ j := fun k => e k.symm
        by_cases hjl : j < listed.size
        · simp [Array.getD, hjl, e, e']
        · simp [Array.getD, hjl, e]
    have hcount : (listed.setIfInBounds i true).toList.count false ≤ fuel := by
      rw [Array.toList_setIfInBounds, List.count_set (by simpa using hj2)]
      have h2 : listed[i] = false := by simpa [Array.getD, hj2] using hSi
      simp [h2]
      have : 0 < listed.toList.count false := List.count_pos_iff.2 (by rw [← h2]; simp)
      simp at this
      simp at hc
      omega
    have step : ∀ ρ' cv w', Pre ρ ρ' → Inv T K w0 ρ' (hp (fun j => listed.getD j false || j == i) 0 recs base) w' →
        (∀ v, r.gd = false → r.v = some v → Rel ρ' v cv) → (∀ v, r.gd = true → r.v = some v → (holds a r.π → Rel ρ' v cv) ∧ (¬ holds a r.π → cv = undef)) →
        wpAny P .any ops Q fuel (listed.setIfInBounds i true) (a.put o.dst cv) w' := by
      intro ρ' cv w' hpre I' hplain hgrd
      have hst := H.step hD (R.mono hpre) hr hSi hplain hgrd (fun t hg ht => okPath_spec hok t (by rw [← hrc.gd]; exact hg) (by rw [← hrc.dst]; exact ht))
      rw [hrc.dst] at hst
      refine ih _ _ _ ρ' (by simpa using hs) hcount (hpr.trans hpre) ?_ ?_ (by rw [put_defers]; exact hd) ?_
      · rw [hS']; exact hD'
      · rw [hS']; exact hst
      · rw [hS']; exact I'
    unfold wpOp
    rw [ho]
    simp only
    have hadd := H.heap_add hD hr hSi hd' hdS'
    split
    · rename_i hyes
      refine .inl ?_
      have hπ := hw.1 hyes
      refine evOne_sound hT hev hG (hcw.2 hπ) (by rw [e2]; exact H.need i r hr) hπ I ?_ ?_ ?_ (next := fun a w => wpAny P .any ops Q fuel (listed.setIfInBounds i true) a w) ?_
      · intro hk
        rw [e3] at hk
        exact H.heap_load hT hD hr hSi hd' hdS' hk
      · intro hk
        rw [e3] at hk
        exact H.heap_exact hD hr hSi hd' hdS' (by rcases hk with e | e | e <;> rw [e] <;> rfl)
      · intro m hk
        rw [e3] at hk
        obtain ⟨f1, f2⟩ := H.frz i r m hr hk
        have hh := h1_frame H hT f1 f2
        rw [hp_frame hh rfl, heOf_frame (fun j q hq => hh j q (by
          rw [List.getElem?_take] at hq
          split at hq
          · exact hq
          · cases hq)) rfl]
      · intro ρ' cv w' hpre I' hv
        refine step ρ' cv w' hpre ?_ (fun v _ h2 => hv v (by rw [e1]; exact h2)) (fun v _ h2 => ⟨fun _ => hv v (by rw [e1]; exact h2), fun k => absurd hπ k⟩)
        rw [hadd]
        rw [e3, e4] at I'
        exact I'
    · rename_i hno
      have hg : r.gd = true := by
        rw [hrc.gd]
        cases hgd : o.guard with
        | none => exact absurd (by simp [Region.wanted, hgd]) hno
        | some _ => rfl
      by_cases h4 : r.kind = 4
      · obtain ⟨_, _, z3, _⟩ := evOne_kind hT hev (by rw [e2]; exact H.need i r hr)
        have hgs : o.guard ≠ none := by rw [hrc.gd] at hg; cases hq : o.guard <;> rw [hq] at hg <;> simp_all
        rcases (z3 (by rw [e3]; exact h4)).1 with hq | hq
        · exact absurd hq hgs
        · have hcf : c = false := by
            cases hc' : c with
            | false => rfl
            | true => exact absurd (hw.2 (hcw.1 hc')) hno
          have hcur := H.heap_exact hD hr hSi hd' hdS' (by rw [h4]; rfl)
          obtain ⟨ρ', p', I'⟩ := hq K w0 ρ w hcf (by rw [← hcur]; exact I)
          refine step ρ' undef w p' ?_ (fun v h => by rw [hg] at h; cases h) (fun v _ _ => ⟨fun k => absurd (hw.2 k) hno, fun _ => rfl⟩)
          rw [hadd, if_pos (by rw [h4]; rfl), ← e4]
          exact I'
      refine step ρ undef w (Pre.refl _) ?_ (fun v h => by rw [hg] at h; cases h) (fun v _ _ => ⟨fun k => absurd (hw.2 k) hno, fun _ => rfl⟩)
      rw [hadd]
      have : isC r.kind = false := by
        unfold isC
        split
        · rename_i e; have := (k2 e).2.2; rw [hg] at this; cases this
        · rename_i e; exact absurd e h4
        · rfl
      rw [if_neg (by rw [this]; exact Bool.false_ne_true)]
      exact I
end

theorem drawAt_sound {tbl : Nat → Option (CF T.R)} (hT : ∀ k C, tbl k = some C → Sound P T k C) {id : Nat} {ops : Array Oper} {st : St T.R} {t : Tr (St T.R)} {ds : List (List Nat)} {recs : List (Rc T.R)} {tch : Nat → Bool}
    (hmix : P.follows .mixedOrders = true) (hds : depsL ops.toList [] = some ds) (hev : evDr T P tbl tch ops ds st.slots ops.toList ds 0 [] st.heap st.heap = some recs) (E : drawAt ds st recs = some t) (hok : t.ok) :
    Grow st t.get ∧ ∀ K w0 ρ a w (Q : Exit → Act → World → Prop), StRel T K w0 ρ st a w →
      (∀ ρ' a' w', Pre ρ ρ' → StRel T K w0 ρ' t.get a' w' → Q .normal a' w') → (Code.region id ops true).wp P Q a w := by
  unfold drawAt at E
  split at E
  case h_2 => cases E
  rename_i hall hfrz
  obtain ⟨hn, u, hu, _, hget⟩ := needing_spec E hok
  cases hu
  rw [← hget]
  simp only [Tr.get]
  have D : DepsOk ops.toList ds := by
    have := depsL_spec (pre := []) hds ⟨rfl, fun i n d h => by simp at h, fun i o d e h => by simp at h, fun i o d n h => by simp at h⟩
    simpa using this
  obtain ⟨a1, a2, _, a4⟩ := evDr_spec hev rfl rfl rfl (fun j d hj n hn => by have := D.less j n d hj hn; omega)
  have H : DrawOk T P tbl ops ds st.slots st.heap recs := by
    refine ⟨D, by simpa using a2, ?_, ?_, needR_get hn, okFrz_spec hfrz⟩
    · intro i o d ho hd
      obtain ⟨r, h1, h2⟩ := a4 i o d ho hd
      rw [Nat.zero_add] at h1 h2
      exact ⟨r, h1, h2⟩
    · intro i k r q d e hr hq hd he hne
      have h1 := okAll_spec hall i r d hr hd
      rw [Nat.zero_add] at h1
      have := okRow_spec h1 k q e hq he (by rw [Nat.zero_add]; exact hne)
      rwa [Nat.zero_add] at this
  refine ⟨?_, ?_⟩
  · obtain ⟨f1, f2⟩ := curOf_frame H hT recs.length (Nat.le_refl _)
    rw [List.take_length] at f1 f2
    exact ⟨f1, finS_length _ _, fun n hn => List.mem_append_right _ hn, fun n hn => List.mem_append_right _ hn, fun n hn hnd => f2 n hn fun e => hnd (List.mem_append_left _ e),
      fun n hn => finS_keep fun e => hn (List.mem_append_left _ e)⟩
  · intro K w0 ρ a w Q hr hQ
    refine wp_region_any hmix ?_
    refine wpAny_draw H hT hQ ops.size _ a _ ρ (by simp) (by simp) (Pre.refl _) ?_ ?_ hr.defers ?_
    · intro j n d hj
      simp [Array.getD] at hj
    · refine ⟨hr.size, fun t v h _ => hr.slots t v h, ?_, ?_⟩
      · intro j r t v _ hS
        simp [Array.getD] at hS
      · intro j r t v _ hS
        simp [Array.getD] at hS
    · have : hp (fun j => (Array.replicate ops.size false).getD j false) 0 recs st.heap = st.heap := by
        rw [hp_congr (S' := fun j => ltB j (0 + 0)) (fun j q _ _ => by
          have : ¬ (0 + j < 0 + 0) := by omega
          simp [Array.getD, ltB]), hp_take]
        rfl
      rw [this]
      exact hr.inv.drew
theorem evDraw_sound {tbl : Nat → Option (CF T.R)} (hT : ∀ k C, tbl k = some C → Sound P T k C) {id : Nat} {ops : Array Oper} {st : St T.R} {t : Tr (St T.R)} (E : evDraw T P tbl ops st = some t) (hok : t.ok) :
    Grow st t.get ∧ ∀ K w0 ρ a w (Q : Exit → Act → World → Prop), StRel T K w0 ρ st a w →
      (∀ ρ' a' w', Pre ρ ρ' → StRel T K w0 ρ' t.get a' w' → Q .normal a' w') → (Code.region id ops true).wp P Q a w := by
  unfold evDraw at E
  split at E
  · rename_i ds hmix hds
    split at E
    · rename_i recs hev
      split at E
      · rename_i u hu
        cases E
        exact drawAt_sound hT hmix hds hev hu hok
      · split at E
        · rename_i recs2 hev2
          exact drawAt_sound hT hmix hds hev2 E hok
        · cases E
    · cases E
  · cases E
end
end Go.Sx

namespace Go.Sx
open Go.RowKit

section
variable {P : Program} {T : Theory}

def Cov (T : Theory) (t : Tr (Ex × St T.R)) (u : Ex × St T.R) : Prop := t.get.1 = u.1 ∧ Wk T u.2 t.get.2
theorem Cov.refl (t : Tr (Ex × St T.R)) : Cov T t t.get := ⟨rfl, Wk.refl _⟩

def MkSpec (T : Theory) (c : Bool) (base : St T.R) (x y r : Tr (Ex × St T.R)) : Prop :=
  r.ok → (c = true → x.ok ∧ (Grow { base with dirt := [], ws := [] } x.get.2 → Cov T r x.get ∧ Grow { base with dirt := [], ws := [] } r.get.2)) ∧
    (c = false → y.ok ∧ (Grow { base with dirt := [], ws := [] } y.get.2 → Cov T r y.get ∧ Grow { base with dirt := [], ws := [] } r.get.2))

theorem mk_plain (c : Bool) (base : St T.R) (x y : Tr (Ex × St T.R)) : MkSpec T c base x y (.ite c x y) := by
  intro hok
  constructor
  · rintro rfl; exact ⟨hok.1 rfl, fun h => ⟨Cov.refl x, h⟩⟩
  · rintro rfl; exact ⟨hok.2 rfl, fun h => ⟨Cov.refl y, h⟩⟩

theorem mkY_spec (kp : List Nat) (c : Bool) (base : St T.R) (x : Tr (Ex × St T.R)) : ∀ y, MkSpec T c base x y (mkY kp c base x y)
  | .need p y => by
    intro hok
    obtain ⟨h1, h2⟩ := hok
    obtain ⟨a, b⟩ := mkY_spec kp c base x y h2
    exact ⟨a, fun e => ⟨⟨h1 e, (b e).1⟩, (b e).2⟩⟩
  | .ite b (.leaf l) y => by
    unfold mkY
    split
    · intro hok
      obtain ⟨h1, h2⟩ := hok
      constructor
      · rintro rfl
        exact (mkY_spec kp true base x y (h2 rfl)).1 rfl
      · rintro rfl
        cases b with
        | true => exact ⟨⟨fun _ => trivial, (fun e => by cases e)⟩, fun h => ⟨⟨rfl, Wk.refl _⟩, h⟩⟩
        | false =>
          obtain ⟨q1, q2⟩ := (mkY_spec kp false base x y (h2 rfl)).2 rfl
          exact ⟨⟨(fun e => by cases e), fun _ => q1⟩, q2⟩
    · exact mk_plain _ _ _ _
  | .leaf l => by
    unfold mkY
    split
    · rename_i k
      split
      · rename_i hk hl
        split
        · rename_i s hs
          obtain ⟨g, h1, h2⟩ := mrgSt_spec hs
          intro _
          constructor
          · rintro rfl
            exact ⟨trivial, fun h => ⟨⟨by simp only [Tr.get]; exact hk.symm, h1 rfl h⟩, g⟩⟩
          · rintro rfl
            exact ⟨trivial, fun h => ⟨⟨by simp only [Tr.get]; exact hl.symm, h2 rfl h⟩, g⟩⟩
        · exact mk_plain _ _ _ _
      · intro _
        constructor
        · rintro rfl; exact ⟨trivial, fun h => ⟨⟨rfl, Wk.refl _⟩, h⟩⟩
        · rintro rfl; exact ⟨trivial, fun h => ⟨⟨rfl, Wk.refl _⟩, h⟩⟩
      · exact mk_plain _ _ _ _
    · exact mk_plain _ _ _ _
  | .ite b (.need p z) y => by unfold mkY; exact mk_plain _ _ _ _
  | .ite b (.ite d z z') y => by unfold mkY; exact mk_plain _ _ _ _

theorem mkX_spec (kp : List Nat) (c : Bool) (base : St T.R) (y : Tr (Ex × St T.R)) : ∀ x, MkSpec T c base x y (mkX kp c base y x)
  | .need p x => by
    intro hok
    obtain ⟨h1, h2⟩ := hok
    obtain ⟨a, b⟩ := mkX_spec kp c base y x h2
    exact ⟨fun e => ⟨⟨h1 e, (a e).1⟩, (a e).2⟩, b⟩
  | .ite b (.leaf l) x => by
    unfold mkX
    split
    · intro hok
      obtain ⟨h1, h2⟩ := hok
      constructor
      · rintro rfl
        cases b with
        | true => exact ⟨⟨fun _ => trivial, (fun e => by cases e)⟩, fun h => ⟨⟨rfl, Wk.refl _⟩, h⟩⟩
        | false =>
          obtain ⟨q1, q2⟩ := (mkX_spec kp true base y x (h2 rfl)).1 rfl
          exact ⟨⟨(fun e => by cases e), fun _ => q1⟩, q2⟩
      · rintro rfl
        exact (mkX_spec kp false base y x (h2 rfl)).2 rfl
    · exact mkY_spec _ _ _ _ _
  | .leaf l => by
    unfold mkX
    split
    · exact mk_plain _ _ _ _
    · exact mkY_spec _ _ _ _ _
  | .ite b (.need p z) x => by unfold mkX; exact mkY_spec _ _ _ _ _
  | .ite b (.ite d z z') x => by unfold mkX; exact mkY_spec _ _ _ _ _

theorem renorm_spec (kp : List Nat) (base : St T.R) : ∀ t, (renorm kp base t).ok → t.ok ∧ (Grow { base with dirt := [], ws := [] } t.get.2 → Cov T (renorm kp base t) t.get ∧ Grow { base with dirt := [], ws := [] } (renorm kp base t).get.2)
  | .leaf l, h => ⟨trivial, fun g => ⟨Cov.refl _, g⟩⟩
  | .need p x, h => by
    obtain ⟨a, b⟩ := renorm_spec kp base x h.2
    exact ⟨⟨h.1, a⟩, b⟩
  | .ite c x y, h => by
    obtain ⟨a, b⟩ := mkX_spec kp c base (renorm kp base y) (renorm kp base x) h
    cases c with
    | true =>
      obtain ⟨a1, a2⟩ := a rfl
      obtain ⟨b1, b2⟩ := renorm_spec kp base x a1
      refine ⟨⟨fun _ => b1, (fun e => by cases e)⟩, fun g => ?_⟩
      obtain ⟨c1, c2⟩ := b2 g
      obtain ⟨d1, d2⟩ := a2 c2
      exact ⟨⟨d1.1.trans c1.1, c1.2.trans d1.2⟩, d2⟩
    | false =>
      obtain ⟨a1, a2⟩ := b rfl
      obtain ⟨b1, b2⟩ := renorm_spec kp base y a1
      refine ⟨⟨(fun e => by cases e), fun _ => b1⟩, fun g => ?_⟩
      obtain ⟨c1, c2⟩ := b2 g
      obtain ⟨d1, d2⟩ := a2 c2
      exact ⟨⟨d1.1.trans c1.1, c1.2.trans d1.2⟩, d2⟩
end

/-! ### Code -/
abbrev Out (T : Theory) := Option (Tr (Ex × St T.R))
structure Hints (T : Theory) where
  loops : Nat → Option (St T.R → Out T)
  unroll : Nat → Option Nat
  lits : Nat → Bool
  regs : Nat → Option (St T.R → Out T) := fun _ => none
  keep : List Nat := []

def firstReg : Code → Nat
  | .region id _ _ => id
  | .seq a _ => firstReg a
  | .block _ b => firstReg b
  | .loop b => firstReg b
  | .scope b => firstReg b
  | .cond _ a _ => firstReg a
  | _ => 0

def fresh {R : Type} (st : St R) : St R := { st with dirt := [], ws := [] }
def back {R : Type} (st : St R) (l : Ex × St R) : Ex × St R := (l.1, { l.2 with dirt := l.2.dirt ++ st.dirt, ws := l.2.ws ++ st.ws })
def unblock {R : Type} (id:Nat) (l : Ex × St R) : Ex × St R :=
  match l.1 with
  | .exit id' => match beqN id' id with
    | true => (.normal, l.2)
    | false => l
  | _ => l
def rounds {T : Theory} (E : St T.R → Out T) : Nat → St T.R → Out T
  | 0, _ => none
  | n + 1, st => match E st with
    | some t => t.bind fun l => match l.1 with
      | .normal => rounds E n l.2
      | _ => some (.leaf l)
    | none => none
def omap {α β : Type} (f : α → β) : Option α → Option β
  | some a => some (f a)
  | none => none

def evCode (T : Theory) (P : Program) (tbl : Nat → Option (CF T.R)) (H : Hints T) : Code → St T.R → Out T
  | .skip, st => some (.leaf (.normal, st))
  | .exit id, st => some (.leaf (.exit id, st))
  | .ret, st => some (.leaf (.ret, st))
  | .region id ops d, st => match d with
    | true => match H.regs id with
      | some L => L st
      | none => omap (Tr.map fun s => (Ex.normal, s)) (evDraw T P tbl ops st)
    | false => omap (Tr.map fun s => (Ex.normal, s)) (evOps T P tbl H.lits ops ops.toList [] st)
  | .seq a b, st => match evCode T P tbl H a st with
    | some t => t.bind fun l => match l.1 with
      | .normal => evCode T P tbl H b l.2
      | _ => some (.leaf l)
    | none => none
  | .cond c x y, st => match evalG st.slots [] [] c with
    | some (.bool b) => match c with
      | .tmp t => match H.lits t with
        | true => match b with
          | true => evCode T P tbl H x st
          | false => evCode T P tbl H y st
        | false => match evCode T P tbl H x (fresh st), evCode T P tbl H y (fresh st) with
          | some u, some v => some ((mkX H.keep b st v u).map (back st))
          | _, _ => none
      | _ => match b with
        | true => evCode T P tbl H x st
        | false => evCode T P tbl H y st
    | _ => none
  | .block id b, st => match evCode T P tbl H b (fresh st) with
    | some t => some ((renorm H.keep st (t.map (unblock id))).map (back st))
    | none => none
  | .loop b, st => match H.loops (firstReg b) with
    | some L => L st
    | none => match H.unroll (firstReg b) with
      | some n => rounds (evCode T P tbl H b) n st
      | none => none
  | _, _ => none

def CodeSound (T : Theory) (P : Program) (c : Code) (E : St T.R → Out T) : Prop :=
  ∀ st t, E st = some t → t.ok → Grow st t.get.2 ∧ ∀ K w0 ρ a w (Q : Exit → Act → World → Prop), StRel T K w0 ρ st a w →
    (∀ ρ' a' w', Pre ρ ρ' → StRel T K w0 ρ' t.get.2 a' w' → Q t.get.1.to a' w') → c.wp P Q a w

def LoopsOk (T : Theory) (P : Program) (H : Hints T) : Code → Prop
  | .seq a b => LoopsOk T P H a ∧ LoopsOk T P H b
  | .cond _ a b => LoopsOk T P H a ∧ LoopsOk T P H b
  | .block _ b => LoopsOk T P H b
  | .loop b => (∀ L, H.loops (firstReg b) = some L → CodeSound T P (.loop b) L) ∧ LoopsOk T P H b
  | .region id ops d => d = true → ∀ L, H.regs id = some L → CodeSound T P (.region id ops true) L
  | _ => True

section
variable {P : Program} {T : Theory}

theorem Grow.fresh {st s : St T.R} (h : Grow (fresh st) s) : Grow st { s with dirt := s.dirt ++ st.dirt, ws := s.ws ++ st.ws } :=
  ⟨h.len, h.slen, fun _ k => List.mem_append_right _ k, fun _ k => List.mem_append_right _ k,
    fun n hn hd => h.heap n hn fun k => hd (List.mem_append_left _ k), fun n hd => h.slots n fun k => hd (List.mem_append_left _ k)⟩

theorem rounds_sound {b : Code} {E : St T.R → Out T} (hb : CodeSound T P b E) : ∀ n, CodeSound T P (.loop b) (rounds E n) := by
  have key : ∀ n st t, rounds E n st = some t → t.ok → Grow st t.get.2 ∧ ∀ K w0 ρ a w (Q : Exit → Act → World → Prop), StRel T K w0 ρ st a w →
      (∀ ρ' a' w', Pre ρ ρ' → StRel T K w0 ρ' t.get.2 a' w' → Q t.get.1.to a' w') → Code.rounds P b Q n a w := by
    intro n
    induction n with
    | zero => intro st t h; cases h
    | succ n ih =>
      intro st t h hok
      simp only [rounds] at h
      split at h
      · rename_i u hu
        obtain ⟨hok1, v, hv, hok2, hget⟩ := Tr.bind_spec h hok
        obtain ⟨g1, r1⟩ := hb st u hu hok1
        rw [hget]
        split at hv
        · rename_i hn
          obtain ⟨g2, r2⟩ := ih _ _ hv hok2
          refine ⟨g1.trans g2, fun K w0 ρ a w Q hr hQ => ?_⟩
          rw [rounds_succ]
          refine r1 K w0 ρ a w _ hr fun ρ' a' w' hp hr' => ?_
          rw [hn]
          exact r2 K w0 ρ' a' w' Q hr' fun ρ'' a'' w'' hp' hr'' => hQ ρ'' a'' w'' (hp.trans hp') hr''
        · rename_i hn
          cases hv
          refine ⟨g1, fun K w0 ρ a w Q hr hQ => ?_⟩
          rw [rounds_succ]
          refine r1 K w0 ρ a w _ hr fun ρ' a' w' hp hr' => ?_
          have := hQ ρ' a' w' hp hr'
          simp only [Tr.get] at this
          cases hx : u.get.1 with
          | normal => exact absurd hx hn
          | exit id => rw [hx] at this; exact this
          | ret => rw [hx] at this; exact this
      · cases h
  intro n st t h hok
  obtain ⟨g, r⟩ := key n st t h hok
  exact ⟨g, fun K w0 ρ a w Q hr hQ => wp_loop_rounds n (r K w0 ρ a w Q hr hQ)⟩

theorem evCode_sound {tbl : Nat → Option (CF T.R)} (hT : ∀ k C, tbl k = some C → Sound P T k C) (H : Hints T) : ∀ c, LoopsOk T P H c → CodeSound T P c (evCode T P tbl H c) := by
  intro c
  induction c with
  | skip =>
    intro _ st t h hok
    cases h
    exact ⟨Grow.refl _, fun K w0 ρ a w Q hr hQ => wp_skip (hQ ρ a w (Pre.refl _) hr)⟩
  | exit id =>
    intro _ st t h hok
    cases h
    exact ⟨Grow.refl _, fun K w0 ρ a w Q hr hQ => wp_exit (hQ ρ a w (Pre.refl _) hr)⟩
  | ret =>
    intro _ st t h hok
    cases h
    exact ⟨Grow.refl _, fun K w0 ρ a w Q hr hQ => wp_ret (hQ ρ a w (Pre.refl _) hr)⟩
  | region id ops d =>
    intro hl st t h hok
    cases d with
    | true =>
      simp only [evCode] at h
      cases hL : H.regs id with
      | some L =>
        rw [hL] at h
        exact hl rfl L hL st t h hok
      | none =>
      rw [hL] at h
      cases hu : evDraw T P tbl ops st with
      | none => simp only [hu] at h; cases h
      | some u =>
        simp only [hu] at h
        cases h
        rw [Tr.map_get]
        exact evDraw_sound hT hu ((Tr.map_ok _ _).1 hok)
    | false =>
      simp only [evCode] at h
      cases hu : evOps T P tbl H.lits ops ops.toList [] st with
      | none => rw [hu] at h; cases h
      | some u =>
        rw [hu] at h
        cases h
        rw [Tr.map_get]
        obtain ⟨g, r⟩ := evOps_sound hT _ _ _ _ hu ((Tr.map_ok _ _).1 hok)
        refine ⟨g, fun K w0 ρ a w Q hr hQ => wp_region_list ?_⟩
        exact r K w0 ρ a w Q ⟨hr.size, hr.slots, fun t x hx => by cases hx⟩ hr.defers hr.inv hQ
  | seq x y ihx ihy =>
    intro hl st t h hok
    simp only [evCode] at h
    split at h
    · rename_i u hu
      obtain ⟨hok1, v, hv, hok2, hget⟩ := Tr.bind_spec h hok
      obtain ⟨g1, r1⟩ := ihx hl.1 st u hu hok1
      rw [hget]
      split at hv
      · rename_i hn
        obtain ⟨g2, r2⟩ := ihy hl.2 _ _ hv hok2
        refine ⟨g1.trans g2, fun K w0 ρ a w Q hr hQ => wp_seq (r1 K w0 ρ a w _ hr fun ρ' a' w' hp hr' => ?_)⟩
        rw [hn]
        exact r2 K w0 ρ' a' w' Q hr' fun ρ'' a'' w'' hp' hr'' => hQ ρ'' a'' w'' (hp.trans hp') hr''
      · rename_i hn
        cases hv
        refine ⟨g1, fun K w0 ρ a w Q hr hQ => wp_seq (r1 K w0 ρ a w _ hr fun ρ' a' w' hp hr' => ?_)⟩
        have := hQ ρ' a' w' hp hr'
        simp only [Tr.get] at this
        cases hx : u.get.1 with
        | normal => exact absurd hx hn
        | exit id => rw [hx] at this; exact this
        | ret => rw [hx] at this; exact this
    · cases h
  | cond c x y ihx ihy =>
    intro hl st t h hok
    simp only [evCode] at h
    split at h
    · rename_i b hb
      have hev : ∀ K w0 ρ a w, StRel T K w0 ρ st a w → a.eval c = .bool b := fun K w0 ρ a w hr =>
        evalG_sound (g := []) ⟨hr.size, hr.slots, fun t x hx => by cases hx⟩ (π := []) (fun p hp => by cases hp) _ _ hb
      have lit : ∀ t, (match b with | true => evCode T P tbl H x st | false => evCode T P tbl H y st) = some t → t.ok → Grow st t.get.2 ∧ ∀ K w0 ρ a w (Q : Exit → Act → World → Prop), StRel T K w0 ρ st a w →
          (∀ ρ' a' w', Pre ρ ρ' → StRel T K w0 ρ' t.get.2 a' w' → Q t.get.1.to a' w') → (Code.cond c x y).wp P Q a w := by
        intro t h hok
        cases b with
        | true =>
          obtain ⟨g, r⟩ := ihx hl.1 st t h hok
          exact ⟨g, fun K w0 ρ a w Q hr hQ => wp_cond_true (hev K w0 ρ a w hr) (r K w0 ρ a w Q hr hQ)⟩
        | false =>
          obtain ⟨g, r⟩ := ihy hl.2 st t h hok
          exact ⟨g, fun K w0 ρ a w Q hr hQ => wp_cond_false (hev K w0 ρ a w hr) (r K w0 ρ a w Q hr hQ)⟩
      split at h
      · split at h
        · exact lit t h hok
        · split at h
          · rename_i u v hu hv
            cases h
            have hok' := (Tr.map_ok _ _).1 hok
            obtain ⟨m1, m2⟩ := mkX_spec H.keep b st v u hok'
            simp only [Tr.map_get]
            have fr : ∀ K w0 ρ a w, StRel T K w0 ρ st a w → StRel T K w0 ρ (fresh st) a w := fun K w0 ρ a w hr => ⟨hr.size, hr.defers, hr.slots, hr.inv⟩
            cases b with
            | true =>
              obtain ⟨ok1, m3⟩ := m1 rfl
              obtain ⟨g, r⟩ := ihx hl.1 _ _ hu ok1
              obtain ⟨m4, m5⟩ := m3 g
              refine ⟨m5.fresh, fun K w0 ρ a w Q hr hQ => wp_cond_true (hev K w0 ρ a w hr) (r K w0 ρ a w Q (fr K w0 ρ a w hr) fun ρ' a' w' hp hr' => ?_)⟩
              obtain ⟨ρ'', hp', hr''⟩ := (m4.2.trans (Wk.dirt _ _)) K w0 ρ' a' w' hr'
              have := hQ ρ'' a' w' (hp.trans hp') hr''
              simp only [back, m4.1] at this
              exact this
            | false =>
              obtain ⟨ok1, m3⟩ := m2 rfl
              obtain ⟨g, r⟩ := ihy hl.2 _ _ hv ok1
              obtain ⟨m4, m5⟩ := m3 g
              refine ⟨m5.fresh, fun K w0 ρ a w Q hr hQ => wp_cond_false (hev K w0 ρ a w hr) (r K w0 ρ a w Q (fr K w0 ρ a w hr) fun ρ' a' w' hp hr' => ?_)⟩
              obtain ⟨ρ'', hp', hr''⟩ := (m4.2.trans (Wk.dirt _ _)) K w0 ρ' a' w' hr'
              have := hQ ρ'' a' w' (hp.trans hp') hr''
              simp only [back, m4.1] at this
              exact this
          · cases h
      · exact lit t h hok
    · cases h
  | block id b ih =>
    intro hl st t h hok
    simp only [evCode] at h
    split at h
    · rename_i u hu
      cases h
      have hok' := (Tr.map_ok _ _).1 hok
      obtain ⟨ok1, m3⟩ := renorm_spec H.keep st _ hok'
      obtain ⟨g, r⟩ := ih hl _ _ hu ((Tr.map_ok _ _).1 ok1)
      rw [Tr.map_get] at m3
      have e2 : (unblock id u.get).2 = u.get.2 := by
        unfold unblock
        split
        · split <;> rfl
        · rfl
      rw [e2] at m3
      obtain ⟨m4, m5⟩ := m3 g
      simp only [Tr.map_get]
      refine ⟨m5.fresh, fun K w0 ρ a w Q hr hQ => wp_block (r K w0 ρ a w _ ⟨hr.size, hr.defers, hr.slots, hr.inv⟩ fun ρ' a' w' hp hr' => ?_)⟩
      rw [← e2] at hr'
      obtain ⟨ρ'', hp', hr''⟩ := (m4.2.trans (Wk.dirt _ _)) K w0 ρ' a' w' hr'
      have := hQ ρ'' a' w' (hp.trans hp') hr''
      simp only [back, m4.1] at this
      unfold unblock at this
      cases hx : u.get.1 with
      | normal => rw [hx] at this; simp only at this; rw [hx] at this; exact this
      | ret => rw [hx] at this; simp only at this; rw [hx] at this; exact this
      | exit id' =>
        rw [hx] at this
        simp only at this
        show Exit.inBlock id Q (.exit id') a' w'
        simp only [Exit.inBlock]
        split at this
        · rename_i e
          rw [if_pos (beqN_iff.1 e)]
          exact this
        · rename_i e
          rw [if_neg fun k => by rw [beqN_iff.2 k] at e; cases e]
          rw [hx] at this
          exact this
    · cases h
  | loop b ih =>
    intro hl st t h hok
    simp only [evCode] at h
    split at h
    · rename_i L hL
      exact hl.1 L hL st t h hok
    · split at h
      · exact rounds_sound (ih hl.2) _ st t h hok
      · cases h
  | rangeFunc f ps a b => intro _ st t h; cases h
  | scope b => intro _ st t h; cases h
  | label l => intro _ st t h; cases h
  | goto l => intro _ st t h; cases h
  | refuse s => intro _ st t h; cases h
end
end Go.Sx

namespace Go.Sx
open Go.RowKit

/-! ### Results -/
def resS {R : Type} (P : Program) (h : List (HO R)) (slots : List (Option SV)) : List ResultVar → Option (List SV × Option Prop)
  | [] => some ([], none)
  | .tmp t :: rs => match slots[t]?, resS P h slots rs with
    | some (some v), some (vs, n) => some (v :: vs, n)
    | _, _ => none
  | .cell a t :: rs => match slots[a]?, resS P h slots rs with
    | some (some (.ptr m o)), some (vs, n) => match evLoad P t h (.ptr m o) with
      | some (v, q) => some (v :: vs, andN q n)
      | none => none
    | _, _ => none
def packS : List SV → SV
  | [v] => v
  | vs => .tup vs

def scpO {R : Type} (n:Nat) : Option (HO R) → Bool
  | some .gone => true
  | some (.cells _ xs) => scpL n xs
  | some (.res _) => true
  | some (.row _ _ _ _) => true
  | _ => false
def scpD {R : Type} (n:Nat) (h : List (HO R)) : List Nat → Bool
  | [] => true
  | d :: ds => match Nat.decLt d n with
    | isTrue _ => match scpO n h[d]? with
      | true => scpD n h ds
      | false => false
    | isFalse _ => scpD n h ds
def below (n:Nat) : List Nat → List Nat
  | [] => []
  | d :: ds => match Nat.decLt d n with
    | isTrue _ => d :: below n ds
    | isFalse _ => below n ds
def trim {R : Type} (n:Nat) (r : SV × List (HO R) × List Nat) : SV × List (HO R) × List Nat :=
  match scp n r.1, scpD n r.2.1 r.2.2 with
  | true, true => (r.1, r.2.1.take n, below n r.2.2)
  | _, _ => r

def rowN {R : Type} (n:Nat) (h : List (HO R)) : List Nat → Option Prop
  | [] => none
  | d :: ds => match Nat.decLt d n with
    | isTrue _ => match h[d]? with
      | some (.row _ _ _ el) => andN (some (∀ i, scpL n (el i) = true)) (rowN n h ds)
      | _ => rowN n h ds
    | isFalse _ => rowN n h ds
def trimP {R : Type} (n:Nat) (r : SV × List (HO R) × List Nat) : Option Prop :=
  match scp n r.1, scpD n r.2.1 r.2.2 with
  | true, true => rowN n r.2.1 r.2.2
  | _, _ => none
def Tr.mapN {α β : Type} (p : α → Option Prop) (f : α → β) : Tr α → Tr β
  | .leaf a => match p a with
    | some q => .need q (.leaf (f a))
    | none => .leaf (f a)
  | .need q t => .need q (Tr.mapN p f t)
  | .ite c x y => .ite c (Tr.mapN p f x) (Tr.mapN p f y)
theorem Tr.mapN_spec {α β : Type} {p : α → Option Prop} {f : α → β} : ∀ t : Tr α, (Tr.mapN p f t).ok → t.ok ∧ Nd (p t.get) ∧ (Tr.mapN p f t).get = f t.get
  | .leaf a, h => by
    simp only [Tr.mapN] at h ⊢
    split at h
    · rename_i q e
      refine ⟨trivial, ?_, ?_⟩
      · simp only [Tr.get]; rw [e]; exact h.1
      · rfl
    · rename_i e
      refine ⟨trivial, ?_, ?_⟩
      · simp only [Tr.get]; rw [e]; trivial
      · rfl
  | .need q t, h => by
    obtain ⟨a, b, c⟩ := Tr.mapN_spec t h.2
    exact ⟨⟨h.1, a⟩, b, c⟩
  | .ite c x y, h => by
    cases c
    · obtain ⟨a, b, d⟩ := Tr.mapN_spec y (h.2 rfl)
      exact ⟨⟨(fun e => by cases e), fun _ => a⟩, b, d⟩
    · obtain ⟨a, b, d⟩ := Tr.mapN_spec x (h.1 rfl)
      exact ⟨⟨fun _ => a, (fun e => by cases e)⟩, b, d⟩
abbrev Fin (R : Type) := SV × List (HO R) × List Nat
def mrgFin {T : Theory} (kp : List Nat) (c : Bool) (base : List (HO T.R)) (x y : Fin T.R) : Option (Fin T.R) :=
  match noMrg kp (x.2.2 ++ y.2.2), mrg c x.1 y.1, mrgH c (x.2.2 ++ y.2.2) 0 base x.2.1 y.2.1 with
  | false, some v, some h => some (v, h ++ tailK (match scp base.length v with
    | true => false
    | false => true) c base.length x.2.1 y.2.1, x.2.2 ++ y.2.2)
  | _, _, _ => none
def fkY {T : Theory} (kp : List Nat) (c : Bool) (base : List (HO T.R)) (x : Tr (Fin T.R)) : Tr (Fin T.R) → Tr (Fin T.R)
  | .need p y => .need (c = false → p) (fkY kp c base x y)
  | .leaf l => match x with
    | .leaf k => match mrgFin kp c base k l with
      | some s => .leaf s
      | none => .ite c x (.leaf l)
    | _ => .ite c x (.leaf l)
  | y => .ite c x y
def fkX {T : Theory} (kp : List Nat) (c : Bool) (base : List (HO T.R)) (y : Tr (Fin T.R)) : Tr (Fin T.R) → Tr (Fin T.R)
  | .need p x => .need (c = true → p) (fkX kp c base y x)
  | x => fkY kp c base x y
def refin {T : Theory} (kp : List Nat) (base : List (HO T.R)) : Tr (Fin T.R) → Tr (Fin T.R)
  | .leaf l => .leaf l
  | .need p x => .need p (refin kp base x)
  | .ite c x y => fkX kp c base (refin kp base y) (refin kp base x)

def initSlots (args : List SV) (n:Nat) : List (Option SV) := args.map some ++ List.replicate (n - args.length) none
def finish (T : Theory) (P : Program) (fn : Func) (l : Ex × St T.R) : Option (Tr (Fin T.R)) :=
  match l.1 with
  | .exit _ => none
  | _ => match resS P l.2.heap l.2.slots fn.results.toList with
    | some (vs, n) => needing n (some (.leaf (packS vs, l.2.heap, l.2.dirt)))
    | none => none
def evFn (T : Theory) (P : Program) (tbl : Nat → Option (CF T.R)) (H : Hints T) (k:Nat) : CF T.R := fun args h =>
  match P.funcs[k]? with
  | some fn => match fn.body with
    | some c => match evCode T P tbl H c { slots := initSlots args fn.ntmps, heap := h, dirt := [], ws := [] } with
      | some t => match t.bind (finish T P fn) with
        | some u => some ((refin H.keep h u).mapN (trimP h.length) (trim h.length))
        | none => none
      | none => none
    | none => none
  | none => none

section
variable {P : Program} {T : Theory} {K : Nat → Prop} {w0 w : World} {ρ : Env} {h : List (HO T.R)}

theorem resS_sound {slots : List (Option SV)} {tmps : Array Value} {f : ResultVar → Sem Value} (hf1 : ∀ t, f (.tmp t) = pure (tmps.getD t undef))
    (hf2 : ∀ a t, f (.cell a t) = do loadVar t (← asAddr (tmps.getD a undef))) (hs : ∀ t v, slots[t]? = some (some v) → Rel ρ v (tmps.getD t undef)) (I : Inv T K w0 ρ h w) :
    ∀ {rs : List ResultVar} {vs : List SV} {n : Option Prop}, resS P h slots rs = some (vs, n) → Nd n →
      ∃ cs : List Value, (rs.mapM f).run P w = .ok cs w ∧ RelL ρ vs cs
  | [], vs, n, H, hn => by cases H; exact ⟨[], by simp, rfl⟩
  | .tmp t :: rs, vs, n, H, hn => by
    simp only [resS] at H
    split at H
    · rename_i v vs' n' h1 h2
      cases H
      obtain ⟨cs, e, k⟩ := resS_sound hf1 hf2 hs I h2 hn
      refine ⟨tmps.getD t undef :: cs, ?_, _, cs, rfl, hs t v h1, k⟩
      simp only [List.mapM_cons, hf1, Sem.run_bind, Sem.run_pure, Result.andThen_ok, e]
    · cases H
  | .cell a t :: rs, vs, n, H, hn => by
    simp only [resS] at H
    split at H
    · rename_i m o vs' n' h1 h2
      split at H
      · rename_i v q h3
        cases H
        obtain ⟨cs, e, k⟩ := resS_sound hf1 hf2 hs I h2 (andN_iff.1 hn).2
        have hr := hs a _ h1
        obtain ⟨cv, e1, k1⟩ := evLoad_sound (P := P) h3 (andN_iff.1 hn).1 I hr
        obtain ⟨l, hl, e2⟩ := hr
        rw [e2] at e1
        refine ⟨cv :: cs, ?_, _, cs, rfl, k1, k⟩
        simp only [Instr.loadAt, Instr.sureAddr, Sem.run_bind, Sem.run_pure, Result.andThen_ok] at e1
        have ea : (asAddr (tmps.getD a undef)).run P w = .ok ⟨l.blk, l.off + o, none⟩ w := by rw [e2]; simp [asAddr]
        simp only [List.mapM_cons, hf2, Sem.run_bind, Sem.run_pure, Result.andThen_ok, e, ea, e1]
      · cases H
    · cases H

theorem results_sound {fn : Func} {slots : List (Option SV)} {tmps : Array Value} (hs : ∀ t v, slots[t]? = some (some v) → Rel ρ v (tmps.getD t undef)) (I : Inv T K w0 ρ h w)
    {vs : List SV} {n : Option Prop} (H : resS P h slots fn.results.toList = some (vs, n)) (hn : Nd n) : ∃ v, (results fn tmps).run P w = .ok v w ∧ Rel ρ (packS vs) v := by
  have main : ∃ cs, (results fn tmps).run P w = .ok (if h : cs.toArray.size = 1 then cs.toArray[0] else .tuple cs.toArray) w ∧ RelL ρ vs cs := by
    unfold results
    rw [Array.mapM_eq_mapM_toList]
    simp only [Sem.run_bind, Sem.run_map]
    generalize hf : (fun x : ResultVar => _) = f
    obtain ⟨cs, e, k⟩ := resS_sound (f := f) (fun t => by rw [← hf]) (fun a t => by rw [← hf]) hs I H hn
    refine ⟨cs, ?_, k⟩
    rw [e]
    simp
  obtain ⟨cs, e', k⟩ := main
  refine ⟨_, e', ?_⟩
  match vs, cs, k with
  | [], _, k => simp only [RelL] at k; subst k; exact ⟨[], rfl, rfl⟩
  | [v], _, k =>
    obtain ⟨c, _, rfl, k1, k2⟩ := k
    simp only [RelL] at k2
    subst k2
    simpa [packS] using k1
  | v :: v' :: vs, _, k =>
    obtain ⟨c, _, rfl, k1, c', cs', rfl, k2, k3⟩ := k
    have : ¬ ((c :: c' :: cs').toArray.size = 1) := by simp
    rw [dif_neg this]
    exact ⟨_, rfl, _, _, rfl, k1, _, _, rfl, k2, k3⟩

mutual
theorem Rel.down {ρ e : Env} : ∀ (v : SV) (c0 c : Value), Rel ρ v c0 → Rel (ρ ++ e) v c → Rel ρ v c
  | .bool _, _, _, _, r => r
  | .int _ _, _, _, _, r => r
  | .str _, _, _, _, r => r
  | .ptr _ _, _, _, q, r => by
    obtain ⟨l, hl, k⟩ := r
    obtain ⟨l0, hl0, _⟩ := q
    rw [Pre.get ⟨e, rfl⟩ hl0] at hl
    cases hl
    exact ⟨_, hl0, k⟩
  | .elt _ _ _ _, _, _, q, r => by
    obtain ⟨l, hl, k⟩ := r
    obtain ⟨l0, hl0, _⟩ := q
    rw [Pre.get ⟨e, rfl⟩ hl0] at hl
    cases hl
    exact ⟨_, hl0, k⟩
  | .nilp, _, _, _, r => r
  | .slc _ _ _ _, _, _, q, r => by
    obtain ⟨l, hl, k⟩ := r
    obtain ⟨l0, hl0, _⟩ := q
    rw [Pre.get ⟨e, rfl⟩ hl0] at hl
    cases hl
    exact ⟨_, hl0, k⟩
  | .nils, _, _, _, r => r
  | .map _, _, _, q, r => by
    obtain ⟨l, hl, k⟩ := r
    obtain ⟨l0, hl0, _⟩ := q
    rw [Pre.get ⟨e, rfl⟩ hl0] at hl
    cases hl
    exact ⟨_, hl0, k⟩
  | .nilm, _, _, _, r => r
  | .fn _ caps, _, _, q, r => by obtain ⟨cs, e1, k⟩ := r; obtain ⟨cs0, _, k0⟩ := q; exact ⟨cs, e1, RelL.down caps cs0 cs k0 k⟩
  | .nilf, _, _, _, r => r
  | .ifc _ x, _, _, q, r => by obtain ⟨y, e1, k⟩ := r; obtain ⟨y0, _, k0⟩ := q; exact ⟨y, e1, Rel.down x y0 y k0 k⟩
  | .nili, _, _, _, r => r
  | .agg l, _, _, q, r => by obtain ⟨cs, e1, k⟩ := r; obtain ⟨cs0, _, k0⟩ := q; exact ⟨cs, e1, RelL.down l cs0 cs k0 k⟩
  | .tup l, _, _, q, r => by obtain ⟨cs, e1, k⟩ := r; obtain ⟨cs0, _, k0⟩ := q; exact ⟨cs, e1, RelL.down l cs0 cs k0 k⟩
theorem RelL.down {ρ e : Env} : ∀ (l : List SV) (c0 cs : List Value), RelL ρ l c0 → RelL (ρ ++ e) l cs → RelL ρ l cs
  | [], _, _, _, r => r
  | x :: xs, _, _, q, r => by
    obtain ⟨y, ys, e1, k1, k2⟩ := r
    obtain ⟨y0, ys0, _, q1, q2⟩ := q
    exact ⟨y, ys, e1, Rel.down x y0 y q1 k1, RelL.down xs ys0 ys q2 k2⟩
end

theorem scopedD_spec {R : Type} {n : Nat} {h : List (HO R)} : ∀ {ds : List Nat}, scpD n h ds = true → ∀ d, d ∈ ds → d < n → scpO n h[d]? = true
  | [], _, d, hd, _ => by cases hd
  | x :: ds, H, d, hd, hlt => by
    simp only [scpD] at H
    split at H
    · split at H
      · rename_i h1
        rcases List.mem_cons.1 hd with rfl | hd
        · exact h1
        · exact scopedD_spec H d hd hlt
      · cases H
    · rename_i hn _
      rcases List.mem_cons.1 hd with rfl | hd
      · exact absurd hlt hn
      · exact scopedD_spec H d hd hlt
theorem rowN_spec {R : Type} {n : Nat} {h : List (HO R)} : ∀ {ds : List Nat}, Nd (rowN n h ds) → ∀ d, d ∈ ds → d < n → ∀ t sz len el, h[d]? = some (.row t sz len el) → ∀ i, scpL n (el i) = true
  | [], _, d, hd, _, _, _, _, _, _ => by cases hd
  | x :: ds, H, d, hd, hlt, t, sz, len, el, he => by
    simp only [rowN] at H
    split at H
    · split at H
      · rename_i h1
        obtain ⟨H1, H2⟩ := andN_iff.1 H
        rcases List.mem_cons.1 hd with rfl | hd
        · rw [h1] at he; cases he; exact H1
        · exact rowN_spec H2 d hd hlt t sz len el he
      · rename_i h1
        rcases List.mem_cons.1 hd with rfl | hd
        · exact absurd he (h1 _ _ _ _)
        · exact rowN_spec H d hd hlt t sz len el he
    · rename_i hn _
      rcases List.mem_cons.1 hd with rfl | hd
      · exact absurd hlt hn
      · exact rowN_spec H d hd hlt t sz len el he
theorem below_spec {n : Nat} : ∀ {ds : List Nat} {d : Nat}, d ∈ below n ds ↔ d ∈ ds ∧ d < n
  | [], d => by simp [below]
  | x :: ds, d => by
    simp only [below]
    split
    · rename_i hlt _
      simp only [List.mem_cons, below_spec]
      constructor
      · rintro (rfl | h)
        · exact ⟨.inl rfl, hlt⟩
        · exact ⟨.inr h.1, h.2⟩
      · rintro ⟨rfl | h, k⟩
        · exact .inl rfl
        · exact .inr ⟨h, k⟩
    · rename_i hlt _
      simp only [List.mem_cons, below_spec]
      constructor
      · exact fun h => ⟨.inr h.1, h.2⟩
      · rintro ⟨rfl | h, k⟩
        · exact absurd k hlt
        · exact ⟨h, k⟩

theorem trim_sound {r : Fin T.R} {ρ' : Env} {w' : World} {cv : Value} (I : Inv T K w0 ρ h w) (hp : Pre ρ ρ') (I' : Inv T K w0 ρ' r.2.1 w') (hr : Rel ρ' r.1 cv)
    (hlen : h.length ≤ r.2.1.length) (hfr : ∀ n, n < h.length → n ∉ r.2.2 → r.2.1[n]? = h[n]?) (hrow : Nd (trimP h.length r)) :
    ∃ ρ'', Pre ρ ρ'' ∧ Inv T K w0 ρ'' (trim h.length r).2.1 w' ∧ Rel ρ'' (trim h.length r).1 cv := by
  unfold trim
  unfold trimP at hrow
  split
  · rename_i h1 h2
    rw [h1, h2] at hrow
    refine ⟨ρ, Pre.refl _, ?_, ?_⟩
    · obtain ⟨e, rfl⟩ := hp
      obtain ⟨q1, q2, F, q3, q4, q5⟩ := I'
      obtain ⟨p1, p2, G, p3, p4, p5⟩ := I
      refine ⟨by simp; omega, q2, fun n i => n < h.length ∧ F n i, ?_, fun n m i a b => q4 n m i a.2 b.2, fun n i hi => ⟨(q5 n i hi.2).1, (q5 n i hi.2).2.imp id fun q => by
        show IsRo (List.take h.length r.2.1)[n]?
        rw [List.getElem?_take, if_pos hi.1]; exact q⟩⟩
      intro n o l hn hl
      suffices hh : OHolds T ρ l (F n) w' o by
        have hnl : n < h.length := by
          have := (List.getElem?_eq_some_iff.1 hn).1
          simp at this
          omega
        have e : F n = fun i => n < h.length ∧ F n i := funext fun i => propext ⟨fun k => ⟨hnl, k⟩, fun k => k.2⟩
        show OHolds T ρ l (fun i => n < h.length ∧ F n i) w' o
        rw [← e]; exact hh
      have hnl : n < h.length := by
        have := (List.getElem?_eq_some_iff.1 hn).1
        simp at this
        omega
      rw [List.getElem?_take, if_pos hnl] at hn
      have H := q3 n o l hn (by rw [List.getElem?_append_left (by omega)]; exact hl)
      by_cases hd : n ∈ r.2.2
      · have hs := scopedD_spec h2 n hd hnl
        rw [hn] at hs
        cases o with
        | gone => trivial
        | cells t xs =>
          obtain ⟨a0, a1, cs, a2, a3⟩ := H
          exact ⟨a0, a1, cs, a2, scopedL_down xs cs (by rw [p1]; exact hs) a3⟩
        | row t sz len el =>
          have hsc := rowN_spec hrow n hd hnl t sz len el hn
          rcases H with H | ⟨a1, a0, a2, a3, cs, a4, a5, a7, a6⟩
          · exact .inl H
          · exact .inr ⟨a1, a0, a2, a3, cs, a4, a5, a7, fun i hi => scopedL_down _ _ (by rw [p1]; exact hsc i) (a6 i hi)⟩
        | ro t sz len el ob => cases hs
        | res r => exact H
      · have hh := hfr n hnl hd
        rw [hn] at hh
        have H0 := p3 n o l hh.symm hl
        cases o with
        | gone => trivial
        | cells t xs =>
          obtain ⟨a0, a1, cs, a2, a3⟩ := H
          obtain ⟨_, _, cs0, _, b3⟩ := H0
          exact ⟨a0, a1, cs, a2, RelL.down xs cs0 cs b3 a3⟩
        | row t sz len el =>
          rcases H with H | ⟨a1, a0, a2, a3, cs, a4, a5, a7, a6⟩
          · exact .inl H
          · refine .inr ⟨a1, a0, a2, a3, cs, a4, a5, a7, fun i hi => ?_⟩
            rcases H0 with ⟨c1, _⟩ | ⟨_, _, _, _, cs0, _, _, _, b6⟩
            · rw [a1] at c1; cases c1
            · exact RelL.down _ _ _ (b6 i hi) (a6 i hi)
        | ro t sz len el ob =>
          rcases H with H | ⟨a1, a2, a3, a4, pre, cs, post, fr, a5, a6, a7, a8, a9⟩
          · exact .inl H
          · refine .inr ⟨a1, a2, a3, a4, pre, cs, post, fr, a5, a6, a7, a8, fun i hi => ?_⟩
            rcases H0 with c1 | ⟨_, _, _, _, pre0, cs0, post0, fr0, _, _, _, _, b9⟩
            · omega
            · exact RelL.down _ _ _ (b9 i hi) (a9 i hi)
        | res r => exact H
    · obtain ⟨e, rfl⟩ := hp
      exact scoped_down _ _ (by rw [I.len]; exact h1) hr
  · exact ⟨ρ', hp, I', hr⟩
theorem trim_frame {r : Fin T.R} (hlen : h.length ≤ r.2.1.length) (hfr : ∀ n, n < h.length → n ∉ r.2.2 → r.2.1[n]? = h[n]?) :
    h.length ≤ (trim h.length r).2.1.length ∧ (∀ n, n < h.length → n ∉ (trim h.length r).2.2 → (trim h.length r).2.1[n]? = h[n]?) := by
  unfold trim
  split
  · refine ⟨by simp; omega, fun n hn hd => ?_⟩
    simp only [below_spec, not_and] at hd
    rw [List.getElem?_take, if_pos hn]
    exact hfr n hn fun k => hd k hn
  · exact ⟨hlen, hfr⟩
end
end Go.Sx

namespace Go.Sx
open Go.RowKit
section
variable {P : Program} {T : Theory} {K : Nat → Prop} {w0 w : World} {ρ : Env} {h : List (HO T.R)}

def FrB (base : List (HO T.R)) (u : Fin T.R) : Prop := base.length ≤ u.2.1.length ∧ ∀ n, n < base.length → n ∉ u.2.2 → u.2.1[n]? = base[n]?
def FCov (T : Theory) (u t : Fin T.R) : Prop := ∀ K w0 ρ w cv, Inv T K w0 ρ u.2.1 w → Rel ρ u.1 cv → ∃ ρ', Pre ρ ρ' ∧ Inv T K w0 ρ' t.2.1 w ∧ Rel ρ' t.1 cv
theorem FCov.refl (u : Fin T.R) : FCov T u u := fun _ _ ρ _ _ I r => ⟨ρ, Pre.refl _, I, r⟩
theorem FCov.trans {a b c : Fin T.R} (h : FCov T a b) (k : FCov T b c) : FCov T a c := fun K w0 ρ w cv I r => by
  obtain ⟨ρ1, p1, I1, r1⟩ := h K w0 ρ w cv I r
  obtain ⟨ρ2, p2, I2, r2⟩ := k K w0 ρ1 w cv I1 r1
  exact ⟨ρ2, p1.trans p2, I2, r2⟩

theorem mrgFin_spec {kp : List Nat} {c : Bool} {base : List (HO T.R)} {x y s : Fin T.R} (H : mrgFin kp c base x y = some s) :
    FrB base s ∧ (c = true → FrB base x → FCov T x s) ∧ (c = false → FrB base y → FCov T y s) := by
  unfold mrgFin at H
  split at H
  · rename_i v h _ hv hm
    cases H
    obtain ⟨h1, h2⟩ := mrgH_spec hm
    have core : ∀ (z : Fin T.R), FrB base z → (∀ n, n ∈ z.2.2 → n ∈ x.2.2 ++ y.2.2) → z.2.1.length ≤ maxN x.2.1.length y.2.1.length → z.1 = v →
        (∀ i b, base[i]? = some b → ∃ o u, h[i]? = some o ∧ z.2.1[i]? = some u ∧ ((mem i (x.2.2 ++ y.2.2) = true ∧ (o = .gone ∨ o = u)) ∨ (mem i (x.2.2 ++ y.2.2) = false ∧ o = b))) →
        (c = true ∧ z = x ∨ c = false ∧ z = y) →
        FCov T z (v, h ++ tailK (match scp base.length v with
          | true => false
          | false => true) c base.length x.2.1 y.2.1, x.2.2 ++ y.2.2) := by
      intro z hz hzd hlen hzv hheap hwho K w0 ρ w cv I r
      have hzl := hz.1
      have hpre : Pre ρ (ρ ++ List.replicate (maxN x.2.1.length y.2.1.length - z.2.1.length) ⟨0, 0, false, 0⟩) := ⟨_, rfl⟩
      refine ⟨_, hpre, ?_, by rw [← hzv]; exact Rel.mono hpre _ _ r⟩
      refine (I.pad (maxN x.2.1.length y.2.1.length - z.2.1.length)).weaken (by simp only [List.length_append, tailK_length, gones_length, h1]; omega) ?_
      intro i o hi
      by_cases hlt : i < h.length
      · rw [List.getElem?_append_left hlt] at hi
        obtain ⟨o', u, a1, a2, a3⟩ := hheap i _ (List.getElem?_eq_getElem (by omega))
        rw [a1] at hi
        cases hi
        have hiz : i < z.2.1.length := (List.getElem?_eq_some_iff.1 a2).1
        rw [List.getElem?_append_left hiz]
        rcases a3 with ⟨_, rfl | rfl⟩ | ⟨hm', rfl⟩
        · exact .inl rfl
        · exact .inr a2
        · right
          rw [hz.2 i (by omega) (fun k => by rw [mem_iff.2 (hzd i k)] at hm'; cases hm')]
          exact List.getElem?_eq_getElem (by omega)
      · rw [List.getElem?_append_right (by omega)] at hi
        rcases tailK_get hi with e | ⟨u, v, e1, e2, e3⟩
        · exact .inl e
        · rw [h1, show base.length + (i - base.length) = i by omega] at e1 e2
          right
          rcases hwho with ⟨rfl, rfl⟩ | ⟨rfl, rfl⟩
          · rw [List.getElem?_append_left (List.getElem?_eq_some_iff.1 e1).1, e1, e3]; rfl
          · rw [List.getElem?_append_left (List.getElem?_eq_some_iff.1 e2).1, e2, e3]; rfl
    refine ⟨⟨by simp only [List.length_append, tailK_length, h1]; omega, ?_⟩, ?_, ?_⟩
    · intro n hn hd
      obtain ⟨o, u, v', a1, _, _, a4⟩ := h2 n _ (List.getElem?_eq_getElem hn)
      show (h ++ _)[n]? = _
      rw [List.getElem?_append_left (by omega), a1]
      rcases a4 with ⟨e, _⟩ | ⟨_, rfl⟩
      · rw [Nat.zero_add] at e
        exact absurd (mem_iff.1 e) hd
      · exact (List.getElem?_eq_getElem hn).symm
    · intro hc hz
      refine core x hz (fun n k => List.mem_append_left _ k) (maxN_l _ _) (by rw [mrg_eq _ _ _ _ hv, hc]; rfl) ?_ (.inl ⟨hc, rfl⟩)
      intro i b hb
      obtain ⟨o, u, v', a1, a2, _, a4⟩ := h2 i b hb
      rw [Nat.zero_add] at a4
      subst hc
      exact ⟨o, u, a1, a2, a4⟩
    · intro hc hz
      refine core y hz (fun n k => List.mem_append_right _ k) (maxN_r _ _) (by rw [mrg_eq _ _ _ _ hv, hc]; rfl) ?_ (.inr ⟨hc, rfl⟩)
      intro i b hb
      obtain ⟨o, u, v', a1, _, a2, a4⟩ := h2 i b hb
      rw [Nat.zero_add] at a4
      subst hc
      exact ⟨o, v', a1, a2, a4⟩
  · cases H

def FkSpec (T : Theory) (c : Bool) (base : List (HO T.R)) (x y r : Tr (Fin T.R)) : Prop :=
  r.ok → (c = true → x.ok ∧ (FrB base x.get → FCov T x.get r.get ∧ FrB base r.get)) ∧ (c = false → y.ok ∧ (FrB base y.get → FCov T y.get r.get ∧ FrB base r.get))
theorem fk_plain (c : Bool) (base : List (HO T.R)) (x y : Tr (Fin T.R)) : FkSpec T c base x y (.ite c x y) := by
  intro hok
  constructor
  · rintro rfl; exact ⟨hok.1 rfl, fun h => ⟨FCov.refl _, h⟩⟩
  · rintro rfl; exact ⟨hok.2 rfl, fun h => ⟨FCov.refl _, h⟩⟩
theorem fkY_spec (kp : List Nat) (c : Bool) (base : List (HO T.R)) (x : Tr (Fin T.R)) : ∀ y, FkSpec T c base x y (fkY kp c base x y)
  | .need p y => by
    intro hok
    obtain ⟨h1, h2⟩ := hok
    obtain ⟨a, b⟩ := fkY_spec kp c base x y h2
    exact ⟨a, fun e => ⟨⟨h1 e, (b e).1⟩, (b e).2⟩⟩
  | .leaf l => by
    unfold fkY
    split
    · split
      · rename_i s hs
        obtain ⟨g, h1, h2⟩ := mrgFin_spec hs
        intro _
        constructor
        · rintro rfl; exact ⟨trivial, fun h => ⟨h1 rfl h, g⟩⟩
        · rintro rfl; exact ⟨trivial, fun h => ⟨h2 rfl h, g⟩⟩
      · exact fk_plain _ _ _ _
    · exact fk_plain _ _ _ _
  | .ite b z y => by unfold fkY; exact fk_plain _ _ _ _
theorem fkX_spec (kp : List Nat) (c : Bool) (base : List (HO T.R)) (y : Tr (Fin T.R)) : ∀ x, FkSpec T c base x y (fkX kp c base y x)
  | .need p x => by
    intro hok
    obtain ⟨h1, h2⟩ := hok
    obtain ⟨a, b⟩ := fkX_spec kp c base y x h2
    exact ⟨fun e => ⟨⟨h1 e, (a e).1⟩, (a e).2⟩, b⟩
  | .leaf l => by unfold fkX; exact fkY_spec _ _ _ _ _
  | .ite b z x => by unfold fkX; exact fkY_spec _ _ _ _ _
theorem refin_spec (kp : List Nat) (base : List (HO T.R)) : ∀ t, (refin kp base t).ok → t.ok ∧ (FrB base t.get → FCov T t.get (refin kp base t).get ∧ FrB base (refin kp base t).get)
  | .leaf l, _ => ⟨trivial, fun g => ⟨FCov.refl _, g⟩⟩
  | .need p x, h => by
    obtain ⟨a, b⟩ := refin_spec kp base x h.2
    exact ⟨⟨h.1, a⟩, b⟩
  | .ite c x y, h => by
    obtain ⟨a, b⟩ := fkX_spec kp c base (refin kp base y) (refin kp base x) h
    cases c with
    | true =>
      obtain ⟨a1, a2⟩ := a rfl
      obtain ⟨b1, b2⟩ := refin_spec kp base x a1
      refine ⟨⟨fun _ => b1, (fun e => by cases e)⟩, fun g => ?_⟩
      obtain ⟨c1, c2⟩ := b2 g
      obtain ⟨d1, d2⟩ := a2 c2
      exact ⟨c1.trans d1, d2⟩
    | false =>
      obtain ⟨a1, a2⟩ := b rfl
      obtain ⟨b1, b2⟩ := refin_spec kp base y a1
      refine ⟨⟨(fun e => by cases e), fun _ => b1⟩, fun g => ?_⟩
      obtain ⟨c1, c2⟩ := b2 g
      obtain ⟨d1, d2⟩ := a2 c2
      exact ⟨c1.trans d1, d2⟩

theorem initSlots_rel {args : List SV} {vargs : List Value} (hr : RelL ρ args vargs) (n:Nat) : ∀ t v, (initSlots args n)[t]? = some (some v) → Rel ρ v ((vargs.toArray ++ Array.replicate (n - vargs.toArray.size) undef).getD t undef) := by
  intro t v h
  unfold initSlots at h
  have hl := hr.length
  by_cases hlt : t < args.length
  · rw [List.getElem?_append_left (by simpa using hlt)] at h
    rw [List.getElem?_map] at h
    cases hx : args[t]? with
    | none => rw [hx] at h; cases h
    | some x =>
      rw [hx] at h
      cases h
      obtain ⟨c, hc, k⟩ := hr.get hx
      have : (vargs.toArray ++ Array.replicate (n - vargs.toArray.size) undef).getD t undef = c := by
        rw [Array.getD_eq_getD_getElem?, Array.getElem?_append_left (by simp; omega)]
        simp [hc]
      rw [this]
      exact k
  · rw [List.getElem?_append_right (by simp; omega)] at h
    rw [List.getElem?_replicate] at h
    split at h
    · cases h
    · cases h

theorem evFn_sound {tbl : Nat → Option (CF T.R)} (hT : ∀ k C, tbl k = some C → Sound P T k C) {H : Hints T} {k : Nat} {fn : Func} {c : Code} (hf : P.funcs[k]? = some fn) (hb : fn.body = some c)
    (hl : LoopsOk T P H c) : Sound P T k (evFn T P tbl H k) := by
  intro args h t E hok
  unfold evFn at E
  rw [hf] at E
  simp only [hb] at E
  split at E
  · rename_i tc hc
    split at E
    · rename_i u hu
      cases E
      obtain ⟨hok', hrow, hmg⟩ := Tr.mapN_spec _ hok
      obtain ⟨ok1, cov⟩ := refin_spec H.keep h u hok'
      obtain ⟨ok2, v, hv, ok3, hget⟩ := Tr.bind_spec hu ok1
      obtain ⟨g, r⟩ := evCode_sound hT H c hl _ _ hc ok2
      rw [hget] at cov
      rw [hmg]
      unfold finish at hv
      split at hv
      · cases hv
      · rename_i hne
        split at hv
        · rename_i vs n hres
          obtain ⟨hn, u', hu', _, hget'⟩ := needing_spec hv ok3
          cases hu'
          rw [← hget'] at cov
          have hfr : FrB h (packS vs, tc.get.2.heap, tc.get.2.dirt) := ⟨g.len, fun n hn hd => g.heap n hn hd⟩
          obtain ⟨cv1, cv2⟩ := cov hfr
          refine ⟨?_, trim_frame cv2.1 cv2.2⟩
          intro K w0 ρ w vargs I hargs
          refine calls_of_wp hf hb (r K w0 ρ _ w _ ⟨?_, rfl, initSlots_rel hargs fn.ntmps, I⟩ ?_)
          · simp [initSlots, hargs.length]
          · intro ρ' a' w' hp hr'
            have fin : ∃ v, (results fn a'.tmps).run P w' = .ok v w' ∧ ∃ ρ'' cv, Ending.returned v = .returned cv ∧ Pre ρ ρ'' ∧ Inv T K w0 ρ'' (trim h.length (refin H.keep h u).get).2.1 w' ∧ Rel ρ'' (trim h.length (refin H.keep h u).get).1 cv := by
              obtain ⟨v, e1, k1⟩ := results_sound (P := P) hr'.slots hr'.inv hres hn
              obtain ⟨ρ1, p1, I1, r1⟩ := cv1 K w0 ρ' w' v hr'.inv k1
              obtain ⟨ρ2, p2, I2, r2⟩ := trim_sound I (hp.trans p1) I1 r1 cv2.1 cv2.2 hrow
              exact ⟨v, e1, ρ2, v, rfl, p2, I2, r2⟩
            cases hx : tc.get.1 with
            | normal => exact ⟨hr'.defers, fin⟩
            | ret => exact ⟨hr'.defers, fin⟩
            | exit id => exact absurd hx (hne id)
        · cases hv
    · cases E
  · cases E
end
end Go.Sx

namespace Go.Sx
open Go.RowKit

/-! ### Names that a value holds; renaming -/
mutual
def namesV : SV → List Nat
  | .ptr n _ => [n]
  | .elt n _ _ _ => [n]
  | .slc n _ _ _ => [n]
  | .map n => [n]
  | .fn _ cs => namesL cs
  | .ifc _ v => namesV v
  | .agg l => namesL l
  | .tup l => namesL l
  | _ => []
def namesL : List SV → List Nat
  | [] => []
  | v :: l => namesV v ++ namesL l
end
def namesO {R : Type} : Option (HO R) → List Nat
  | some (.cells _ xs) => namesL xs
  | _ => []
def reach {R : Type} (h : List (HO R)) : Nat → List Nat → List Nat → List Nat
  | 0, _, seen => seen
  | _ + 1, [], seen => seen
  | k + 1, n :: todo, seen => match mem n seen with
    | true => reach h k todo seen
    | false => reach h k (todo ++ namesO h[n]?) (seen ++ [n])
def posOf : List Nat → Nat → Nat → Option Nat
  | [], _, _ => none
  | m :: l, i, n => match beqN m n with
    | true => some i
    | false => posOf l (i + 1) n
theorem posOf_spec : ∀ {l : List Nat} {i n j : Nat}, posOf l i n = some j → i ≤ j ∧ l[j - i]? = some n
  | [], _, _, _, h => by cases h
  | m :: l, i, n, j, h => by
    simp only [posOf] at h
    split at h
    · rename_i e
      cases h
      exact ⟨Nat.le_refl _, by simp [beqN_iff.1 e]⟩
    · obtain ⟨a, b⟩ := posOf_spec h
      refine ⟨by omega, ?_⟩
      have : j - i = (j - (i + 1)) + 1 := by omega
      rw [this]
      simpa using b
mutual
def ren (f : Nat → Option Nat) : SV → Option SV
  | .bool b => some (.bool b)
  | .int k x => some (.int k x)
  | .str s => some (.str s)
  | .ptr n o => match f n with
    | some m => some (.ptr m o)
    | none => none
  | .elt n s i o => match f n with
    | some m => some (.elt m s i o)
    | none => none
  | .nilp => some .nilp
  | .slc n s lo len => match f n with
    | some m => some (.slc m s lo len)
    | none => none
  | .nils => some .nils
  | .map n => match f n with
    | some m => some (.map m)
    | none => none
  | .nilm => some .nilm
  | .fn g cs => match renL f cs with
    | some l => some (.fn g l)
    | none => none
  | .nilf => some .nilf
  | .ifc t v => match ren f v with
    | some u => some (.ifc t u)
    | none => none
  | .nili => some .nili
  | .agg l => match renL f l with
    | some l => some (.agg l)
    | none => none
  | .tup l => match renL f l with
    | some l => some (.tup l)
    | none => none
def renL (f : Nat → Option Nat) : List SV → Option (List SV)
  | [] => some []
  | v :: l => match ren f v, renL f l with
    | some u, some m => some (u :: m)
    | _, _ => none
end
mutual
theorem ren_rel {f : Nat → Option Nat} {ρ ρ' : Env} (hf : ∀ n m l, f n = some m → ρ[n]? = some l → ρ'[m]? = some l) : ∀ (x y : SV) (v : Value), ren f x = some y → Rel ρ x v → Rel ρ' y v
  | .bool _, _, _, h, r => by cases h; exact r
  | .int _ _, _, _, h, r => by cases h; exact r
  | .str _, _, _, h, r => by cases h; exact r
  | .ptr _ _, _, _, h, r => by
    simp only [ren] at h
    split at h
    · rename_i m e; cases h; obtain ⟨l, hl, q⟩ := r; exact ⟨l, hf _ _ _ e hl, q⟩
    · cases h
  | .elt _ _ _ _, _, _, h, r => by
    simp only [ren] at h
    split at h
    · rename_i m e; cases h; obtain ⟨l, hl, q⟩ := r; exact ⟨l, hf _ _ _ e hl, q⟩
    · cases h
  | .nilp, _, _, h, r => by cases h; exact r
  | .slc _ _ _ _, _, _, h, r => by
    simp only [ren] at h
    split at h
    · rename_i m e; cases h; obtain ⟨l, hl, q⟩ := r; exact ⟨l, hf _ _ _ e hl, q⟩
    · cases h
  | .nils, _, _, h, r => by cases h; exact r
  | .map _, _, _, h, r => by
    simp only [ren] at h
    split at h
    · rename_i m e; cases h; obtain ⟨l, hl, q⟩ := r; exact ⟨l, hf _ _ _ e hl, q⟩
    · cases h
  | .nilm, _, _, h, r => by cases h; exact r
  | .fn _ caps, _, _, h, r => by
    simp only [ren] at h
    split at h
    · rename_i l e; cases h; obtain ⟨cs, q, k⟩ := r; exact ⟨cs, q, renL_rel hf _ _ _ e k⟩
    · cases h
  | .nilf, _, _, h, r => by cases h; exact r
  | .ifc _ x, _, _, h, r => by
    simp only [ren] at h
    split at h
    · rename_i u e; cases h; obtain ⟨y, q, k⟩ := r; exact ⟨y, q, ren_rel hf _ _ _ e k⟩
    · cases h
  | .nili, _, _, h, r => by cases h; exact r
  | .agg l, _, _, h, r => by
    simp only [ren] at h
    split at h
    · rename_i l e; cases h; obtain ⟨cs, q, k⟩ := r; exact ⟨cs, q, renL_rel hf _ _ _ e k⟩
    · cases h
  | .tup l, _, _, h, r => by
    simp only [ren] at h
    split at h
    · rename_i l e; cases h; obtain ⟨cs, q, k⟩ := r; exact ⟨cs, q, renL_rel hf _ _ _ e k⟩
    · cases h
theorem renL_rel {f : Nat → Option Nat} {ρ ρ' : Env} (hf : ∀ n m l, f n = some m → ρ[n]? = some l → ρ'[m]? = some l) : ∀ (xs ys : List SV) (vs : List Value), renL f xs = some ys → RelL ρ xs vs → RelL ρ' ys vs
  | [], _, _, h, r => by cases h; exact r
  | x :: xs, _, _, h, r => by
    simp only [renL] at h
    split at h
    · rename_i u m e1 e2
      cases h
      obtain ⟨y, ys, q, k1, k2⟩ := r
      exact ⟨y, ys, q, ren_rel hf _ _ _ e1 k1, renL_rel hf _ _ _ e2 k2⟩
    · cases h
end
def renO {R : Type} (f : Nat → Option Nat) : HO R → Option (HO R)
  | .gone => some .gone
  | .cells t xs => match renL f xs with
    | some ys => some (.cells t ys)
    | none => none
  | .row t sz len el => some (.row t sz len el)
  | .ro t sz len el ob => some (.ro t sz len el ob)
  | .res r => some (.res r)
def needO {R : Type} : HO R → Option Prop
  | .row _ _ _ el => some (∀ i, scpL 0 (el i) = true)
  | .ro _ _ _ el _ => some (∀ i, scpL 0 (el i) = true)
  | _ => none
def needH {R : Type} : List (HO R) → Option Prop
  | [] => none
  | o :: l => andN (needO o) (needH l)
theorem needH_get {R : Type} : ∀ {l : List (HO R)}, Nd (needH l) → ∀ (i:Nat) (o : HO R), l[i]? = some o → Nd (needO o)
  | [], _, i, o, h => by simp at h
  | x :: l, hn, 0, o, h => by simp at h; subst h; exact (andN_iff.1 hn).1
  | x :: l, hn, i + 1, o, h => by simp at h; exact needH_get (andN_iff.1 hn).2 i o h

theorem renO_holds {T : Theory} {f : Nat → Option Nat} {ρ ρ' : Env} (hf : ∀ n m l, f n = some m → ρ[n]? = some l → ρ'[m]? = some l) {o o' : HO T.R} {l : Loc} {F : Nat → Prop} {w : World}
    (h : renO f o = some o') (hn : Nd (needO o)) (H : OHolds T ρ l F w o) : OHolds T ρ' l F w o' := by
  cases o with
  | gone => cases h; trivial
  | cells t xs =>
    simp only [renO] at h
    split at h
    · rename_i ys e
      cases h
      obtain ⟨a0, a, cs, b, c⟩ := H
      exact ⟨a0, a, cs, b, renL_rel hf _ _ _ e c⟩
    · cases h
  | row t sz len el =>
    cases h
    rcases H with H | ⟨a1, a0, a2, a3, cs, a4, a5, a7, a6⟩
    · exact .inl H
    · refine .inr ⟨a1, a0, a2, a3, cs, a4, a5, a7, fun i hi => ?_⟩
      have h0 : RelL [] (el i) ((cs.drop (i * sz)).take sz) := scopedL_down (ρ := []) (e := ρ) _ _ (hn i) (a6 i hi)
      exact RelL.mono ⟨ρ', rfl⟩ _ _ h0
  | ro t sz len el ob =>
    cases h
    rcases H with H | ⟨a1, a2, a3, a4, pre, cs, post, fr, a5, a6, a7, a8, a9⟩
    · exact .inl H
    · refine .inr ⟨a1, a2, a3, a4, pre, cs, post, fr, a5, a6, a7, a8, fun i hi => ?_⟩
      have h0 : RelL [] (el i) ((cs.drop (i * sz)).take sz) := scopedL_down (ρ := []) (e := ρ) _ _ (hn i) (a9 i hi)
      exact RelL.mono ⟨ρ', rfl⟩ _ _ h0
  | res r => cases h; exact H

def getH {R : Type} (f : Nat → Option Nat) (h : List (HO R)) : List Nat → Option (List (HO R))
  | [] => some []
  | n :: l => match h[n]? with
    | some o => match renO f o, getH f h l with
      | some o', some l' => some (o' :: l')
      | _, _ => none
    | none => none
theorem getH_spec {R : Type} {f : Nat → Option Nat} {h : List (HO R)} : ∀ {l : List Nat} {k : List (HO R)}, getH f h l = some k →
    k.length = l.length ∧ ∀ (i n:Nat), l[i]? = some n → ∃ o o', h[n]? = some o ∧ k[i]? = some o' ∧ renO f o = some o'
  | [], k, e => by cases e; simp
  | n :: l, k, e => by
    simp only [getH] at e
    split at e
    · rename_i o ho
      split at e
      · rename_i o' l' h1 h2
        cases e
        obtain ⟨a, b⟩ := getH_spec h2
        refine ⟨by simp [a], fun i n' hi => ?_⟩
        cases i with
        | zero => simp at hi; subst hi; exact ⟨o, o', ho, rfl, h1⟩
        | succ i => simp at hi; simpa using b i n' hi
      · cases e
    · cases e
def rawH {R : Type} (h : List (HO R)) : List Nat → List (HO R)
  | [] => []
  | n :: l => match h[n]? with
    | some o => o :: rawH h l
    | none => rawH h l
theorem rawH_mem {R : Type} {h : List (HO R)} : ∀ {l : List Nat} {n : Nat} {o : HO R}, n ∈ l → h[n]? = some o → o ∈ rawH h l
  | [], _, _, hn, _ => by cases hn
  | m :: l, n, o, hn, ho => by
    simp only [rawH]
    split
    · rename_i o' e
      rcases List.mem_cons.1 hn with rfl | hn
      · rw [ho] at e; cases e; exact List.mem_cons_self
      · exact List.mem_cons_of_mem _ (rawH_mem hn ho)
    · rename_i e
      rcases List.mem_cons.1 hn with rfl | hn
      · rw [ho] at e; cases e
      · exact rawH_mem hn ho
def setAll {R : Type} : List (HO R) → List Nat → List (HO R) → List (HO R)
  | h, n :: l, o :: k => setAll (h.set n o) l k
  | h, _, _ => h
theorem setAll_length {R : Type} : ∀ (h : List (HO R)) (l : List Nat) (k : List (HO R)), (setAll h l k).length = h.length
  | h, [], k => by simp [setAll]
  | h, n :: l, [] => by simp [setAll]
  | h, n :: l, o :: k => by simp [setAll, setAll_length]
theorem setAll_other {R : Type} : ∀ {h : List (HO R)} {l : List Nat} {k : List (HO R)} {m : Nat}, m ∉ l → (setAll h l k)[m]? = h[m]?
  | h, [], k, m, _ => by simp [setAll]
  | h, n :: l, [], m, _ => by simp [setAll]
  | h, n :: l, o :: k, m, hm => by
    simp only [List.mem_cons, not_or] at hm
    simp only [setAll]
    rw [setAll_other hm.2, List.getElem?_set_ne (fun e => hm.1 e.symm)]
def nodupB : List Nat → Bool
  | [] => true
  | n :: l => match mem n l with
    | true => false
    | false => nodupB l
theorem setAll_at {R : Type} : ∀ {h : List (HO R)} {l : List Nat} {k : List (HO R)} {i n : Nat} {o : HO R}, nodupB l = true → l[i]? = some n → k[i]? = some o → n < h.length → (setAll h l k)[n]? = some o
  | h, [], k, i, n, o, _, hi, _, _ => by simp at hi
  | h, m :: l, [], i, n, o, _, _, hk, _ => by simp at hk
  | h, m :: l, o' :: k, i, n, o, hd, hi, hk, hlt => by
    simp only [nodupB] at hd
    split at hd
    · cases hd
    · rename_i hm
      have hm' : m ∉ l := fun e => by rw [mem_iff.2 e] at hm; cases hm
      cases i with
      | zero =>
        simp at hi hk
        subst hi hk
        simp only [setAll]
        rw [setAll_other hm', List.getElem?_set_self hlt]
      | succ i =>
        simp at hi hk
        simp only [setAll]
        exact setAll_at hd hi hk (by simpa using hlt)
theorem nodupB_inj : ∀ {l : List Nat} {i j n : Nat}, nodupB l = true → l[i]? = some n → l[j]? = some n → i = j
  | [], i, j, n, _, hi, _ => by simp at hi
  | m :: l, i, j, n, hd, hi, hj => by
    simp only [nodupB] at hd
    split at hd
    · cases hd
    · rename_i hm
      have hm' : m ∉ l := fun e => by rw [mem_iff.2 e] at hm; cases hm
      cases i with
      | zero =>
        cases j with
        | zero => rfl
        | succ j =>
          simp at hi hj
          subst hi
          exact absurd (List.mem_of_getElem? hj) hm'
      | succ i =>
        cases j with
        | zero =>
          simp at hi hj
          subst hj
          exact absurd (List.mem_of_getElem? hi) hm'
        | succ j =>
          simp at hi hj
          rw [nodupB_inj hd hi hj]
end Go.Sx

namespace Go.Sx
open Go.RowKit

/-! ### The frame: a contract over just the objects that the arguments reach serves in every heap -/
def aboveN (m:Nat) : List Nat → List Nat
  | [] => []
  | n :: l => match Nat.decLt n m with
    | isTrue _ => aboveN m l
    | isFalse _ => n :: aboveN m l
def addO (k:Nat) : Option Nat → Option Nat
  | some n => some (k + n)
  | none => none
def backF (names ext : List Nat) (base j:Nat) : Option Nat :=
  match Nat.decLt j names.length with
  | isTrue _ => names[j]?
  | isFalse _ => addO base (posOf ext 0 j)
def pickN (names : List Nat) : List Nat → List Nat
  | [] => []
  | i :: l => match names[i]? with
    | some n => n :: pickN names l
    | none => pickN names l
def iota : Nat → Nat → List Nat
  | 0, _ => []
  | k + 1, i => i :: iota k (i + 1)
theorem iota_get : ∀ (k i j:Nat), j < k → (iota k i)[j]? = some (i + j)
  | 0, i, j, h => by omega
  | k + 1, i, 0, _ => by simp [iota]
  | k + 1, i, j + 1, h => by simp only [iota, List.getElem?_cons_succ]; rw [iota_get k (i + 1) j (by omega)]; congr 1; omega
theorem iota_length : ∀ (k i:Nat), (iota k i).length = k
  | 0, i => rfl
  | k + 1, i => by simp [iota, iota_length k]

def postF {T : Theory} (names : List Nat) (h : List (HO T.R)) (ext : List Nat) (r : Fin T.R) : Option (Tr (Fin T.R)) :=
  match ren (backF names ext h.length) r.1, getH (backF names ext h.length) r.2.1 (iota names.length 0), getH (backF names ext h.length) r.2.1 ext with
  | some v, some olds, some news => needing (needH (rawH r.2.1 (iota names.length 0 ++ ext))) (some (.leaf (v, setAll h names olds ++ news, pickN names r.2.2)))
  | _, _, _ => none
def extOf {T : Theory} (names : List Nat) (r : Fin T.R) : List Nat := aboveN names.length (reach r.2.1 200 (namesV r.1 ++ iota names.length 0) [])
def roOk {R : Type} (m:Nat) (dirt : List Nat) : Nat → List (HO R) → Bool
  | _, [] => true
  | i, .ro _ _ _ _ _ :: r => match Nat.decLt i m, mem i dirt with
    | isTrue _, false => roOk m dirt (i + 1) r
    | _, _ => false
  | i, _ :: r => roOk m dirt (i + 1) r
theorem roOk_spec {R : Type} {m : Nat} {dirt : List Nat} : ∀ {l : List (HO R)} {i : Nat}, roOk m dirt i l = true → ∀ {j : Nat} {t sz len : Nat} {el : Nat → List SV} {ob : Obj}, l[j]? = some (.ro t sz len el ob) → i + j < m ∧ i + j ∉ dirt
  | [], _, _, j, _, _, _, _, _, h => by simp at h
  | o :: r, i, hr, 0, _, _, _, _, _, h => by
    simp at h
    subst h
    simp only [roOk] at hr
    split at hr
    · rename_i h1 _ h2
      exact ⟨h1, fun hm => by rw [Nat.add_zero] at hm; rw [mem_iff.2 hm] at h2; cases h2⟩
    · cases hr
  | o :: r, i, hr, j + 1, t, sz, len, el, ob, h => by
    have h : r[j]? = some (.ro t sz len el ob) := by simpa using h
    have hr' : roOk m dirt (i + 1) r = true := by
      cases o with
      | ro t sz len el ob =>
        simp only [roOk] at hr
        split at hr
        · exact hr
        · cases hr
      | gone => exact hr
      | cells t xs => exact hr
      | row t sz len el => exact hr
      | res r => exact hr
    have := roOk_spec hr' h
    rw [show i + (j + 1) = i + 1 + j by omega]
    exact this
theorem renO_isRo {R : Type} {f : Nat → Option Nat} {o o' : HO R} (h : renO f o = some o') : IsRo (some o) ↔ IsRo (some o') := by
  cases o with
  | gone => cases h; exact Iff.rfl
  | cells t xs =>
    simp only [renO] at h
    split at h
    · cases h; exact Iff.rfl
    · cases h
  | row t sz len el => cases h; exact Iff.rfl
  | ro t sz len el ob => cases h; exact Iff.rfl
  | res r => cases h; exact Iff.rfl
theorem renO_ro {R : Type} {f : Nat → Option Nat} {o : HO R} {t sz len : Nat} {el : Nat → List SV} {ob : Obj} (h : renO f o = some (.ro t sz len el ob)) : o = .ro t sz len el ob := by
  cases o with
  | gone => cases h
  | cells t xs =>
    simp only [renO] at h
    split at h
    · cases h
    · cases h
  | row t sz len el => cases h
  | ro t sz len el ob => cases h; rfl
  | res r => cases h
def lift {T : Theory} (C : CF T.R) : CF T.R := fun args h =>
  match nodupB (reach h 200 (namesL args) []), renL (posOf (reach h 200 (namesL args) []) 0) args, getH (posOf (reach h 200 (namesL args) []) 0) h (reach h 200 (namesL args) []) with
  | true, some args', some hm => match C args' hm with
    | some t => needing (needH (rawH h (reach h 200 (namesL args) []))) (t.bind fun r => match nodupB (extOf (reach h 200 (namesL args) []) r), roOk (reach h 200 (namesL args) []).length r.2.2 0 r.2.1 with
      | true, true => postF (reach h 200 (namesL args) []) h (extOf (reach h 200 (namesL args) []) r) r
      | _, _ => none)
    | none => none
  | _, _, _ => none

section
variable {P : Program} {T : Theory}

theorem aboveN_mem {m : Nat} : ∀ {l : List Nat} {n : Nat}, n ∈ aboveN m l → m ≤ n
  | [], _, h => by cases h
  | x :: l, n, h => by
    simp only [aboveN] at h
    split at h
    · exact aboveN_mem h
    · rename_i hx _
      rcases List.mem_cons.1 h with rfl | h
      · omega
      · exact aboveN_mem h

theorem OHolds.congr {ρ : Env} {l : Loc} {F G : Nat → Prop} {w : World} {o : HO T.R} (H : OHolds T ρ l F w o) (h : ∀ i, F i ↔ G i) : OHolds T ρ l G w o := by
  have : F = G := funext fun i => propext (h i)
  exact this ▸ H
theorem needH_get' {h : List (HO T.R)} {l : List Nat} (H : Nd (needH (rawH h l))) {n : Nat} {o : HO T.R} (ho : h[n]? = some o) (hn : n ∈ l) : Nd (needO o) := by
  obtain ⟨i, hi⟩ := List.getElem?_of_mem (rawH_mem hn ho)
  exact needH_get H i o hi
theorem pickN_mem {names : List Nat} : ∀ {l : List Nat} {j n : Nat}, j ∈ l → names[j]? = some n → n ∈ pickN names l
  | [], _, _, h, _ => by cases h
  | i :: l, j, n, h, hn => by
    simp only [pickN]
    split
    · rename_i m e
      rcases List.mem_cons.1 h with rfl | h
      · rw [hn] at e; cases e; exact List.mem_cons_self
      · exact List.mem_cons_of_mem _ (pickN_mem h hn)
    · rename_i e
      rcases List.mem_cons.1 h with rfl | h
      · rw [hn] at e; cases e
      · exact pickN_mem h hn
mutual
theorem ren_inv {f g : Nat → Option Nat} (hg : ∀ n m, f n = some m → g m = some n) : ∀ (x y : SV), ren f x = some y → ren g y = some x
  | .bool _, _, h => by cases h; rfl
  | .int _ _, _, h => by cases h; rfl
  | .str _, _, h => by cases h; rfl
  | .ptr _ _, _, h => by
    simp only [ren] at h
    split at h
    · rename_i m e; cases h; simp only [ren, hg _ _ e]
    · cases h
  | .elt _ _ _ _, _, h => by
    simp only [ren] at h
    split at h
    · rename_i m e; cases h; simp only [ren, hg _ _ e]
    · cases h
  | .nilp, _, h => by cases h; rfl
  | .slc _ _ _ _, _, h => by
    simp only [ren] at h
    split at h
    · rename_i m e; cases h; simp only [ren, hg _ _ e]
    · cases h
  | .nils, _, h => by cases h; rfl
  | .map _, _, h => by
    simp only [ren] at h
    split at h
    · rename_i m e; cases h; simp only [ren, hg _ _ e]
    · cases h
  | .nilm, _, h => by cases h; rfl
  | .fn _ caps, _, h => by
    simp only [ren] at h
    split at h
    · rename_i l e; cases h; simp only [ren, renL_inv hg _ _ e]
    · cases h
  | .nilf, _, h => by cases h; rfl
  | .ifc _ x, _, h => by
    simp only [ren] at h
    split at h
    · rename_i l e; cases h; simp only [ren, ren_inv hg _ _ e]
    · cases h
  | .nili, _, h => by cases h; rfl
  | .agg l, _, h => by
    simp only [ren] at h
    split at h
    · rename_i l e; cases h; simp only [ren, renL_inv hg _ _ e]
    · cases h
  | .tup l, _, h => by
    simp only [ren] at h
    split at h
    · rename_i l e; cases h; simp only [ren, renL_inv hg _ _ e]
    · cases h
theorem renL_inv {f g : Nat → Option Nat} (hg : ∀ n m, f n = some m → g m = some n) : ∀ (x y : List SV), renL f x = some y → renL g y = some x
  | [], _, h => by cases h; rfl
  | x :: xs, _, h => by
    simp only [renL] at h
    split at h
    · rename_i u m e1 e2
      cases h
      simp only [renL, ren_inv hg _ _ e1, renL_inv hg _ _ e2]
    · cases h
end
theorem renO_inv {R : Type} {f g : Nat → Option Nat} (hg : ∀ n m, f n = some m → g m = some n) {o o' : HO R} (h : renO f o = some o') : renO g o' = some o := by
  cases o with
  | gone => cases h; rfl
  | cells t xs =>
    simp only [renO] at h
    split at h
    · rename_i ys e; cases h; simp only [renO, renL_inv hg _ _ e]
    · cases h
  | row t sz len el => cases h; rfl
  | ro t sz len el ob => cases h; rfl
  | res r => cases h; rfl

theorem lift_sound {k : Nat} {C : CF T.R} (hC : Sound P T k C) : Sound P T k (lift C) := by
  intro args h t E hok
  unfold lift at E
  generalize hnm : reach h 200 (namesL args) [] = names at E
  split at E
  · rename_i args' hm hnd hargs hget
    split at E
    · rename_i tc htc
      obtain ⟨hneed, u0, hu0, hok0, hget0⟩ := needing_spec E hok
      obtain ⟨okc, v, hv, okv, hgetv⟩ := Tr.bind_spec hu0 hok0
      rw [← hget0, hgetv]
      obtain ⟨hcall, hlen, hfr⟩ := hC args' hm tc htc okc
      obtain ⟨gl, gspec⟩ := getH_spec hget
      split at hv
      · rename_i hnd2 hroK
        generalize hext : extOf names tc.get = ext at hv hnd2
        unfold postF at hv
        split at hv
        · rename_i v' olds news e1 e2 e3
          obtain ⟨hneed2, u2, hu2, _, hget2⟩ := needing_spec hv okv
          cases hu2
          rw [← hget2]
          simp only [Tr.get]
          obtain ⟨ol, ospec⟩ := getH_spec e2
          obtain ⟨nl, nspec⟩ := getH_spec e3
          rw [iota_length] at ol
          have hnames_lt : ∀ (i n:Nat), names[i]? = some n → n < h.length := fun i n hi => by
            obtain ⟨o, _, ho, _⟩ := gspec i n hi
            exact (List.getElem?_eq_some_iff.1 ho).1
          have hext_ge : ∀ j, j ∈ ext → names.length ≤ j := fun j hj => by
            rw [← hext] at hj
            exact aboveN_mem hj
          refine ⟨?_, by simp only [List.length_append, setAll_length]; omega, ?_⟩
          · intro K w0 ρ w vargs I hr
            obtain ⟨Il, Ik, F, F1, F2, F3⟩ := I
            let dl : Loc := ⟨0, 0, false, 0⟩
            -- the small environment
            let ρm : Env := names.map fun n => ρ.getD n dl
            have hρm : ∀ (i n:Nat) (l : Loc), names[i]? = some n → ρ[n]? = some l → ρm[i]? = some l := by
              intro i n l hi hl
              simp only [ρm, List.getElem?_map, hi, Option.map_some, List.getD_eq_getElem?_getD, hl, Option.getD_some]
            have hfwd : ∀ (n m:Nat) (l : Loc), posOf names 0 n = some m → ρ[n]? = some l → ρm[m]? = some l := by
              intro n m l hp hl
              have := (posOf_spec hp).2
              exact hρm m n l (by simpa using this) hl
            let Fm : Nat → Nat → Prop := fun j i => ∃ n, names[j]? = some n ∧ F n i
            let K' : Nat → Prop := fun i => i < w.heap.size ∧ ∀ j, Fm j i → K i
            have Im : Inv T K' w ρm hm w := by
              refine ⟨by simp [ρm, gl], ⟨rfl, rfl, rfl, Nat.le_refl _, fun i hi => hi.1, fun _ _ => rfl, fun _ => rfl⟩, Fm, ?_, ?_, ?_⟩
              · intro j o l hj hl
                have hjn : j < names.length := by rw [← gl]; exact (List.getElem?_eq_some_iff.1 hj).1
                obtain ⟨o0, o', h1, h2, h3⟩ := gspec j _ (List.getElem?_eq_getElem hjn)
                rw [hj] at h2
                cases h2
                obtain ⟨l0, hl0⟩ : ∃ l0, ρ[names[j]]? = some l0 := ⟨_, List.getElem?_eq_getElem (show names[j] < ρ.length by have := (List.getElem?_eq_some_iff.1 h1).1; omega)⟩
                have := hρm j _ _ (List.getElem?_eq_getElem hjn) hl0
                rw [hl] at this
                cases this
                have H := renO_holds (w := w) hfwd h3 (needH_get' hneed h1 (List.getElem_mem hjn)) (F1 _ _ _ h1 hl0)
                refine H.congr ?_
                intro i
                simp only [Fm]
                exact ⟨fun k => ⟨_, List.getElem?_eq_getElem hjn, k⟩, fun ⟨n, q1, q2⟩ => by rw [List.getElem?_eq_getElem hjn] at q1; cases q1; exact q2⟩
              · rintro a b i ⟨n, q1, q2⟩ ⟨m, q3, q4⟩
                rcases F2 n m i q2 q4 with this | this
                · subst this
                  exact .inl (nodupB_inj hnd q1 q3)
                · exact .inr ⟨(F3 n i q2).1, fun _ _ => this⟩
              · rintro j i ⟨n, q1, q2⟩
                refine ⟨(F3 n i q2).1, (F3 n i q2).2.imp (fun hk k => hk (k.2 j ⟨n, q1, q2⟩)) fun q => ?_⟩
                obtain ⟨o0, o', h1, h2, h3⟩ := gspec j n q1
                rw [h1] at q
                rw [h2]
                exact (renO_isRo h3).1 q
            have hargs' : RelL ρm args' vargs := renL_rel hfwd _ _ _ hargs hr
            refine (hcall K' w ρm w vargs Im hargs').mono ?_
            rintro e w' ⟨ρm', cv, rfl, ⟨ex, rfl⟩, I', hrv⟩
            obtain ⟨I'l, I'k, G, G1, G2, G3⟩ := I'
            have hρml : ρm.length = names.length := by simp [ρm]
            let ρ' : Env := ρ ++ ext.map fun j => (ρm ++ ex).getD j dl
            have hbk : ∀ (j n:Nat) (l : Loc), backF names ext h.length j = some n → (ρm ++ ex)[j]? = some l → ρ'[n]? = some l := by
              intro j n l hb hl
              unfold backF at hb
              split at hb
              · rename_i hlt _
                rw [List.getElem?_append_left (by omega)] at hl
                have hn := hnames_lt j n hb
                simp only [ρm, List.getElem?_map, hb, Option.map_some, List.getD_eq_getElem?_getD] at hl
                rw [List.getElem?_append_left (by omega)]
                rw [List.getElem?_eq_getElem (show n < ρ.length by omega)] at hl ⊢
                simpa using hl
              · cases hp : posOf ext 0 j with
                | none => rw [hp] at hb; cases hb
                | some p =>
                  rw [hp] at hb
                  cases hb
                  have hpp := (posOf_spec hp).2
                  rw [Nat.sub_zero] at hpp
                  rw [List.getElem?_append_right (by omega)]
                  rw [show h.length + p - ρ.length = p by omega]
                  simp only [List.getElem?_map, hpp, Option.map_some, List.getD_eq_getElem?_getD, hl, Option.getD_some]
            have hturn : Turns (fun i => ∃ j, Fm j i ∧ ¬ K i) w w' := by
              refine ⟨I'k.os, I'k.tape, I'k.output, I'k.size, fun i hi hf => I'k.rest i ⟨hi, fun j k => Classical.byContradiction fun nk => hf ⟨j, k, nk⟩⟩, I'k.frz⟩
            have hnK : ∀ j i, G j i → ¬ IsRo tc.get.2.1[j]? → ¬ K' i := fun j i hg hr => (G3 j i hg).2.elim id fun q => absurd q hr
            have hG_old : ∀ j i, G j i → ¬ IsRo tc.get.2.1[j]? → (∃ q, Fm q i ∧ ¬ K i) ∨ w.heap.size ≤ i := by
              intro j i hg hr
              by_cases hi : i < w.heap.size
              · left
                by_cases hq : ∃ q, Fm q i ∧ ¬ K i
                · exact hq
                · exact absurd ⟨hi, fun q k => Classical.byContradiction fun nk => hq ⟨q, k, nk⟩⟩ (hnK j i hg hr)
              · exact .inr (by omega)
            refine ⟨ρ', cv, rfl, ⟨_, rfl⟩, ?_, ren_rel hbk _ _ _ e1 hrv⟩
            let FF : Nat → Nat → Prop := fun (n i:Nat) => (∃ j : Nat, names[j]? = some n ∧ G j i ∧ (IsRo tc.get.2.1[j]? → F n i)) ∨ ((∀ j : Nat, names[j]? ≠ some n) ∧ n < h.length ∧ F n i) ∨ (h.length ≤ n ∧ ∃ j : Nat, ext[n - h.length]? = some j ∧ G j i ∧ ¬ IsRo tc.get.2.1[j]?)
            refine ⟨by simp only [ρ', List.length_append, List.length_map, setAll_length]; omega, Ik.turns hturn (by rintro i ⟨j, _, q2⟩; exact q2), FF, ?_, ?_, ?_⟩
            · intro n o l hn hl
              by_cases hlt : n < h.length
              · rw [List.getElem?_append_left (by rw [setAll_length]; exact hlt)] at hn
                have hl' : ρ[n]? = some l := by rw [List.getElem?_append_left (by omega)] at hl; exact hl
                by_cases hin : ∃ j : Nat, names[j]? = some n
                · obtain ⟨j, hj⟩ := hin
                  have hjn : j < names.length := (List.getElem?_eq_some_iff.1 hj).1
                  obtain ⟨o0, o', h1, h2, h3⟩ := ospec j j (by rw [iota_get _ _ _ hjn]; simp)
                  have hset := setAll_at hnd hj h2 hlt
                  rw [hset] at hn
                  cases hn
                  have hlm : (ρm ++ ex)[j]? = some l := by rw [List.getElem?_append_left (by omega)]; exact hρm j n l hj hl'
                  have H := renO_holds (w := w') hbk h3 (needH_get' hneed2 h1 (by simp only [List.mem_append]; exact .inl (List.mem_of_getElem? (iota_get _ 0 _ hjn |>.trans (by simp))))) (G1 j o0 l h1 hlm)
                  by_cases hro : IsRo (some o0)
                  · cases o0 with
                    | gone => cases h3; trivial
                    | cells => exact hro.elim
                    | row => exact hro.elim
                    | res => exact hro.elim
                    | ro t sz len el ob =>
                      cases h3
                      obtain ⟨_, hjd⟩ := roOk_spec hroK h1
                      rw [Nat.zero_add] at hjd
                      have hfj := hfr j (by omega) hjd
                      obtain ⟨p0, p1, q1, q2, q3⟩ := gspec j n hj
                      rw [h1, q2] at hfj
                      cases hfj
                      have hp0 := renO_ro q3
                      subst hp0
                      have HF := F1 n _ l q1 hl'
                      rcases H with H | ⟨a1, a2, a3, a4, a5⟩
                      · exact .inl H
                      · rcases HF with HF | ⟨b1, b2, _⟩
                        · exact .inl HF
                        · exact .inr ⟨a1, .inl ⟨j, hj, a2, fun _ => b2⟩, a3, a4, a5⟩
                  · refine H.congr fun i => ⟨fun k => .inl ⟨j, hj, k, fun q => by rw [h1] at q; exact absurd q hro⟩, ?_⟩
                    rintro (⟨j', q1, q2, _⟩ | ⟨q1, _⟩ | ⟨q1, _⟩)
                    · rw [nodupB_inj hnd hj q1]; exact q2
                    · exact absurd hj (q1 j)
                    · omega
                · have hno : ∀ j : Nat, names[j]? ≠ some n := fun j k => hin ⟨j, k⟩
                  rw [setAll_other (fun k => by obtain ⟨j, hj⟩ := List.getElem?_of_mem k; exact hno j hj)] at hn
                  have H := F1 n o l hn hl'
                  have H2 : OHolds T ρ' l (F n) w' o := H.mono ⟨_, rfl⟩ fun i hi => hturn.rest i (F3 n i hi).1 (by
                    rintro ⟨j, ⟨m, q1, q2⟩, q3⟩
                    rcases F2 n m i hi q2 with e | e
                    · exact hno j (by rw [e]; exact q1)
                    · exact q3 e)
                  refine H2.congr fun i => ⟨fun k => .inr (.inl ⟨hno, hlt, k⟩), ?_⟩
                  rintro (⟨j', q1, q2⟩ | ⟨_, _, q1⟩ | ⟨q1, _⟩)
                  · exact absurd q1 (hno j')
                  · exact q1
                  · omega
              · rw [List.getElem?_append_right (by rw [setAll_length]; omega), setAll_length] at hn
                have hp : n - h.length < ext.length := by rw [← nl]; exact (List.getElem?_eq_some_iff.1 hn).1
                obtain ⟨o0, o', h1, h2, h3⟩ := nspec (n - h.length) _ (List.getElem?_eq_getElem hp)
                rw [hn] at h2
                cases h2
                have hj : (ρm ++ ex)[ext[n - h.length]]? = some l := by
                  rw [List.getElem?_append_right (by omega)] at hl
                  rw [show n - ρ.length = n - h.length by omega] at hl
                  simp only [List.getElem?_map, List.getElem?_eq_getElem hp, Option.map_some, List.getD_eq_getElem?_getD] at hl
                  have hlt2 : ext[n - h.length] < (ρm ++ ex).length := by rw [I'l]; exact (List.getElem?_eq_some_iff.1 h1).1
                  rw [List.getElem?_eq_getElem hlt2] at hl ⊢
                  simpa using hl
                have H := renO_holds (w := w') hbk h3 (needH_get' hneed2 h1 (by simp only [List.mem_append]; exact .inr (List.getElem_mem hp))) (G1 _ o0 l h1 hj)
                by_cases hro : IsRo (some o0)
                · cases o0 with
                  | gone => cases h3; trivial
                  | cells => exact hro.elim
                  | row => exact hro.elim
                  | res => exact hro.elim
                  | ro t sz len el ob =>
                    have hlt2 := (roOk_spec hroK h1).1
                    have hge2 := hext_ge _ (List.getElem_mem hp)
                    omega
                · refine H.congr fun i => ⟨fun k => .inr (.inr ⟨by omega, _, List.getElem?_eq_getElem hp, k, fun q => by rw [h1] at q; exact hro q⟩), ?_⟩
                  rintro (⟨j', q1, q2⟩ | ⟨_, q1, _⟩ | ⟨_, j', q1, q2, _⟩)
                  · exact absurd (hnames_lt j' n q1) hlt
                  · exact absurd q1 hlt
                  · rw [List.getElem?_eq_getElem hp] at q1; cases q1; exact q2
            · have cross : ∀ (j n i:Nat), G j i → ¬ IsRo tc.get.2.1[j]? → (∀ q : Nat, names[q]? ≠ some n) → F n i → False := by
                intro j n i hg hr hno hf
                rcases hG_old j i hg hr with ⟨q, ⟨m, q1, q2⟩, q3⟩ | q1
                · rcases F2 n m i hf q2 with e | e
                  · exact hno q (by rw [e]; exact q1)
                  · exact q3 e
                · have := (F3 n i hf).1; omega
              intro a b i ha hb
              rcases ha with ⟨j, a1, a2, a3⟩ | ⟨a1, a2, a3⟩ | ⟨a1, j, a2, a3, a4⟩ <;> rcases hb with ⟨j', b1, b2, b3⟩ | ⟨b1, b2, b3⟩ | ⟨b1, j', b2, b3, b4⟩
              · by_cases ra : IsRo tc.get.2.1[j]?
                · by_cases rb : IsRo tc.get.2.1[j']?
                  · exact F2 a b i (a3 ra) (b3 rb)
                  · rcases G2 j j' i a2 b2 with e | e
                    · subst e; exact absurd ra rb
                    · exact absurd e (hnK j' i b2 rb)
                · rcases G2 j j' i a2 b2 with e | e
                  · subst e; rw [a1] at b1; cases b1; exact .inl rfl
                  · exact absurd e (hnK j i a2 ra)
              · by_cases ra : IsRo tc.get.2.1[j]?
                · exact F2 a b i (a3 ra) b3
                · exact (cross j b i a2 ra b1 b3).elim
              · rcases G2 j j' i a2 b3 with e | e
                · subst e
                  have h1 := (List.getElem?_eq_some_iff.1 a1).1
                  have h2 := hext_ge j (List.mem_of_getElem? b2)
                  omega
                · exact absurd e (hnK j' i b3 b4)
              · by_cases rb : IsRo tc.get.2.1[j']?
                · exact F2 a b i a3 (b3 rb)
                · exact (cross j' a i b2 rb a1 a3).elim
              · exact F2 a b i a3 b3
              · exact (cross j' a i b3 b4 a1 a3).elim
              · rcases G2 j j' i a3 b2 with e | e
                · subst e
                  have h1 := (List.getElem?_eq_some_iff.1 b1).1
                  have h2 := hext_ge j (List.mem_of_getElem? a2)
                  omega
                · exact absurd e (hnK j i a3 a4)
              · exact (cross j b i a3 a4 b1 b3).elim
              · rcases G2 j j' i a3 b3 with e | e
                · subst e
                  have := nodupB_inj hnd2 a2 b2
                  exact .inl (by omega)
                · exact absurd e (hnK j i a3 a4)
            · have hnew : ∀ j i, G j i → ¬ IsRo tc.get.2.1[j]? → ¬ K i := fun j i hg hr hk => by
                rcases hG_old j i hg hr with ⟨q, q1, q2⟩ | q1
                · exact q2 hk
                · have := Ik.old i hk; have := Ik.size; omega
              intro n i hi
              rcases hi with ⟨j, a1, a2, a3⟩ | ⟨a1, a2, a3⟩ | ⟨a1, j, a2, a3, a4⟩
              · refine ⟨(G3 j i a2).1, ?_⟩
                by_cases ra : IsRo tc.get.2.1[j]?
                · right
                  have hjn : j < names.length := (List.getElem?_eq_some_iff.1 a1).1
                  obtain ⟨o0, o', h1, h2, h3⟩ := ospec j j (by rw [iota_get _ _ _ hjn]; simp)
                  have hlt := hnames_lt j n a1
                  rw [List.getElem?_append_left (by rw [setAll_length]; exact hlt), setAll_at hnd a1 h2 hlt]
                  rw [h1] at ra
                  exact (renO_isRo h3).1 ra
                · exact .inl (hnew j i a2 ra)
              · refine ⟨Nat.lt_of_lt_of_le (F3 n i a3).1 hturn.size, ?_⟩
                rw [List.getElem?_append_left (by rw [setAll_length]; exact a2), setAll_other (fun k => by obtain ⟨j, hj⟩ := List.getElem?_of_mem k; exact a1 j hj)]
                exact (F3 n i a3).2
              · exact ⟨(G3 j i a3).1, .inl (hnew j i a3 a4)⟩
          · intro n hn hd
            rw [List.getElem?_append_left (by rw [setAll_length]; exact hn)]
            by_cases hin : ∃ j : Nat, names[j]? = some n
            · obtain ⟨j, hj⟩ := hin
              have hjn : j < names.length := (List.getElem?_eq_some_iff.1 hj).1
              obtain ⟨o0, o', h1, h2, h3⟩ := ospec j j (by rw [iota_get _ _ _ hjn]; simp)
              rw [setAll_at hnd hj h2 hn]
              have hjd : j ∉ tc.get.2.2 := fun k => hd (pickN_mem k hj)
              have hfj := hfr j (by omega) hjd
              obtain ⟨p0, p1, q1, q2, q3⟩ := gspec j n hj
              rw [h1, q2] at hfj
              cases hfj
              rw [q1, ← renO_inv (g := backF names ext h.length) (fun a b hab => by
                have := posOf_spec hab
                rw [Nat.sub_zero] at this
                unfold backF
                split
                · exact this.2
                · rename_i hx _; exact absurd (List.getElem?_eq_some_iff.1 this.2).1 hx) q3, h3]
            · exact setAll_other fun k => by obtain ⟨j, hj⟩ := List.getElem?_of_mem k; exact hin ⟨j, hj⟩
        · cases hv
      · cases hv
    · cases E
  · cases E
end
end Go.Sx

namespace Go.Sx
open Go.RowKit

/-! ### A table that walks into whatever has no contract of its own -/
def noLoops (T : Theory) (u : Nat → Option Nat) (l : Nat → Bool) : Hints T := { loops := fun _ => none, unroll := u, lits := l }
structure Un where
  k : Nat
  rounds : List (Nat × Nat)
  lits : List Nat
def lookN : List (Nat × Nat) → Nat → Option Nat
  | [], _ => none
  | (a, b) :: l, n => match beqN a n with
    | true => some b
    | false => lookN l n
def hintsOf (T : Theory) : List Un → Nat → Hints T
  | [], _ => noLoops T (fun _ => none) (fun _ => false)
  | u :: us, k => match beqN u.k k with
    | true => noLoops T (lookN u.rounds) (fun n => mem n u.lits)
    | false => hintsOf T us k
def lookC {R : Type} : List (Nat × CF R) → Nat → Option (CF R)
  | [], _ => none
  | (a, C) :: l, n => match beqN a n with
    | true => some C
    | false => lookC l n
def auto (T : Theory) (P : Program) (nice : List (Nat × CF T.R)) (us : List Un) : Nat → Nat → Option (CF T.R)
  | 0, _ => none
  | d + 1, k => match lookC nice k with
    | some C => some C
    | none => some (lift (evFn T P (auto T P nice us d) (hintsOf T us k) k))

section
variable {P : Program} {T : Theory}
theorem LoopsOk_none {H : Hints T} (h : ∀ n, H.loops n = none) (h2 : ∀ n, H.regs n = none) : ∀ c, LoopsOk T P H c
  | .seq a b => ⟨LoopsOk_none h h2 a, LoopsOk_none h h2 b⟩
  | .cond _ a b => ⟨LoopsOk_none h h2 a, LoopsOk_none h h2 b⟩
  | .block _ b => LoopsOk_none h h2 b
  | .loop b => ⟨(fun L e => by rw [h] at e; cases e), LoopsOk_none h h2 b⟩
  | .skip => trivial
  | .region _ _ _ => fun _ L e => by rw [h2] at e; cases e
  | .rangeFunc _ _ _ _ => trivial
  | .exit _ => trivial
  | .scope _ => trivial
  | .label _ => trivial
  | .goto _ => trivial
  | .ret => trivial
  | .refuse _ => trivial
theorem hintsOf_none {us : List Un} {k : Nat} : ∀ n, (hintsOf T us k).loops n = none := by
  induction us with
  | nil => intro n; rfl
  | cons u us ih =>
    intro n
    simp only [hintsOf]
    split
    · rfl
    · exact ih n
theorem hintsOf_regs {us : List Un} {k : Nat} : ∀ n, (hintsOf T us k).regs n = none := by
  induction us with
  | nil => intro n; rfl
  | cons u us ih =>
    intro n
    simp only [hintsOf]
    split
    · rfl
    · exact ih n
def NiceOk (P : Program) (T : Theory) : List (Nat × CF T.R) → Prop
  | [] => True
  | (k, C) :: l => Sound P T k C ∧ NiceOk P T l
theorem lookC_sound : ∀ {l : List (Nat × CF T.R)}, NiceOk P T l → ∀ k C, lookC l k = some C → Sound P T k C
  | [], _, _, _, h => by cases h
  | (a, D) :: l, hn, k, C, h => by
    simp only [lookC] at h
    split at h
    · rename_i e
      cases h
      have := beqN_iff.1 e
      subst this
      exact hn.1
    · exact lookC_sound hn.2 k C h
theorem evFn_sound' {tbl : Nat → Option (CF T.R)} (hT : ∀ k C, tbl k = some C → Sound P T k C) {H : Hints T} {k : Nat} (hl : ∀ fn c, P.funcs[k]? = some fn → fn.body = some c → LoopsOk T P H c) : Sound P T k (evFn T P tbl H k) := by
  cases hf : P.funcs[k]? with
  | none => intro args h t E; unfold evFn at E; rw [hf] at E; cases E
  | some fn =>
    cases hb : fn.body with
    | none => intro args h t E; unfold evFn at E; rw [hf] at E; simp only [hb] at E; cases E
    | some c => exact evFn_sound hT hf hb (hl fn c hf hb)
theorem auto_sound {nice : List (Nat × CF T.R)} {us : List Un} (hn : NiceOk P T nice) : ∀ d k C, auto T P nice us d k = some C → Sound P T k C
  | 0, k, C, h => by cases h
  | d + 1, k, C, h => by
    simp only [auto] at h
    split at h
    · rename_i D e
      cases h
      exact lookC_sound hn k _ e
    · cases h
      exact lift_sound (evFn_sound' (auto_sound hn d) fun _ _ _ _ => LoopsOk_none hintsOf_none hintsOf_regs _)
end
end Go.Sx

namespace Go.Sx
open Go.RowKit
section
variable {P : Program} {T : Theory}

def pureC {R : Type} (f : List SV → Option (Tr SV)) : CF R := fun args h => match scpL 0 args, f args with
  | true, some t => some (t.map fun v => (v, h, []))
  | _, _ => none
theorem pureC_sound {k : Nat} {C : CF T.R} (hC : Sound P T k C) {f : List SV → Option (Tr SV)}
    (hf : ∀ args t, scpL 0 args = true → f args = some t → t.ok → ∃ u, C args [] = some u ∧ u.ok ∧ u.get = (t.get, [], [])) : Sound P T k (pureC f) := by
  intro args h t E hok
  unfold pureC at E
  split at E
  · rename_i t0 ha ht
    cases E
    obtain ⟨u, hu, hok2, hget⟩ := hf args t0 ha ht ((Tr.map_ok _ _).1 hok)
    rw [Tr.map_get]
    refine ⟨?_, Nat.le_refl _, fun _ _ _ => rfl⟩
    intro K w0 ρ w vargs I hr
    refine (pure_call hC hu hok2 hget ha I hr).mono ?_
    rintro e w' ⟨cv, rfl, I', hrv⟩
    exact ⟨ρ, cv, rfl, Pre.refl _, I', hrv⟩
  · cases E
theorem pure_auto {nice : List (Nat × CF T.R)} {us : List Un} (hn : NiceOk P T nice) (d:Nat) {k : Nat} {f : List SV → Option (Tr SV)}
    (hf : ∀ args t, f args = some t → (auto T P nice us d k).bind (fun C => C args []) = some (t.map fun v => (v, [], []))) : Sound P T k (pureC f) := by
  cases ha : auto T P nice us d k with
  | none =>
    intro args h t E
    unfold pureC at E
    split at E
    · rename_i t0 _ ht
      have := hf args t0 ht
      rw [ha] at this
      cases this
    · cases E
  | some C =>
    refine pureC_sound (auto_sound hn d k C ha) fun args t _ ht hok => ?_
    have := hf args t ht
    rw [ha] at this
    exact ⟨_, this, (Tr.map_ok _ _).2 hok, Tr.map_get _ _⟩
theorem pure_auto2 {nice : List (Nat × CF T.R)} {us : List Un} (hn : NiceOk P T nice) (d:Nat) {k : Nat} {f : List SV → Option (Tr SV)}
    (hf : ∀ args t, f args = some t → ∃ u : Tr SV, (auto T P nice us d k).bind (fun C => C args []) = some (u.map fun v => (v, [], [])) ∧ (t.ok → u.ok) ∧ u.get = t.get) : Sound P T k (pureC f) := by
  cases ha : auto T P nice us d k with
  | none =>
    intro args h t E
    unfold pureC at E
    split at E
    · rename_i t0 _ ht
      obtain ⟨u, this, _⟩ := hf args t0 ht
      rw [ha] at this
      cases this
    · cases E
  | some C =>
    refine pureC_sound (auto_sound hn d k C ha) fun args t _ ht hok => ?_
    obtain ⟨u, this, h1, h2⟩ := hf args t ht
    rw [ha] at this
    exact ⟨_, this, (Tr.map_ok _ _).2 (h1 hok), by rw [Tr.map_get, h2]⟩
theorem cnd_eq {α : Type} (c : Bool) (a b : α) : cnd c a b = if c = true then a else b := by cases c <;> rfl
end
end Go.Sx

namespace Go.Sx
open Go.RowKit

/-! ### Loops by a family of states -/
def loopsL : Code → List Code
  | .seq a b => loopsL a ++ loopsL b
  | .cond _ a b => loopsL a ++ loopsL b
  | .block _ b => loopsL b
  | .loop b => b :: loopsL b
  | _ => []
def bodyOf (P : Program) (k:Nat) : Code :=
  match P.funcs[k]? with
  | some fn => match fn.body with
    | some c => c
    | none => .skip
  | none => .skip
def lpAt (P : Program) (k j:Nat) : Code :=
  match (loopsL (bodyOf P k))[j]? with
  | some c => c
  | none => .skip

section
variable {P : Program} {T : Theory}

theorem LoopsOk_mem {H : Hints T} (h2 : ∀ n, H.regs n = none) : ∀ c, (∀ b, b ∈ loopsL c → ∀ L, H.loops (firstReg b) = some L → CodeSound T P (.loop b) L) → LoopsOk T P H c
  | .seq a b, h => ⟨LoopsOk_mem h2 a fun x hx => h x (List.mem_append_left _ hx), LoopsOk_mem h2 b fun x hx => h x (List.mem_append_right _ hx)⟩
  | .cond _ a b, h => ⟨LoopsOk_mem h2 a fun x hx => h x (List.mem_append_left _ hx), LoopsOk_mem h2 b fun x hx => h x (List.mem_append_right _ hx)⟩
  | .block _ b, h => LoopsOk_mem h2 b h
  | .loop b, h => ⟨h b List.mem_cons_self, LoopsOk_mem h2 b fun x hx => h x (List.mem_cons_of_mem _ hx)⟩
  | .skip, _ => trivial
  | .region _ _ _, _ => fun _ L e => by rw [h2] at e; cases e
  | .rangeFunc _ _ _ _, _ => trivial
  | .exit _, _ => trivial
  | .scope _, _ => trivial
  | .label _, _ => trivial
  | .goto _, _ => trivial
  | .ret, _ => trivial
  | .refuse _, _ => trivial
def blank : List Nat → List (Option SV) → List (Option SV)
  | [], l => l
  | n :: ns, l => blank ns (l.set n none)
theorem blank_spec : ∀ {ns : List Nat} {l : List (Option SV)}, (blank ns l).length = l.length ∧ ∀ (t:Nat) (v : SV), (blank ns l)[t]? = some (some v) → l[t]? = some (some v)
  | [], l => ⟨rfl, fun _ _ h => h⟩
  | n :: ns, l => by
    obtain ⟨a, b⟩ := blank_spec (ns := ns) (l := l.set n none)
    refine ⟨by simpa [blank] using a, fun t v h => ?_⟩
    have := b t v h
    rw [List.getElem?_set] at this
    split at this
    · split at this <;> cases this
    · exact this
theorem Wk.blank {s s' : St T.R} (ns : List Nat) (h1 : Sx.blank ns s.slots = s'.slots) (h2 : s'.heap = s.heap) : Wk T s s' := by
  intro K w0 ρ a w h
  obtain ⟨b1, b2⟩ := blank_spec (ns := ns) (l := s.slots)
  refine ⟨ρ, Pre.refl _, ⟨by rw [h.size, ← h1, b1], h.defers, fun t v hv => h.slots t v (b2 t v (by rw [h1]; exact hv)), by rw [h2]; exact h.inv⟩⟩

end
/-! Parts of a tree, to name what the kernel works out. -/
def ob {R : Type} : Option (Tr (Ex × St R)) → Tr (Ex × St R)
  | some t => t
  | none => .leaf (.normal, ⟨[], [], [], []⟩)
def rt {α : Type} : Tr α → Tr α
  | .ite _ _ y => y
  | t => t
def cnt : Nat → Int
  | 0 => 0
  | n + 1 => IntKind.i64.wrap (cnt n + 1)
theorem grown_of {T : Theory} {K : Nat → Prop} {w w' : World} {ρ : Env} {h : List (HO T.R)} (I : Inv T K w ρ h w') (hK : ∀ i, i < w.heap.size → K i) : Grown w w' := by
  obtain ⟨k1, k2, k3, k4, k5, k6, k7⟩ := I.kept
  refine ⟨⟨k1, k3, fun i hi => ?_⟩, k7, k4⟩
  rw [k6 i (hK i hi)]
  cases hw : w.heap[i]? with
  | none => simp
  | some o => cases o <;> simp
theorem scpL_iff {n : Nat} : ∀ {l : List SV}, scpL n l = true ↔ ∀ x, x ∈ l → scp n x = true
  | [] => by simp [scpL]
  | v :: l => by
    simp only [scpL, List.mem_cons, forall_eq_or_imp]
    rw [← scpL_iff (l := l)]
    cases scp n v <;> simp
theorem scpL_chunk {n : Nat} {l : List SV} {a b : Nat} (h : scpL n l = true) : scpL n ((l.drop a).take b) = true :=
  scpL_iff.2 fun x hx => scpL_iff.1 h x (List.mem_of_mem_drop (List.mem_of_mem_take hx))
theorem wrap_u64 (x:Int) : IntKind.u64.wrap x = x % 18446744073709551616 := by
  simp [IntKind.wrap, IntKind.bits, IntKind.signed]
theorem wrap_i64 {x : Int} (h1 : -9223372036854775808 ≤ x) (h2 : x < 9223372036854775808) : IntKind.i64.wrap x = x := by
  simp only [IntKind.wrap, IntKind.bits, IntKind.signed, Bool.true_and]
  simp only [show ((2:Int) ^ 64) = 18446744073709551616 from rfl, show ((2:Int) ^ (64 - 1)) = 9223372036854775808 from rfl, decide_eq_true_eq, ge_iff_le]
  omega
theorem wrap_u64_id {x : Int} (h1 : 0 ≤ x) (h2 : x < 18446744073709551616) : IntKind.u64.wrap x = x := by
  rw [wrap_u64]; omega
end Go.Sx

namespace Go.Sx
open Go.RowKit

/-! ### States weakened, renamed, with what is not named dropped; loops whose objects move -/
section
variable {T : Theory}

def WkB (T : Theory) (n0:Nat) (s s' : St T.R) : Prop :=
  ∀ K w0 ρ0 ρ a w, ρ0.length = n0 → Pre ρ0 ρ → StRel T K w0 ρ s a w → ∃ ρ', Pre ρ0 ρ' ∧ StRel T K w0 ρ' s' a w
theorem WkB.refl (n0:Nat) (s : St T.R) : WkB T n0 s s := fun _ _ _ ρ _ _ _ hp r => ⟨ρ, hp, r⟩
theorem WkB.trans {n0 : Nat} {a b c : St T.R} (h : WkB T n0 a b) (k : WkB T n0 b c) : WkB T n0 a c := fun K w0 ρ0 ρ ac w hl hp r => by
  obtain ⟨ρ1, p1, r1⟩ := h K w0 ρ0 ρ ac w hl hp r
  exact k K w0 ρ0 ρ1 ac w hl p1 r1
theorem WkB.of {n0 : Nat} {s s' : St T.R} (h : Wk T s s') : WkB T n0 s s' := fun K w0 ρ0 ρ ac w _ hp r => by
  obtain ⟨ρ1, p1, r1⟩ := h K w0 ρ ac w r
  exact ⟨ρ1, hp.trans p1, r1⟩

def HOw {R : Type} (o o' : HO R) : Prop := o' = o ∨ o' = .gone ∨ (∃ t sz len el el', o = .row t sz len el ∧ o' = .row t sz len el' ∧ ∀ i, i < len → el i = el' i) ∨ ∃ t sz len el el' ob, o = .ro t sz len el ob ∧ o' = .ro t sz len el' ob ∧ ∀ i, i < len → el i = el' i
inductive HOws {R : Type} : List (HO R) → List (HO R) → Prop
  | nil : HOws [] []
  | cons {o o' : HO R} {h h' : List (HO R)} : HOw o o' → HOws h h' → HOws (o :: h) (o' :: h')
theorem HOw.refl {R : Type} (o : HO R) : HOw o o := .inl rfl
theorem HOw.row {R : Type} {t sz len : Nat} {el el' : Nat → List SV} (h : ∀ i, i < len → el i = el' i) : HOw (.row t sz len el : HO R) (.row t sz len el') := .inr (.inr (.inl ⟨t, sz, len, el, el', rfl, rfl, h⟩))
theorem HOw.ro {R : Type} {t sz len : Nat} {el el' : Nat → List SV} {ob : Obj} (h : ∀ i, i < len → el i = el' i) : HOw (.ro t sz len el ob : HO R) (.ro t sz len el' ob) := .inr (.inr (.inr ⟨t, sz, len, el, el', ob, rfl, rfl, h⟩))
theorem HOws.refl {R : Type} : ∀ h : List (HO R), HOws h h
  | [] => .nil
  | _ :: h => .cons (.inl rfl) (HOws.refl h)
theorem HOws.length {R : Type} : ∀ {h h' : List (HO R)}, HOws h h' → h'.length = h.length
  | _, _, .nil => rfl
  | _, _, .cons _ k => by simp [k.length]
theorem HOws.get {R : Type} : ∀ {h h' : List (HO R)} {i : Nat} {o' : HO R}, HOws h h' → h'[i]? = some o' → ∃ o, h[i]? = some o ∧ HOw o o'
  | _, _, _, _, .nil, e => by simp at e
  | _, _, 0, _, .cons q _, e => by simp at e; subst e; exact ⟨_, rfl, q⟩
  | _, _, i + 1, _, .cons _ k, e => by simp at e; simpa using k.get e
theorem OHolds.weak {ρ : Env} {l : Loc} {F : Nat → Prop} {w : World} {o o' : HO T.R} (H : OHolds T ρ l F w o) (h : HOw o o') : OHolds T ρ l F w o' := by
  rcases h with rfl | rfl | ⟨t, sz, len, el, el', rfl, rfl, h⟩ | ⟨t, sz, len, el, el', ob, rfl, rfl, h⟩
  · exact H
  · trivial
  case inr.inr.inr =>
    rcases H with H | ⟨a1, a2, a3, a4, p, cs, q, fr, a5, a6, a7, a8, a9⟩
    · exact .inl H
    · exact .inr ⟨a1, a2, a3, a4, p, cs, q, fr, a5, a6, a7, a8, fun i hi => by rw [← h i hi]; exact a9 i hi⟩
  · rcases H with H | ⟨a1, a0, a2, a3, cs, a4, a5, a6, a7⟩
    · exact .inl H
    · exact .inr ⟨a1, a0, a2, a3, cs, a4, a5, a6, fun i hi => by rw [← h i hi]; exact a7 i hi⟩
theorem Inv.weak {K : Nat → Prop} {w0 w : World} {ρ : Env} {h h' : List (HO T.R)} (I : Inv T K w0 ρ h w) (hh : HOws h h') : Inv T K w0 ρ h' w := by
  obtain ⟨a, b, F, c, d, e⟩ := I
  refine ⟨by rw [hh.length]; exact a, b, F, ?_, d, fun n i hi => ⟨(e n i hi).1, (e n i hi).2.imp id fun q => ?_⟩⟩
  rotate_left
  · cases hq : h'[n]? with
    | none =>
      have : h[n]? = none := by
        have := hh.length
        rw [List.getElem?_eq_none_iff] at hq ⊢; omega
      rw [this] at q; exact q.elim
    | some o =>
      obtain ⟨o0, h0, hw⟩ := hh.get hq
      rw [h0] at q
      rcases hw with rfl | rfl | ⟨t, sz, len, el, el', rfl, rfl, _⟩ | ⟨t, sz, len, el, el', ob, rfl, rfl, _⟩
      · exact q
      · trivial
      · exact q.elim
      · trivial
  intro n o l hn hl
  obtain ⟨o0, h0, hw⟩ := hh.get hn
  exact (c n o0 l h0 hl).weak hw
theorem WkB.weak {n0 : Nat} {s s' : St T.R} (ns : List Nat) (h1 : blank ns s.slots = s'.slots) (h2 : HOws s.heap s'.heap) : WkB T n0 s s' := by
  intro K w0 ρ0 ρ a w _ hp h
  obtain ⟨b1, b2⟩ := blank_spec (ns := ns) (l := s.slots)
  exact ⟨ρ, hp, ⟨by rw [h.size, ← h1, b1], h.defers, fun t v hv => h.slots t v (b2 t v (by rw [h1]; exact hv)), h.inv.weak h2⟩⟩

def gcF (n0:Nat) (names : List Nat) (j:Nat) : Option Nat :=
  match Nat.decLt j n0 with
  | isTrue _ => some j
  | isFalse _ => addO n0 (posOf names 0 j)
def gcS (f : Nat → Option Nat) : List (Option SV) → List (Option SV)
  | [] => []
  | some v :: l => ren f v :: gcS f l
  | none :: l => none :: gcS f l
theorem gcS_length {f : Nat → Option Nat} : ∀ l : List (Option SV), (gcS f l).length = l.length
  | [] => rfl
  | some _ :: l => by simp [gcS, gcS_length l]
  | none :: l => by simp [gcS, gcS_length l]
theorem gcS_get {f : Nat → Option Nat} : ∀ {l : List (Option SV)} {t : Nat} {v : SV}, (gcS f l)[t]? = some (some v) → ∃ u, l[t]? = some (some u) ∧ ren f u = some v
  | [], t, v, h => by simp [gcS] at h
  | some x :: l, 0, v, h => by simp [gcS] at h; exact ⟨x, rfl, h⟩
  | none :: l, 0, v, h => by simp [gcS] at h
  | some x :: l, t + 1, v, h => by simp [gcS] at h; simpa using gcS_get h
  | none :: l, t + 1, v, h => by simp [gcS] at h; simpa using gcS_get h
def gcSt (n0:Nat) (names : List Nat) (s : St T.R) : Option (Option Prop × St T.R) :=
  match nodupB (iota n0 0 ++ names), getH (gcF n0 names) s.heap (iota n0 0 ++ names) with
  | true, some h => some (needH (rawH s.heap (iota n0 0 ++ names)), { slots := gcS (gcF n0 names) s.slots, heap := h, dirt := s.dirt, ws := s.ws })
  | _, _ => none
theorem WkB.gc {n0 : Nat} {names : List Nat} {s s' : St T.R} {need : Option Prop} (h : gcSt n0 names s = some (need, s')) (hn : Nd need) : WkB T n0 s s' := by
  unfold gcSt at h
  split at h
  · rename_i hm hnd hget
    cases h
    intro K w0 ρ0 ρ a w hl hp r
    obtain ⟨e, rfl⟩ := hp
    obtain ⟨gl, gspec⟩ := getH_spec hget
    have il : (iota n0 0 ++ names).length = n0 + names.length := by simp [iota_length]
    let dl : Loc := ⟨0, 0, false, 0⟩
    have hlt : ∀ (i n:Nat), (iota n0 0 ++ names)[i]? = some n → n < (ρ0 ++ e).length := fun i n hi => by
      obtain ⟨o, _, ho, _⟩ := gspec i n hi
      have := (List.getElem?_eq_some_iff.1 ho).1
      have := r.inv.len
      omega
    have hf : ∀ n m l, gcF n0 names n = some m → (ρ0 ++ e)[n]? = some l → (ρ0 ++ names.map fun n => (ρ0 ++ e).getD n dl)[m]? = some l := by
      intro n m l hg hl'
      unfold gcF at hg
      split at hg
      · rename_i hlt' _
        cases hg
        rw [List.getElem?_append_left (by omega)] at hl' ⊢
        exact hl'
      · cases hpo : posOf names 0 n with
        | none => rw [hpo] at hg; cases hg
        | some p =>
          rw [hpo] at hg
          cases hg
          have hpp := (posOf_spec hpo).2
          rw [Nat.sub_zero] at hpp
          rw [List.getElem?_append_right (by omega), show n0 + p - ρ0.length = p by omega]
          simp only [List.getElem?_map, hpp, Option.map_some, List.getD_eq_getElem?_getD, hl', Option.getD_some]
    refine ⟨ρ0 ++ names.map fun n => (ρ0 ++ e).getD n dl, ⟨_, rfl⟩, ⟨by rw [r.size]; exact (gcS_length _).symm, r.defers, ?_, ?_⟩⟩
    · intro t v hv
      obtain ⟨u, h1, h2⟩ := gcS_get hv
      exact ren_rel hf _ _ _ h2 (r.slots t u h1)
    · obtain ⟨Il, Ik, F, F1, F2, F3⟩ := r.inv
      refine ⟨by simp only [List.length_append, List.length_map]; rw [gl, il]; omega, Ik, fun j i => ∃ n, (iota n0 0 ++ names)[j]? = some n ∧ F n i, ?_, ?_, ?_⟩
      · intro j o l hj hl'
        have hjn : j < (iota n0 0 ++ names).length := by rw [← gl]; exact (List.getElem?_eq_some_iff.1 hj).1
        obtain ⟨o0, o', h1, h2, h3⟩ := gspec j _ (List.getElem?_eq_getElem hjn)
        rw [hj] at h2
        cases h2
        have hl0 : (ρ0 ++ e)[(iota n0 0 ++ names)[j]]? = some l := by
          have hnl := hlt j _ (List.getElem?_eq_getElem hjn)
          by_cases hj0 : j < n0
          · rw [List.getElem?_append_left (by omega)] at hl'
            have : (iota n0 0 ++ names)[j] = j := by
              have := List.getElem?_eq_getElem hjn
              rw [List.getElem?_append_left (by rw [iota_length]; exact hj0), iota_get _ _ _ hj0] at this
              simpa using this.symm
            rw [this, List.getElem?_append_left (by omega)]
            exact hl'
          · rw [List.getElem?_append_right (by omega)] at hl'
            simp only [List.getElem?_map, List.getD_eq_getElem?_getD] at hl'
            have hjj : names[j - ρ0.length]? = some (iota n0 0 ++ names)[j] := by
              have := List.getElem?_eq_getElem hjn
              rw [List.getElem?_append_right (by rw [iota_length]; omega), iota_length] at this
              rw [show j - ρ0.length = j - n0 by omega]
              exact this
            rw [hjj] at hl'
            simp only [Option.map_some] at hl'
            rw [List.getElem?_eq_getElem hnl] at hl' ⊢
            simpa using hl'
        have H := renO_holds (w := w) hf h3 (needH_get' hn h1 (List.getElem_mem hjn)) (F1 _ _ _ h1 hl0)
        exact H.congr fun i => ⟨fun k => ⟨_, List.getElem?_eq_getElem hjn, k⟩, fun ⟨n, q1, q2⟩ => by rw [List.getElem?_eq_getElem hjn] at q1; cases q1; exact q2⟩
      · rintro a b i ⟨n, q1, q2⟩ ⟨m, q3, q4⟩
        rcases F2 n m i q2 q4 with this | this
        · subst this
          exact .inl (nodupB_inj hnd q1 q3)
        · exact .inr this
      · rintro j i ⟨n, q1, q2⟩
        refine ⟨(F3 n i q2).1, (F3 n i q2).2.imp id fun q => ?_⟩
        obtain ⟨o0, o', h1, h2, h3⟩ := gspec j n q1
        rw [h1] at q
        rw [h2]
        exact (renO_isRo h3).1 q
  · cases h
theorem WkB.to {n0 : Nat} {names ns : List Nat} {s s1 s' : St T.R} {need : Option Prop} (h : gcSt n0 names s = some (need, s1)) (hn : Nd need) (h1 : blank ns s1.slots = s'.slots) (h2 : HOws s1.heap s'.heap) : WkB T n0 s s' :=
  (WkB.gc h hn).trans (WkB.weak ns h1 h2)

def along {α : Type} : Tr α → List Bool → Prop
  | .leaf _, _ => True
  | .need p t, bs => p ∧ along t bs
  | .ite c _ y, false :: bs => c = false ∧ along y bs
  | .ite c x _, true :: bs => c = true ∧ along x bs
  | .ite _ _ _, [] => False
def endOf {α : Type} : Tr α → List Bool → α
  | .leaf a, _ => a
  | .need _ t, bs => endOf t bs
  | .ite _ _ y, false :: bs => endOf y bs
  | .ite _ x _, true :: bs => endOf x bs
  | .ite _ x _, [] => endOf x []
theorem along_spec {α : Type} : ∀ {t : Tr α} {bs : List Bool}, along t bs → t.ok ∧ t.get = endOf t bs
  | .leaf _, _, _ => ⟨trivial, rfl⟩
  | .need p t, bs, h => by obtain ⟨a, b⟩ := along_spec h.2; exact ⟨⟨h.1, a⟩, b⟩
  | .ite c x y, false :: bs, h => by
    obtain ⟨hc, h⟩ := h
    obtain ⟨a, b⟩ := along_spec h
    subst hc
    exact ⟨⟨(fun e => by cases e), fun _ => a⟩, b⟩
  | .ite c x y, true :: bs, h => by
    obtain ⟨hc, h⟩ := h
    obtain ⟨a, b⟩ := along_spec h
    subst hc
    exact ⟨⟨fun _ => a, (fun e => by cases e)⟩, b⟩
  | .ite _ _ _, [], h => h.elim

structure Ends (E : St T.R → Out T) (s : St T.R) (bs : List Bool) (ex : Ex) : Prop where
  some : E s = some (ob (E s))
  ok : (ob (E s)).ok
  get : (ob (E s)).get = endOf (ob (E s)) bs
  ex : (endOf (ob (E s)) bs).1 = ex
theorem Ends.mk' {E : St T.R → Out T} {s : St T.R} {bs : List Bool} {ex : Ex} {p : Prop} (h0 : E s = Option.some (ob (E s))) (e : along (ob (E s)) bs = p) (he : (endOf (ob (E s)) bs).1 = ex) (h : p) : Ends E s bs ex :=
  have ha : along (ob (E s)) bs := e.symm ▸ h
  ⟨h0, (along_spec ha).1, (along_spec ha).2, he⟩
def gcNd {T : Theory} (n0:Nat) (names : List Nat) (s : St T.R) : Option Prop := match gcSt n0 names s with
  | Option.some r => r.1
  | none => none
def gcTo {T : Theory} (n0:Nat) (names : List Nat) (s : St T.R) : St T.R := match gcSt n0 names s with
  | Option.some r => r.2
  | none => s
theorem Ends.on {E : St T.R → Out T} {s s' : St T.R} {bs : List Bool} {ex : Ex} (h : Ends E s bs ex) {n0 : Nat} {names ns : List Nat} {need : Option Prop} {hp : List (HO T.R)}
    (h1 : gcSt n0 names (endOf (ob (E s)) bs).2 = Option.some (gcNd n0 names (endOf (ob (E s)) bs).2, gcTo n0 names (endOf (ob (E s)) bs).2))
    (h2 : gcNd n0 names (endOf (ob (E s)) bs).2 = need) (h3 : blank ns (gcTo n0 names (endOf (ob (E s)) bs).2).slots = s'.slots) (h4 : (gcTo n0 names (endOf (ob (E s)) bs).2).heap = hp) (hn : Nd need) (h5 : HOws hp s'.heap) :
    ∃ t, E s = Option.some t ∧ t.ok ∧ t.get.1 = ex ∧ WkB T n0 t.get.2 s' :=
  ⟨_, h.some, h.ok, by rw [h.get]; exact h.ex, by rw [h.get]; exact WkB.to h1 (h2.symm ▸ hn) h3 (h4.symm ▸ h5)⟩
theorem fn_weak {P : Program} {k : Nat} {D C : CF T.R} (hD : Sound P T k D) (hC : ∀ args h t, C args h = some t → t.ok → ∃ u, D args h = some u ∧ u.ok ∧ u.get.1 = t.get.1 ∧ HOws u.get.2.1 t.get.2.1 ∧ h.length ≤ t.get.2.1.length ∧
    ∀ n, n < h.length → n ∉ t.get.2.2 → t.get.2.1[n]? = h[n]?) : Sound P T k C := by
  intro args h t e hok
  obtain ⟨u, h1, h2, h3, h4, h5, h6⟩ := hC args h t e hok
  obtain ⟨a, _, _⟩ := hD args h u h1 h2
  refine ⟨fun K w0 ρ w vargs I hr => (a K w0 ρ w vargs I hr).mono ?_, h5, h6⟩
  rintro x w' ⟨ρ', cv, rfl, hp, I', hv⟩
  exact ⟨ρ', cv, rfl, hp, I'.weak h4, by rw [← h3]; exact hv⟩
theorem scpL_rowEl {n len sz : Nat} {xs : List SV} (h : scpL n xs = true) (i:Nat) : scpL n (rowEl len sz xs i) = true := by
  unfold rowEl
  split
  · exact h
  · split
    · dsimp only
      split
      · rename_i v hv
        unfold selU at hv
        split at hv
        · split at hv
          · cases hv; rfl
          · cases hv
        · split at hv
          · cases hv; rfl
          · cases hv
        · split at hv
          · cases hv; rfl
          · cases hv
        · cases hv
      · exact scpL_chunk h
    · exact scpL_chunk h
theorem scpL_rowSet {n : Nat} {c : Bool} {xs ys : List SV} (h : scpL n xs = true) (k : scpL n ys = true) : scpL n (rowSet c xs ys) = true := by
  rw [rowSet_eq]; cases c
  · exact k
  · exact h
end
end Go.Sx

namespace Go.Sx
open Go.RowKit

/-! ### Small regions whose objects may be made in any order: each order walked, the names put right at its end -/
section
variable {P : Program} {T : Theory}
end
end Go.Sx

namespace Go.Sx
open Go.RowKit
section
variable {P : Program} {T : Theory}
theorem law_ofR {k : Nat} {C : CF T.R} (hC : Sound P T k C) {args : List SV} {h : List (HO T.R)} {tr : Tr (Fin T.R)} (hc : C args h = some tr) (hok : tr.ok) (hg : tr.get.1 = .bool true) (w : World) (ρ : Env) (hl : ρ.length = h.length)
    (hh : ∀ (n:Nat) (o : HO T.R) (l : Loc), h[n]? = some o → ρ[n]? = some l → ∃ (t sz len:Nat) (el : Nat → List SV) (ob : Obj), o = HO.ro t sz len el ob ∧ (len = 0 ∨ (l.nil = false ∧ len ≤ l.cap ∧ w.heap[l.blk]? = some ob ∧ ∃ (pre cs post : List Value) (fr : Nat × Nat × Nat), ob = .cells (pre ++ cs ++ post).toArray fr.1 fr.2 ∧ pre.length = l.off ∧ cs.length = len * sz ∧
      (∀ v, v ∈ cs → v.oneCell' = true) ∧ ∀ i, i < len → RelL ρ (el i) ((cs.drop (i * sz)).take sz))))
    {vargs : Array Value} (hr : RelL ρ args vargs.toList) : Calls P k vargs w fun e w' => e = .returned (.bool true) ∧ Grown w w' := by
  obtain ⟨hcall, _, _⟩ := hC args _ tr hc hok
  have I0 : Inv T (fun i => i < w.heap.size) w ρ h w := by
    refine ⟨hl, ⟨rfl, rfl, rfl, Nat.le_refl _, fun i hi => hi, fun _ _ => rfl, fun _ => rfl⟩, fun n i => n < h.length ∧ i < w.heap.size ∧ ∃ l, ρ[n]? = some l ∧ i = l.blk, ?_, fun n m i a b => .inr a.2.1, fun n i a => ⟨a.2.1, .inr ?_⟩⟩
    · intro n o l hn hl'
      obtain ⟨t, sz, len, el, ob, rfl, q⟩ := hh n o l hn hl'
      rcases q with q | ⟨q1, q2, q3, q4⟩
      · exact .inl q
      · exact .inr ⟨q1, ⟨(List.getElem?_eq_some_iff.1 hn).1, (Array.getElem?_eq_some_iff.1 q3).1, l, hl', rfl⟩, q2, q3, q4⟩
    · have hn := List.getElem?_eq_getElem a.1
      obtain ⟨l, hl', _⟩ := a.2.2
      obtain ⟨t, sz, len, el, ob, e, _⟩ := hh n _ l hn hl'
      rw [hn, e]; trivial
  have := hcall _ w ρ w vargs.toList I0 hr
  rw [Array.toArray_toList] at this
  refine this.mono ?_
  rintro e w' ⟨ρ', cv, rfl, hp, I', hv⟩
  rw [hg] at hv
  exact ⟨by rw [hv], grown_of I' fun i hi => hi⟩
end
end Go.Sx

namespace Go.Sx
open Go.RowKit
section
variable {T : Theory}
def nilTo (n sz:Nat) : List Nat → List (Option SV) → List (Option SV)
  | [], l => l
  | t :: ts, l => nilTo n sz ts (match l[t]? with
    | some (some .nils) => l.set t (some (.slc n sz 0 0))
    | _ => l)
theorem nilTo_length {n sz : Nat} : ∀ {ts : List Nat} {l : List (Option SV)}, (nilTo n sz ts l).length = l.length
  | [], l => rfl
  | t :: ts, l => by
    simp only [nilTo]
    rw [nilTo_length]
    split <;> simp
theorem nilTo_rel {n sz : Nat} {ρ : Env} {a : Act} (hn : ρ[n]? = some ⟨0, 0, true, 0⟩) : ∀ {ts : List Nat} {l : List (Option SV)}, (∀ (t:Nat) (v : SV), l[t]? = some (some v) → Rel ρ v (a.tmps.getD t undef)) →
    ∀ (t:Nat) (v : SV), (nilTo n sz ts l)[t]? = some (some v) → Rel ρ v (a.tmps.getD t undef)
  | [], l, h => h
  | t0 :: ts, l, h => by
    simp only [nilTo]
    refine nilTo_rel hn ?_
    intro t v hv
    split at hv
    · rename_i h0
      by_cases e : t = t0
      · subst e
        rw [List.getElem?_set_self (List.getElem?_eq_some_iff.1 h0).1] at hv
        cases hv
        have := h t _ h0
        exact ⟨_, hn, .inl ⟨rfl, rfl, rfl, this⟩⟩
      · rw [List.getElem?_set_ne (fun x => e x.symm)] at hv
        exact h t v hv
    · exact h t v hv
theorem WkB.nilRow {n0 : Nat} {s : St T.R} (ts : List Nat) (te sz:Nat) (el : Nat → List SV) : WkB T n0 s { s with slots := nilTo s.heap.length sz ts s.slots, heap := s.heap ++ [.row te sz 0 el] } := by
  intro K w0 ρ0 ρ a w _ hp r
  have hl := r.inv.len
  refine ⟨ρ ++ [⟨0, 0, true, 0⟩], hp.trans (Pre.snoc _ _), ⟨by rw [r.size]; exact nilTo_length.symm, r.defers, ?_, ?_⟩⟩
  · refine nilTo_rel (by rw [List.getElem?_append_right (by omega)]; simp [hl]) fun t v hv => Rel.mono (Pre.snoc _ _) _ _ (r.slots t v hv)
  · exact r.inv.news ⟨0, 0, true, 0⟩ _ (fun _ => False) (Turns.refl _ _) (fun _ q => q.elim) (.inl ⟨rfl, rfl⟩)
end
end Go.Sx

