/- A symbolic executor over the model's code, proved sound for whatever program; part 1. Their conditions stand in each. -/
import Derived.Tactics
import Derived.Tactics2
import Derived.Below
import Derived.WalkKit
import Derived.Laws.StructEq
import Derived.Laws.Slices
import Derived.Laws.Entries
import Derived.Laws.CopyRow
import Derived.Laws.Build
import Derived.Laws.AppendOwn
import Derived.LoopN
set_option linter.unusedVariables false
set_option linter.unusedSimpArgs false
namespace Go.Sx
open Go.RowKit

inductive SV where
  | bool (b : Bool)
  | int (k : IntKind) (x:Int)
  | str (s : ByteArray)
  | ptr (n off:Nat)
  | elt (n sz i off:Nat)
  | nilp
  | slc (n sz lo len:Nat)
  | nils
  | map (n:Nat)
  | nilm
  | fn (f:Nat) (caps : List SV)
  | nilf
  | ifc (t:Nat) (v : SV)
  | nili
  | agg (l : List SV)
  | tup (l : List SV)
  deriving Inhabited

structure Loc where
  blk : Nat
  cap : Nat
  nil : Bool
  off : Nat

abbrev Env := List Loc

mutual
def Rel (ρ : Env) : SV → Value → Prop
  | .bool b, v => v = .bool b
  | .int k x, v => v = .int k x
  | .str s, v => v = .string s
  | .ptr n off, v => ∃ l, ρ[n]? = some l ∧ v = .pointer (some ⟨l.blk, l.off + off, none⟩)
  | .elt n sz i off, v => ∃ l, ρ[n]? = some l ∧ v = .pointer (some ⟨l.blk, l.off + (i * sz + off), none⟩)
  | .nilp, v => v = .pointer none
  | .slc n sz lo len, v => ∃ l, ρ[n]? = some l ∧ ((l.nil = true ∧ lo = 0 ∧ len = 0 ∧ v = .slice none 0 0) ∨
      (l.nil = false ∧ lo + len ≤ l.cap ∧ ∃ a, v = .slice (some a) len (l.cap - lo) ∧ (lo < l.cap → a = ⟨l.blk, l.off + lo * sz, none⟩)))
  | .nils, v => v = .slice none 0 0
  | .map n, v => ∃ l, ρ[n]? = some l ∧ v = .map (some l.blk)
  | .nilm, v => v = .map none
  | .fn f caps, v => ∃ cs, v = .func (.func f) #[] cs.toArray ∧ RelL ρ caps cs
  | .nilf, v => v = .nilFunc
  | .ifc t x, v => ∃ y, v = .iface t y ∧ Rel ρ x y
  | .nili, v => v = .nilIface
  | .agg l, v => ∃ cs, v = .agg cs.toArray ∧ RelL ρ l cs
  | .tup l, v => ∃ cs, v = .tuple cs.toArray ∧ RelL ρ l cs
def RelL (ρ : Env) : List SV → List Value → Prop
  | [], l => l = []
  | x :: xs, l => ∃ y ys, l = y :: ys ∧ Rel ρ x y ∧ RelL ρ xs ys
end

def Pre (ρ ρ' : Env) : Prop := ∃ e, ρ' = ρ ++ e
theorem Pre.refl (ρ : Env) : Pre ρ ρ := ⟨[], by simp⟩
theorem Pre.trans {a b c : Env} (h : Pre a b) (k : Pre b c) : Pre a c := by
  obtain ⟨e, rfl⟩ := h
  obtain ⟨f, rfl⟩ := k
  exact ⟨e ++ f, by simp⟩
theorem Pre.get {ρ ρ' : Env} (h : Pre ρ ρ') {n : Nat} {l : Loc} (hn : ρ[n]? = some l) : ρ'[n]? = some l := by
  obtain ⟨e, rfl⟩ := h
  rw [List.getElem?_append_left]
  · exact hn
  · exact (List.getElem?_eq_some_iff.1 hn).1
theorem Pre.snoc (ρ : Env) (l : Loc) : Pre ρ (ρ ++ [l]) := ⟨[l], rfl⟩

mutual
theorem Rel.mono {ρ ρ' : Env} (h : Pre ρ ρ') : ∀ (x : SV) (v : Value), Rel ρ x v → Rel ρ' x v
  | .bool _, _, r => r
  | .int _ _, _, r => r
  | .str _, _, r => r
  | .ptr _ _, _, r => by obtain ⟨l, hl, e⟩ := r; exact ⟨l, h.get hl, e⟩
  | .elt _ _ _ _, _, r => by obtain ⟨l, hl, e⟩ := r; exact ⟨l, h.get hl, e⟩
  | .nilp, _, r => r
  | .slc _ _ _ _, _, r => by obtain ⟨l, hl, e⟩ := r; exact ⟨l, h.get hl, e⟩
  | .nils, _, r => r
  | .map _, _, r => by obtain ⟨l, hl, e⟩ := r; exact ⟨l, h.get hl, e⟩
  | .nilm, _, r => r
  | .fn _ caps, _, r => by obtain ⟨cs, e, k⟩ := r; exact ⟨cs, e, RelL.mono h caps cs k⟩
  | .nilf, _, r => r
  | .ifc _ x, _, r => by obtain ⟨y, e, k⟩ := r; exact ⟨y, e, Rel.mono h x y k⟩
  | .nili, _, r => r
  | .agg l, _, r => by obtain ⟨cs, e, k⟩ := r; exact ⟨cs, e, RelL.mono h l cs k⟩
  | .tup l, _, r => by obtain ⟨cs, e, k⟩ := r; exact ⟨cs, e, RelL.mono h l cs k⟩
theorem RelL.mono {ρ ρ' : Env} (h : Pre ρ ρ') : ∀ (l : List SV) (vs : List Value), RelL ρ l vs → RelL ρ' l vs
  | [], _, r => r
  | x :: xs, _, r => by obtain ⟨y, ys, e, k1, k2⟩ := r; exact ⟨y, ys, e, Rel.mono h x y k1, RelL.mono h xs ys k2⟩
end

theorem RelL.length {ρ : Env} : ∀ {l : List SV} {vs : List Value}, RelL ρ l vs → vs.length = l.length
  | [], _, r => by simp [RelL] at r; subst r; rfl
  | x :: xs, _, r => by obtain ⟨y, ys, rfl, _, k2⟩ := r; simp [RelL.length k2]
theorem RelL.get {ρ : Env} : ∀ {l : List SV} {vs : List Value}, RelL ρ l vs → ∀ {i : Nat} {x : SV}, l[i]? = some x → ∃ v, vs[i]? = some v ∧ Rel ρ x v
  | [], _, _, i, x, hx => by simp at hx
  | y :: ys, _, r, i, x, hx => by
    obtain ⟨v, vs, rfl, k1, k2⟩ := r
    cases i with
    | zero => simp at hx; subst hx; exact ⟨v, rfl, k1⟩
    | succ i => simp at hx; obtain ⟨u, hu, ku⟩ := RelL.get k2 hx; exact ⟨u, by simpa using hu, ku⟩
theorem RelL.drop {ρ : Env} : ∀ {l : List SV} {vs : List Value}, RelL ρ l vs → ∀ n, RelL ρ (l.drop n) (vs.drop n)
  | l, vs, r, 0 => by simpa using r
  | [], _, r, n + 1 => by simp [RelL] at r; subst r; simp [RelL]
  | x :: xs, _, r, n + 1 => by obtain ⟨y, ys, rfl, _, k2⟩ := r; simpa using RelL.drop k2 n
theorem RelL.take {ρ : Env} : ∀ {l : List SV} {vs : List Value}, RelL ρ l vs → ∀ n, RelL ρ (l.take n) (vs.take n)
  | l, vs, r, 0 => by simp [RelL]
  | [], _, r, n + 1 => by simp [RelL] at r; subst r; simp [RelL]
  | x :: xs, _, r, n + 1 => by obtain ⟨y, ys, rfl, k1, k2⟩ := r; exact ⟨y, ys.take n, rfl, k1, RelL.take k2 n⟩
theorem RelL.append {ρ : Env} : ∀ {l m : List SV} {vs us : List Value}, RelL ρ l vs → RelL ρ m us → RelL ρ (l ++ m) (vs ++ us)
  | [], m, _, us, r, k => by simp [RelL] at r; subst r; simpa using k
  | x :: xs, m, _, us, r, k => by obtain ⟨y, ys, rfl, k1, k2⟩ := r; exact ⟨y, ys ++ us, rfl, k1, RelL.append k2 k⟩
theorem RelL.set {ρ : Env} : ∀ {l : List SV} {vs : List Value}, RelL ρ l vs → ∀ (i:Nat) {x : SV} {v : Value}, Rel ρ x v → RelL ρ (l.set i x) (vs.set i v)
  | [], _, r, i, x, v, k => by simp [RelL] at r; subst r; simp [RelL]
  | y :: ys, _, r, i, x, v, k => by
    obtain ⟨u, us, rfl, k1, k2⟩ := r
    cases i with
    | zero => exact ⟨v, us, rfl, k, k2⟩
    | succ i => exact ⟨u, us.set i v, rfl, k1, RelL.set k2 i k⟩
theorem RelL.one {ρ : Env} {x : SV} {v : Value} (h : Rel ρ x v) : RelL ρ [x] [v] := ⟨v, [], rfl, h, rfl⟩

def SV.cells : SV → List SV
  | .agg l => l
  | v => [v]
theorem Rel.cells {ρ : Env} {x : SV} {v : Value} (h : Rel ρ x v) : RelL ρ x.cells v.cells.toList := by
  cases x <;> simp only [SV.cells]
  case agg l => obtain ⟨cs, rfl, k⟩ := h; simpa [Value.cells] using k
  all_goals
    refine ⟨v, [], ?_, h, rfl⟩
  all_goals
    first
      | (simp only [Rel] at h; subst h; rfl)
      | (obtain ⟨_, _, rfl⟩ := h; rfl)
      | (obtain ⟨_, rfl, _⟩ := h; rfl)
      | (obtain ⟨_, _, (⟨_, _, _, rfl⟩ | ⟨_, _, _, rfl, _⟩)⟩ := h <;> rfl)

structure Theory where
  R : Type
  holds : R → Nat → (Nat → Prop) → World → Prop
  keep : ∀ {r b F w w'}, holds r b F w → (∀ i, F i → w'.heap[i]? = w.heap[i]?) → holds r b F w'
  merge : Bool → R → R → Option R
  merge_spec : ∀ {c a b r}, merge c a b = some r → r = if c then a else b

inductive HO (R : Type) where
  | gone
  | cells (t:Nat) (l : List SV)
  | row (t sz len:Nat) (el : Nat → List SV)
  | ro (t sz len:Nat) (el : Nat → List SV) (ob : Obj)
  | res (r : R)

def OHolds (T : Theory) (ρ : Env) (l : Loc) (F : Nat → Prop) (w : World) : HO T.R → Prop
  | .gone => True
  | .cells t xs => l.off = 0 ∧ F l.blk ∧ ∃ cs : List Value, w.heap[l.blk]? = some (.cells cs.toArray t (0, 0)) ∧ RelL ρ xs cs
  | .row t sz len el => (l.nil = true ∧ len = 0) ∨ (l.nil = false ∧ l.off = 0 ∧ F l.blk ∧ len ≤ l.cap ∧ ∃ cs : List Value, w.heap[l.blk]? = some (.cells cs.toArray t (0, 0)) ∧ cs.length = l.cap * sz ∧ (∀ v, v ∈ cs → v.oneCell' = true) ∧
      ∀ i, i < len → RelL ρ (el i) ((cs.drop (i * sz)).take sz))
  | .ro t sz len el ob => (len = 0) ∨ (l.nil = false ∧ F l.blk ∧ len ≤ l.cap ∧ w.heap[l.blk]? = some ob ∧ ∃ (pre cs post : List Value) (fr : Nat × Nat × Nat), ob = .cells (pre ++ cs ++ post).toArray fr.1 fr.2 ∧ pre.length = l.off ∧ cs.length = len * sz ∧
      (∀ v, v ∈ cs → v.oneCell' = true) ∧ ∀ i, i < len → RelL ρ (el i) ((cs.drop (i * sz)).take sz))
  | .res r => l.off = 0 ∧ T.holds r l.blk F w

structure Turns (F : Nat → Prop) (w w' : World) : Prop where
  os : w'.os = w.os
  tape : w'.tape = w.tape
  output : w'.output = w.output
  size : w.heap.size ≤ w'.heap.size
  rest : ∀ i, i < w.heap.size → ¬ F i → w'.heap[i]? = w.heap[i]?
  frz : ∀ a, w'.frozen? a = w.frozen? a

theorem Turns.refl (F : Nat → Prop) (w : World) : Turns F w w := ⟨rfl, rfl, rfl, Nat.le_refl _, fun _ _ _ => rfl, fun _ => rfl⟩
theorem Turns.drew {F : Nat → Prop} {w w' : World} (h : Turns F w w') : Turns F w w'.drew := ⟨h.os, h.tape, h.output, h.size, h.rest, h.frz⟩
theorem Turns.mono {F G : Nat → Prop} {w w' : World} (h : Turns F w w') (k : ∀ i, i < w.heap.size → F i → G i) : Turns G w w' :=
  ⟨h.os, h.tape, h.output, h.size, fun i hi hg => h.rest i hi fun hf => hg (k i hi hf), h.frz⟩
theorem Turns.trans {F : Nat → Prop} {a b c : World} (h : Turns F a b) (k : Turns F b c) : Turns F a c :=
  ⟨k.os.trans h.os, k.tape.trans h.tape, k.output.trans h.output, Nat.le_trans h.size k.size, fun i hi hf => (k.rest i (Nat.lt_of_lt_of_le hi h.size) hf).trans (h.rest i hi hf), fun a => (k.frz a).trans (h.frz a)⟩
theorem Turns.alloc (F : Nat → Prop) (w : World) (c : Array Value) (t : TypeId) : Turns F w (w.alloc (.cells c t)) :=
  ⟨rfl, rfl, rfl, by show _ ≤ (w.heap.push _).size; simp, fun i hi _ => Below.heap_alloc w _ i hi, fun a => frozen?_alloc_cells w c t a⟩
theorem Turns.setCell {F : Nat → Prop} (w : World) (a : Addr) (v : Value) (h : F a.block) : Turns F w (w.setCell a v) :=
  ⟨rfl, rfl, rfl, by simp [World.setCell], fun i _ hf => Below.heap_setCell w a v i fun e => hf (e ▸ h), fun b => World.frozen?_setCell w a b v⟩

structure Kept (K : Nat → Prop) (w0 w : World) : Prop where
  os : w.os = w0.os
  tape : w.tape = w0.tape
  output : w.output = w0.output
  size : w0.heap.size ≤ w.heap.size
  old : ∀ i, K i → i < w0.heap.size
  rest : ∀ i, K i → w.heap[i]? = w0.heap[i]?
  frz : ∀ a, w.frozen? a = w0.frozen? a

theorem Kept.turns {K F : Nat → Prop} {w0 w w' : World} (h : Kept K w0 w) (k : Turns F w w') (hd : ∀ i, F i → ¬ K i) : Kept K w0 w' :=
  ⟨k.os.trans h.os, k.tape.trans h.tape, k.output.trans h.output, Nat.le_trans h.size k.size, h.old,
    fun i hi => (k.rest i (Nat.lt_of_lt_of_le (h.old i hi) h.size) fun hf => hd i hf hi).trans (h.rest i hi), fun a => (k.frz a).trans (h.frz a)⟩

def IsRo {R : Type} : Option (HO R) → Prop
  | some (.ro _ _ _ _ _) => True
  | some .gone => True
  | _ => False
structure Inv (T : Theory) (K : Nat → Prop) (w0 : World) (ρ : Env) (h : List (HO T.R)) (w : World) : Prop where
  len : ρ.length = h.length
  kept : Kept K w0 w
  foot : ∃ F : Nat → Nat → Prop, (∀ n o l, h[n]? = some o → ρ[n]? = some l → OHolds T ρ l (F n) w o) ∧
    (∀ n m i, F n i → F m i → n = m ∨ K i) ∧ (∀ n i, F n i → i < w.heap.size ∧ (¬ K i ∨ IsRo h[n]?))

section
variable {T : Theory} {K : Nat → Prop} {w0 w w' : World} {ρ ρ' : Env} {h : List (HO T.R)}

theorem OHolds.mono (hp : Pre ρ ρ') {l : Loc} {F : Nat → Prop} {o : HO T.R} (H : OHolds T ρ l F w o) (hk : ∀ i, F i → w'.heap[i]? = w.heap[i]?) : OHolds T ρ' l F w' o := by
  cases o with
  | gone => trivial
  | cells t xs =>
    obtain ⟨ho, hf, cs, hc, hr⟩ := H
    exact ⟨ho, hf, cs, by rw [hk _ hf]; exact hc, RelL.mono hp _ _ hr⟩
  | row t sz len el =>
    rcases H with H | ⟨h1, h0, h2, h3, cs, h4, h5, h7, h6⟩
    · exact .inl H
    · exact .inr ⟨h1, h0, h2, h3, cs, by rw [hk _ h2]; exact h4, h5, h7, fun i hi => RelL.mono hp _ _ (h6 i hi)⟩
  | ro t sz len el ob =>
    rcases H with H | ⟨h1, h2, h3, h4, a, cs, b, fr, h5, h6, h7, h8, h9⟩
    · exact .inl H
    · exact .inr ⟨h1, h2, h3, by rw [hk _ h2]; exact h4, a, cs, b, fr, h5, h6, h7, h8, fun i hi => RelL.mono hp _ _ (h9 i hi)⟩
  | res r => exact ⟨H.1, T.keep H.2 hk⟩

theorem Inv.peek (I : Inv T K w0 ρ h w) {n : Nat} {o : HO T.R} (hn : h[n]? = some o) :
    ∃ l F, ρ[n]? = some l ∧ OHolds T ρ l F w o ∧ (∀ i, F i → i < w.heap.size) := by
  obtain ⟨hlen, hkept, F, h1, h2, h3⟩ := I
  have hlt : n < h.length := (List.getElem?_eq_some_iff.1 hn).1
  obtain ⟨l, hl⟩ : ∃ l, ρ[n]? = some l := ⟨_, List.getElem?_eq_getElem (by omega)⟩
  exact ⟨l, F n, hl, h1 n o l hn hl, fun i hi => (h3 n i hi).1⟩
theorem Inv.opens (I : Inv T K w0 ρ h w) {n : Nat} {o : HO T.R} (hn : h[n]? = some o) (hro : IsRo (some o) → False := by exact id) :
    ∃ l F, ρ[n]? = some l ∧ OHolds T ρ l F w o ∧ (∀ i, F i → i < w.heap.size ∧ ¬ K i) ∧
      ∀ w' o' F', Turns F w w' → (∀ i, F' i → F i ∨ w.heap.size ≤ i ∧ i < w'.heap.size) → OHolds T ρ l F' w' o' → Inv T K w0 ρ (h.set n o') w' := by
  obtain ⟨hlen, hkept, F, h1, h2, h3⟩ := I
  have hlt : n < h.length := (List.getElem?_eq_some_iff.1 hn).1
  obtain ⟨l, hl⟩ : ∃ l, ρ[n]? = some l := ⟨_, List.getElem?_eq_getElem (by omega)⟩
  have hnk : ∀ i, F n i → i < w.heap.size ∧ ¬ K i := fun i hi => ⟨(h3 n i hi).1, (h3 n i hi).2.elim id fun e => by
    rw [hn] at e; exact (hro e).elim⟩
  refine ⟨l, F n, hl, h1 n o l hn hl, hnk, ?_⟩
  intro w' o' F' ht hF' ho'
  have hnew : ∀ i, w.heap.size ≤ i → ¬ K i := fun i hi hk => absurd (Nat.lt_of_lt_of_le (hkept.old i hk) hkept.size) (by omega)
  refine ⟨by simpa using hlen, hkept.turns ht fun i hi => (hnk i hi).2, fun m => if m = n then F' else F m, ?_, ?_, ?_⟩
  · intro m om lm hm hlm
    by_cases e : m = n
    · subst e
      rw [List.getElem?_set_self hlt] at hm
      cases hm
      rw [hl] at hlm
      cases hlm
      simpa using ho'
    · rw [List.getElem?_set_ne (fun x => e x.symm)] at hm
      simp only [if_neg e]
      refine OHolds.mono (Pre.refl _) (h1 m om lm hm hlm) fun i hi => ht.rest i (h3 m i hi).1 fun hf => (h2 m n i hi hf).elim e (hnk i hf).2
  · intro a b i
    by_cases ea : a = n <;> by_cases eb : b = n <;> simp only [ea, eb, if_true, if_false] <;> intro ha hb
    · exact .inl trivial
    · rcases hF' i ha with hx | hx
      · exact ((h2 b n i hb hx).elim (fun e => absurd e eb) fun k => absurd k (hnk i hx).2)
      · exact absurd (h3 b i hb).1 (by omega)
    · rcases hF' i hb with hx | hx
      · exact ((h2 a n i ha hx).elim (fun e => absurd e ea) fun k => absurd k (hnk i hx).2)
      · exact absurd (h3 a i ha).1 (by omega)
    · exact h2 a b i ha hb
  · intro m i
    by_cases e : m = n <;> simp only [e, if_true, if_false] <;> intro hi
    · rcases hF' i hi with hx | hx
      · exact ⟨Nat.lt_of_lt_of_le (hnk i hx).1 ht.size, .inl (hnk i hx).2⟩
      · exact ⟨hx.2, .inl (hnew i hx.1)⟩
    · rw [List.getElem?_set_ne (fun x => e x.symm)]
      exact ⟨Nat.lt_of_lt_of_le (h3 m i hi).1 ht.size, (h3 m i hi).2⟩

theorem Inv.news (I : Inv T K w0 ρ h w) (l : Loc) (o : HO T.R) (F' : Nat → Prop) (ht : Turns (fun _ => False) w w')
    (hF : ∀ i, F' i → w.heap.size ≤ i ∧ i < w'.heap.size) (ho : OHolds T (ρ ++ [l]) l F' w' o) : Inv T K w0 (ρ ++ [l]) (h ++ [o]) w' := by
  obtain ⟨hlen, hkept, F, h1, h2, h3⟩ := I
  refine ⟨by simp [hlen], hkept.turns ht fun _ x => x.elim, fun m => if m = h.length then F' else if m < h.length then F m else fun _ => False, ?_, ?_, ?_⟩
  · intro m om lm hm hlm
    by_cases e : m = h.length
    · subst e
      rw [List.getElem?_append_right (by omega)] at hm
      rw [← hlen, List.getElem?_append_right (by omega)] at hlm
      simp at hm hlm
      subst hm hlm
      simpa using ho
    · have hlt : m < h.length := by
        have := (List.getElem?_eq_some_iff.1 hm).1
        simp at this
        omega
      rw [List.getElem?_append_left hlt] at hm
      rw [List.getElem?_append_left (by omega)] at hlm
      simp only [if_neg e, if_pos hlt]
      exact OHolds.mono (Pre.snoc _ _) (h1 m om lm hm hlm) fun i hi => ht.rest i (h3 m i hi).1 id
  · intro a b i
    by_cases ea : a = h.length <;> by_cases eb : b = h.length <;> simp only [ea, eb, if_true, if_false]
    · exact fun _ _ => .inl trivial
    · split
      · intro ha hb
        exact absurd (h3 b i hb).1 (by have := hF i ha; omega)
      · exact fun _ x => x.elim
    · split
      · intro ha hb
        exact absurd (h3 a i ha).1 (by have := hF i hb; omega)
      · exact fun x => x.elim
    · split <;> split
      · exact h2 a b i
      · exact fun _ x => x.elim
      · exact fun x => x.elim
      · exact fun x => x.elim
  · intro m i
    by_cases e : m = h.length <;> simp only [e, if_true, if_false]
    · intro hi
      have := hF i hi
      exact ⟨this.2, .inl fun hk => absurd (Nat.lt_of_lt_of_le (hkept.old i hk) hkept.size) (by omega)⟩
    · split
      · rename_i hlt
        intro hi
        rw [List.getElem?_append_left hlt]
        exact ⟨Nat.lt_of_lt_of_le (h3 m i hi).1 ht.size, (h3 m i hi).2⟩
      · exact fun x => x.elim

theorem Inv.drew (I : Inv T K w0 ρ h w) : Inv T K w0 ρ h w.drew :=
  ⟨I.len, ⟨I.kept.os, I.kept.tape, I.kept.output, I.kept.size, I.kept.old, I.kept.rest, I.kept.frz⟩, by
    obtain ⟨F, h1, h2, h3⟩ := I.foot
    exact ⟨F, fun n o l hn hl => OHolds.mono (Pre.refl _) (h1 n o l hn hl) fun _ _ => rfl, h2, h3⟩⟩

end
end Go.Sx

namespace Go.Sx
open Go.RowKit

def Nd : Option Prop → Prop
  | none => True
  | some p => p
def andN : Option Prop → Option Prop → Option Prop
  | none, q => q
  | some p, none => some p
  | some p, some q => some (p ∧ q)
theorem andN_iff {p q : Option Prop} : Nd (andN p q) ↔ Nd p ∧ Nd q := by cases p <;> cases q <;> simp [andN, Nd]
def whenN (c : Bool) : Option Prop → Option Prop
  | none => none
  | some p => some (c = true → p)
theorem whenN_out {c : Bool} {p : Option Prop} (h : Nd (whenN c p)) (hc : c = true) : Nd p := by
  cases p with
  | none => trivial
  | some p => exact h hc

/-! ### Constants -/
def ofCell : Value → Option SV
  | .bool b => some (.bool b)
  | .int k x => some (.int k x)
  | .string s => some (.str s)
  | .pointer none => some .nilp
  | .slice none 0 0 => some .nils
  | .map none => some .nilm
  | .nilFunc => some .nilf
  | .nilIface => some .nili
  | _ => none
def ofCells : List Value → Option (List SV)
  | [] => some []
  | v :: vs => match ofCell v, ofCells vs with
    | some x, some xs => some (x :: xs)
    | _, _ => none
def ofValue : Value → Option SV
  | .agg cs => match ofCells cs.toList with
    | some l => some (.agg l)
    | none => none
  | v => ofCell v

theorem ofCell_rel {v : Value} {x : SV} (h : ofCell v = some x) (ρ : Env) : Rel ρ x v := by
  unfold ofCell at h
  split at h <;> first | (cases h; rfl) | cases h
theorem ofCells_rel : ∀ {vs : List Value} {l : List SV}, ofCells vs = some l → ∀ ρ, RelL ρ l vs
  | [], l, h, ρ => by simp [ofCells] at h; subst h; rfl
  | v :: vs, l, h, ρ => by
    simp only [ofCells] at h
    split at h
    · rename_i x xs h1 h2
      cases h
      exact ⟨v, vs, rfl, ofCell_rel h1 ρ, ofCells_rel h2 ρ⟩
    · cases h
theorem ofValue_rel {v : Value} {x : SV} (h : ofValue v = some x) (ρ : Env) : Rel ρ x v := by
  unfold ofValue at h
  split at h
  · rename_i cs
    split at h
    · rename_i l hl
      cases h
      exact ⟨cs.toList, by simp, ofCells_rel hl ρ⟩
    · cases h
  · exact ofCell_rel h ρ

/-! ### Parts -/
def aggT (P : Program) (t:Nat) : Option Bool :=
  match P.underlying t with
  | some (.struct _) => some true
  | some (.array _ _) => some true
  | some _ => some false
  | none => none
def sizeT (P : Program) (t:Nat) : Option Nat :=
  match P.info? t with
  | some i => some i.size
  | none => none
theorem run_isAgg {P : Program} {t : Nat} {b : Bool} (h : aggT P t = some b) (w : World) : (isAgg t).run P w = .ok b w := by
  unfold aggT at h
  unfold isAgg
  split at h
  · rename_i fs e; cases h; simp [run_underlying e]
  · rename_i x y e; cases h; simp [run_underlying e]
  · rename_i d h1 h2 e
    cases h
    simp only [Sem.run_bind, run_underlying e, Result.andThen_ok]
    cases d <;> first | rfl | exact absurd rfl (h1 _) | exact absurd rfl (h2 _ _)
  · cases h
theorem run_sizeOf {P : Program} {t n : Nat} (h : sizeT P t = some n) (w : World) : (sizeOf t).run P w = .ok n w := by
  unfold sizeT at h
  split at h
  · rename_i i e; cases h; simp [sizeOf, typeInfo, e, run_program]
  · cases h

def partS (P : Program) (t:Nat) (xs : List SV) (off:Nat) : Option SV :=
  match aggT P t with
  | some true => match sizeT P t with
    | some n => some (.agg ((xs.drop off).take n))
    | none => none
  | some false => xs[off]?
  | none => none
theorem run_part {P : Program} {t : Nat} {xs : List SV} {off : Nat} {x : SV} {ρ : Env} {cs : List Value} (h : partS P t xs off = some x) (hr : RelL ρ xs cs) (w : World) :
    ∃ v, (part t cs.toArray off).run P w = .ok v w ∧ Rel ρ x v := by
  unfold partS at h
  unfold part
  split at h
  · rename_i e
    split at h
    · rename_i n en
      cases h
      refine ⟨.agg (cs.toArray.extract off (off + n)), by simp [run_isAgg e, run_sizeOf en], (cs.drop off).take n, ?_, (hr.drop off).take n⟩
      congr 1
      apply Array.toList_inj.1
      simp [List.extract_eq_take_drop]
    · cases h
  · rename_i e
    obtain ⟨v, hv, hx⟩ := hr.get h
    exact ⟨v, by simp [run_isAgg e, hv], hx⟩
  · cases h

/-! ### Equality -/
def eqFs (eq : Nat → SV → SV → Option Bool) (P : Program) (xs ys : List SV) : List Field → Option Bool
  | [] => some true
  | f :: fs => match decide (f.name = "_") with
    | true => eqFs eq P xs ys fs
    | false => match partS P f.type xs f.offset, partS P f.type ys f.offset with
      | some a, some b => match eq f.type a b, eqFs eq P xs ys fs with
        | some c, some d => some (c && d)
        | _, _ => none
      | _, _ => none
def eqIs (eq : SV → SV → Option Bool) (P : Program) (e n:Nat) (xs ys : List SV) : Nat → Nat → Option Bool
  | 0, _ => some true
  | k + 1, i => match partS P e xs (i * n), partS P e ys (i * n) with
    | some a, some b => match eq a b, eqIs eq P e n xs ys k (i + 1) with
      | some c, some d => some (c && d)
      | _, _ => none
    | _, _ => none
def evEq (P : Program) : Nat → Nat → SV → SV → Option Bool
  | 0, _, _, _ => none
  | d + 1, t, x, y =>
    match P.underlying t, x, y with
    | some .bool, .bool a, .bool b => some (a == b)
    | some (.int _), .int k a, .int k' b => if k = k' then some (a == b) else none
    | some .string, .str a, .str b => some (a == b)
    | some (.pointer _), .nilp, .nilp => some true
    | some (.pointer _), .nilp, .ptr _ _ => some false
    | some (.pointer _), .ptr _ _, .nilp => some false
    | some (.slice _), .nils, .nils => some true
    | some (.interface _), .nili, .nili => some true
    | some (.interface _), .nili, .ifc _ _ => some false
    | some (.interface _), .ifc _ _, .nili => some false
    | some (.struct fs), .agg xs, .agg ys => if P.stoodInHeld t then none else eqFs (evEq P d) P xs ys fs.toList
    | some (.array len e), .agg xs, .agg ys => match sizeT P e with
      | some n => eqIs (evEq P d e) P e n xs ys len 0
      | none => none
    | _, _, _ => none

theorem eqFs_sound {P : Program} {D : Nat} {ρ : Env} {eq : Nat → SV → SV → Option Bool}
    (heq : ∀ t x y b vx vy w, eq t x y = some b → Rel ρ x vx → Rel ρ y vy → (Op.equalIn D t vx vy).run P w = .ok b w)
    {xs ys : List SV} {cs ds : List Value} (hx : RelL ρ xs cs) (hy : RelL ρ ys ds) (w : World) :
    ∀ (fs : List Field) (b : Bool), eqFs eq P xs ys fs = some b → (Op.eqFields D cs.toArray ds.toArray fs).run P w = .ok b w
  | [], b, h => by simp [eqFs] at h; subst h; simp [Op.eqFields]
  | f :: fs, b, h => by
    simp only [eqFs] at h
    simp only [Op.eqFields]
    split at h
    · rename_i e
      simp only [decide_eq_true_eq] at e
      simp only [e, ne_eq, not_true, if_false]
      exact eqFs_sound heq hx hy w fs b h
    · rename_i e
      simp only [decide_eq_false_iff_not] at e
      simp only [ne_eq, e, not_false_eq_true, if_true]
      split at h
      · rename_i a c ha hc
        split at h
        · rename_i r1 r2 h1 h2
          cases h
          obtain ⟨v1, e1, k1⟩ := run_part ha hx w
          obtain ⟨v2, e2, k2⟩ := run_part hc hy w
          simp only [Sem.run_bind, e1, Result.andThen_ok, e2, heq _ _ _ _ _ _ w h1 k1 k2]
          cases r1
          · simp
          · simpa using eqFs_sound heq hx hy w fs r2 h2
        · cases h
      · cases h

theorem eqIs_sound {P : Program} {D e n : Nat} {ρ : Env} {eq : SV → SV → Option Bool} (hn : sizeT P e = some n)
    (heq : ∀ x y b vx vy w, eq x y = some b → Rel ρ x vx → Rel ρ y vy → (Op.equalIn D e vx vy).run P w = .ok b w)
    {xs ys : List SV} {cs ds : List Value} (hx : RelL ρ xs cs) (hy : RelL ρ ys ds) (w : World) :
    ∀ (k i:Nat) (b : Bool), eqIs eq P e n xs ys k i = some b →
      ((forIn (m := Sem) (List.range' i k) ((none, ()) : Option Bool × Unit) fun i _ => do
          let a ← part e cs.toArray (i * n)
          let b ← part e ds.toArray (i * n)
          let r ← Op.equalIn D e a b
          if (!r) = true then pure (ForInStep.done (some false, ())) else
            pure (ForInStep.yield (none, ()))).run P w = .ok (if b then (none, ()) else (some false, ())) w)
  | 0, i, b, h => by simp [eqIs] at h; subst h; simp
  | k + 1, i, b, h => by
    simp only [eqIs] at h
    split at h
    · rename_i a c ha hc
      split at h
      · rename_i r1 r2 h1 h2
        cases h
        obtain ⟨v1, e1, k1⟩ := run_part ha hx w
        obtain ⟨v2, e2, k2⟩ := run_part hc hy w
        simp only [List.range'_succ, List.forIn_cons, Sem.run_bind, e1, Result.andThen_ok, e2, heq _ _ _ _ _ w h1 k1 k2]
        cases r1
        · simp
        · simpa using eqIs_sound hn heq hx hy w k (i + 1) r2 h2
      · cases h
    · cases h
theorem evEq_sound {P : Program} {ρ : Env} : ∀ (d m t:Nat) (x y : SV) (b : Bool) (vx vy : Value) (w : World), evEq P d t x y = some b → Rel ρ x vx → Rel ρ y vy →
    (Op.equalIn (d + m) t vx vy).run P w = .ok b w
  | 0, m, t, x, y, b, vx, vy, w, h, _, _ => by simp [evEq] at h
  | d + 1, m, t, x, y, b, vx, vy, w, h, hx, hy => by
    have e1 : d + 1 + m = (d + m) + 1 := by omega
    rw [e1]
    simp only [evEq] at h
    split at h
    · rename_i ht; cases h; simp only [Rel] at hx hy; subst hx hy; exact run_equalIn_bool w _ t _ _ ht
    · rename_i ht
      split at h
      · rename_i hk; cases h; simp only [Rel] at hx hy; subst hx hy hk; exact run_equalIn_int w _ t _ _ _ _ ht
      · cases h
    · rename_i ht; cases h; simp only [Rel] at hx hy; subst hx hy; simp [Op.equalIn, run_underlying ht]
    · rename_i ht; cases h; simp only [Rel] at hx hy; subst hx hy; simp [Op.equalIn, run_underlying ht]
    · rename_i ht; cases h; simp only [Rel] at hx hy; obtain ⟨l, _, rfl⟩ := hy; subst hx; simp [Op.equalIn, run_underlying ht]
    · rename_i ht; cases h; simp only [Rel] at hx hy; obtain ⟨l, _, rfl⟩ := hx; subst hy; simp [Op.equalIn, run_underlying ht]
    · rename_i ht; cases h; simp only [Rel] at hx hy; subst hx hy; simp [Op.equalIn, run_underlying ht]
    · rename_i ht; cases h; simp only [Rel] at hx hy; subst hx hy; simp [Op.equalIn, run_underlying ht]
    · rename_i ht; cases h; simp only [Rel] at hx hy; obtain ⟨l, rfl, _⟩ := hy; subst hx; simp [Op.equalIn, run_underlying ht]
    · rename_i ht; cases h; simp only [Rel] at hx hy; obtain ⟨l, rfl, _⟩ := hx; subst hy; simp [Op.equalIn, run_underlying ht]
    · rename_i fs xs ys ht
      split at h
      · cases h
      · rename_i hs
        obtain ⟨cs, rfl, hcs⟩ := hx
        obtain ⟨ds, rfl, hds⟩ := hy
        have hf : P.fieldsOf t = fs := by simp [Program.fieldsOf, ht]
        rw [run_equalIn_struct w (d + m) t _ _ (by rw [hf]; exact ht) (by simpa using hs), hf]
        exact eqFs_sound (fun t x y b vx vy w h1 h2 h3 => evEq_sound d m t x y b vx vy w h1 h2 h3) hcs hds w _ _ h
    · rename_i len e xs ys ht
      split at h
      · rename_i n hn
        obtain ⟨cs, rfl, hcs⟩ := hx
        obtain ⟨ds, rfl, hds⟩ := hy
        have := eqIs_sound (D := d + m) hn (fun x y b vx vy w h1 h2 h3 => evEq_sound d m e x y b vx vy w h1 h2 h3) hcs hds w len 0 b h
        simp only [Op.equalIn, Sem.run_bind, run_underlying ht, Result.andThen_ok, run_sizeOf hn]
        rw [Std.Legacy.Range.forIn_eq_forIn_range']
        simp only [Std.Legacy.Range.size, Nat.sub_zero, Nat.add_sub_cancel, Nat.div_one]
        rw [this]
        cases b <;> simp
      · cases h
    · cases h
end Go.Sx

namespace Go.Sx
open Go.RowKit
def cnd {α : Type} (c : Bool) (a b : α) : α := match c with
  | true => a
  | false => b

/-! ### Operators -/
def binInt (op : BinOp) (k : IntKind) (a b:Int) : Option (SV × Option Prop) :=
  match op with
  | .add => some (.int k (k.wrap (a + b)), none)
  | .sub => some (.int k (k.wrap (a - b)), none)
  | .mul => some (.int k (k.wrap (a * b)), none)
  | .quo => some (.int k (k.wrap (a.tdiv b)), some (b ≠ 0))
  | .rem => some (.int k (a.tmod b), some (b ≠ 0))
  | .and => some (.int k (bits .and k a b), none)
  | .or => some (.int k (bits .or k a b), none)
  | .xor => some (.int k (bits .xor k a b), none)
  | .andNot => some (.int k (bits .andNot k a b), none)
  | .eql => some (.bool (a == b), none)
  | .neq => some (.bool (a != b), none)
  | .lss => some (.bool (decide (a < b)), none)
  | .leq => some (.bool (decide (a ≤ b)), none)
  | .gtr => some (.bool (decide (a > b)), none)
  | .geq => some (.bool (decide (a ≥ b)), none)
  | _ => none
def binStr (op : BinOp) (a b : ByteArray) : Option (SV × Option Prop) :=
  match op with
  | .add => some (.str (a ++ b), some (a.size + b.size ≤ 9223372036854775807))
  | .eql => some (.bool (a.toList == b.toList), none)
  | .neq => some (.bool (!(a.toList == b.toList)), none)
  | _ => none
def plainEq (x y : SV) : Bool :=
  match x, y with
  | .bool _, .bool _ => true
  | .nilp, .nilp => true
  | .nilp, .ptr _ _ => true
  | .ptr _ _, .nilp => true
  | .nils, .nils => true
  | .ifc _ _, .nili => true
  | .nili, .ifc _ _ => true
  | _, _ => false
def emptyI (P : Program) (t:Nat) : Bool := match P.underlying t with
  | some (.interface ms) => ms.toList.isEmpty
  | _ => false
def sliceT (P : Program) (t:Nat) : Bool := match P.underlying t with
  | some (.slice _) => true
  | _ => false
def evBin (P : Program) (op : BinOp) (t:Nat) (x y : SV) : Option (SV × Option Prop) :=
  match op, x, y with
  | .shl, .int k a, .int _ b => some (.int k (k.wrap (a * 2 ^ (min b.toNat k.bits))), some (0 ≤ b))
  | .shr, .int k a, .int _ b => some (.int k (a.fdiv (2 ^ (min b.toNat k.bits))), some (0 ≤ b))
  | op, .int k a, .int k' b => if k = k' then binInt op k a b else none
  | op, .str a, .str b => binStr op a b
  | .eql, .agg xs, .agg ys => if P.eqGuardType P.depth t then none else
    match evEq P 8 t (.agg xs) (.agg ys) with
    | some b => some (.bool b, none)
    | none => none
  | .neq, .agg xs, .agg ys => if P.eqGuardType P.depth t then none else
    match evEq P 8 t (.agg xs) (.agg ys) with
    | some b => some (.bool (!b), none)
    | none => none
  | .eql, .slc _ _ _ len, .nils => match sliceT P t with
    | true => some (.bool false, some (0 < len))
    | false => none
  | .neq, .slc _ _ _ len, .nils => match sliceT P t with
    | true => some (.bool true, some (0 < len))
    | false => none
  | .eql, .nili, .nili => match emptyI P t with
    | true => some (.bool true, none)
    | false => none
  | .neq, .nili, .nili => match emptyI P t with
    | true => some (.bool false, none)
    | false => none
  | .eql, x, y => match plainEq x y with
    | true => match evEq P 8 t x y with
      | some b => some (.bool b, none)
      | none => none
    | false => none
  | .neq, x, y => match plainEq x y with
    | true => match evEq P 8 t x y with
      | some b => some (.bool (!b), none)
      | none => none
    | false => none
  | _, _, _ => none

section
variable {P : Program} {ρ : Env}

theorem evEq_run {t : Nat} {x y : SV} {b : Bool} {vx vy : Value} (w : World) (h : evEq P 8 t x y = some b) (hx : Rel ρ x vx) (hy : Rel ρ y vy) : (Op.equal t vx vy).run P w = .ok b w :=
  evEq_sound 8 9992 t x y b vx vy w h hx hy

theorem binInt_sound {op : BinOp} {k : IntKind} {a b : Int} {r : SV} {need : Option Prop} (h : binInt op k a b = some (r, need)) (hn : Nd need) (t:Nat) (w : World) (hs : op ≠ .shl) (hs' : op ≠ .shr) :
    ∃ v, (binOp op t (.int k a) (.int k b)).run P w = .ok v w ∧ Rel ρ r v := by
  cases op <;> simp only [binInt, Option.some.injEq, Prod.mk.injEq, reduceCtorEq] at h <;> try exact absurd rfl hs
  all_goals try exact absurd rfl hs'
  all_goals obtain ⟨rfl, rfl⟩ := h
  case quo => have hn : b ≠ 0 := hn; exact ⟨_, by simp [binOp, Op.intDiv, hn], rfl⟩
  case rem => have hn : b ≠ 0 := hn; exact ⟨_, by simp [binOp, Op.intDiv, hn], rfl⟩
  all_goals exact ⟨_, by simp [binOp, Op.intArith, Op.intCmp, intBits_and, intBits_or, intBits_xor, intBits_andNot], rfl⟩

theorem plainEq_run {x y : SV} {vx vy : Value} (h : plainEq x y = true) (hx : Rel ρ x vx) (hy : Rel ρ y vy) (op : BinOp) (t:Nat) (ox oy : Operand) (w : World) :
    (eqGuard op t ox oy vx vy).run P w = .ok () w ∧ binOp .eql t vx vy = (do pure (.bool (← Op.equal t vx vy))) := by
  cases x <;> cases y <;> simp only [plainEq, Bool.false_eq_true] at h <;> simp only [Rel] at hx hy
  all_goals first
    | (obtain ⟨_, _, rfl⟩ := hx; subst hy)
    | (obtain ⟨_, rfl, _⟩ := hx; subst hy)
    | (obtain ⟨_, _, rfl⟩ := hy; subst hx)
    | (obtain ⟨_, rfl, _⟩ := hy; subst hx)
    | (subst hx hy)
  all_goals exact ⟨by cases op <;> simp [eqGuard], rfl⟩
theorem plainEq_run' {x y : SV} {vx vy : Value} (h : plainEq x y = true) (hx : Rel ρ x vx) (hy : Rel ρ y vy) (op : BinOp) (t:Nat) (ox oy : Operand) (w : World) :
    (eqGuard op t ox oy vx vy).run P w = .ok () w ∧ binOp .neq t vx vy = (do pure (.bool (!(← Op.equal t vx vy)))) := by
  cases x <;> cases y <;> simp only [plainEq, Bool.false_eq_true] at h <;> simp only [Rel] at hx hy
  all_goals first
    | (obtain ⟨_, _, rfl⟩ := hx; subst hy)
    | (obtain ⟨_, rfl, _⟩ := hx; subst hy)
    | (obtain ⟨_, _, rfl⟩ := hy; subst hx)
    | (obtain ⟨_, rfl, _⟩ := hy; subst hx)
    | (subst hx hy)
  all_goals exact ⟨by cases op <;> simp [eqGuard], rfl⟩

theorem sliceT_run {t n sz lo len : Nat} (h : sliceT P t = true) (hl : 0 < len) {vx vy : Value} (hx : Rel ρ (.slc n sz lo len) vx) (hy : Rel ρ .nils vy) (op : BinOp) (ox oy : Operand) (w : World) :
    (eqGuard op t ox oy vx vy).run P w = .ok () w ∧ (Op.equal t vx vy).run P w = .ok false w ∧ binOp .eql t vx vy = (do pure (.bool (← Op.equal t vx vy))) ∧ binOp .neq t vx vy = (do pure (.bool (!(← Op.equal t vx vy)))) := by
  simp only [Rel] at hy; subst hy
  unfold sliceT at h
  split at h
  · rename_i e he
    obtain ⟨l, _, (⟨_, _, h2, _⟩ | ⟨_, _, a, rfl, _⟩)⟩ := hx
    · omega
    · refine ⟨by cases op <;> simp [eqGuard], ?_, rfl, rfl⟩
      have eu : (Go.underlying t).run P w = .ok (.slice e) w := by simp [Go.underlying, he]
      have eg : (Op.equalIn (9999 + 1) t (.slice (some a) len (l.cap - lo)) (.slice none 0 0)).run P w = .ok false w := by rw [Op.equalIn]; simp [eu]
      exact eg
  · cases h
theorem emptyI_run {t : Nat} (h : emptyI P t = true) (op : BinOp) (ox oy : Operand) (w : World) :
    (eqGuard op t ox oy .nilIface .nilIface).run P w = .ok () w ∧ (Op.equal t .nilIface .nilIface).run P w = .ok true w := by
  unfold emptyI at h
  split at h
  · rename_i ms e
    have hm : ms.isEmpty = true := by simpa using h
    have eu : (Go.underlying t).run P w = .ok (.interface ms) w := by simp [Go.underlying, e]
    have eg : (Op.eqGuardIn (9999 + 1) t .nilIface .nilIface).run P w = .ok false w := by rw [Op.eqGuardIn]; simp [eu, hm]
    have eg : (Op.eqGuardIn Op.maxDepth t .nilIface .nilIface).run P w = .ok false w := eg
    refine ⟨?_, ?_⟩
    · have key : ∀ c : Bool, ((if c = true then pure () else do
          if ← Op.eqGuardIn Op.maxDepth t .nilIface .nilIface then unsupported (.noEntry "binop/eql: two nil values of an interface type with methods, neither of them the literal nil") : Sem Unit)).run P w = .ok () w := by
        intro c
        cases c
        · simp only [Bool.false_eq_true, if_false, Sem.run_bind, eg, Result.andThen_ok, Sem.run_pure]
        · rfl
      have key2 : ∀ d : Bool, ((if d = true then pure () else if ((match ox with | .const _ => true | _ => false) || (match oy with | .const _ => true | _ => false)) = true then pure () else do
          if ← Op.eqGuardIn Op.maxDepth t .nilIface .nilIface then unsupported (.noEntry "binop/eql: two nil values of an interface type with methods, neither of them the literal nil") : Sem Unit)).run P w = .ok () w := by
        intro d
        cases d
        · exact key _
        · rfl
      exact key2 _
    · have eg : (Op.equalIn (9999 + 1) t .nilIface .nilIface).run P w = .ok true w := by rw [Op.equalIn]; simp [eu]
      exact eg
  · cases h
theorem evBin_sound {op : BinOp} {t : Nat} {x y : SV} {r : SV} {need : Option Prop} {vx vy : Value} (h : evBin P op t x y = some (r, need)) (hn : Nd need) (hx : Rel ρ x vx) (hy : Rel ρ y vy) (ox oy : Operand) (w : World) :
    ∃ v, (do eqGuard op t ox oy vx vy; binOp op t vx vy : Sem Value).run P w = .ok v w ∧ Rel ρ r v := by
  unfold evBin at h
  split at h
  · cases h; simp only [Rel] at hx hy; subst hx hy
    have hn' : ¬ (_:Int) < 0 := Int.not_lt.2 hn
    exact ⟨_, by simp [eqGuard, binOp, Op.shift, hn'], rfl⟩
  · cases h; simp only [Rel] at hx hy; subst hx hy
    have hn' : ¬ (_:Int) < 0 := Int.not_lt.2 hn
    exact ⟨_, by simp [eqGuard, binOp, Op.shift, hn'], rfl⟩
  · rename_i op k a k' b hs1 hs2
    split at h
    · rename_i e
      subst e
      simp only [Rel] at hx hy; subst hx hy
      obtain ⟨v, e, k⟩ := binInt_sound (P := P) (ρ := ρ) h hn t w (fun e => hs1 e) (fun e => hs2 e)
      refine ⟨v, ?_, k⟩
      cases op <;> simpa [eqGuard] using e
    · cases h
  · simp only [Rel] at hx hy; subst hx hy
    rename_i a b
    cases op <;> simp only [binStr, Option.some.injEq, Prod.mk.injEq, reduceCtorEq] at h
    · obtain ⟨rfl, rfl⟩ := h
      exact ⟨_, by simp [eqGuard, binOp, run_string_add_sum w a b hn], rfl⟩
    · obtain ⟨rfl, rfl⟩ := h
      exact ⟨_, by simp [eqGuard, binOp, Op.stringOp], rfl⟩
    · obtain ⟨rfl, rfl⟩ := h
      exact ⟨_, by simp [eqGuard, binOp, Op.stringOp], rfl⟩
  · split at h
    · cases h
    · rename_i hg
      split at h
      · rename_i b hb
        cases h
        have e := evEq_run w hb hx hy
        obtain ⟨cs, rfl, _⟩ := hx
        obtain ⟨ds, rfl, _⟩ := hy
        refine ⟨.bool b, ?_, rfl⟩
        simp [run_eqGuard_agg w .eql t ox oy _ _ (by simpa using hg), binOp, e]
      · cases h
  · split at h
    · cases h
    · rename_i hg
      split at h
      · rename_i b hb
        cases h
        have e := evEq_run w hb hx hy
        obtain ⟨cs, rfl, _⟩ := hx
        obtain ⟨ds, rfl, _⟩ := hy
        refine ⟨.bool (!b), ?_, rfl⟩
        simp [run_eqGuard_agg w .neq t ox oy _ _ (by simpa using hg), binOp, e]
      · cases h
  · split at h
    · rename_i hp
      cases h
      obtain ⟨e1, e2, e3, _⟩ := sliceT_run (P := P) hp hn hx hy .eql ox oy w
      exact ⟨.bool false, by simp [e1, e2, e3], rfl⟩
    · cases h
  · split at h
    · rename_i hp
      cases h
      obtain ⟨e1, e2, _, e3⟩ := sliceT_run (P := P) hp hn hx hy .neq ox oy w
      exact ⟨.bool true, by simp [e1, e2, e3], rfl⟩
    · cases h
  · split at h
    · rename_i hp
      cases h
      have hx : vx = .nilIface := hx
      have hy : vy = .nilIface := hy
      subst hx hy
      obtain ⟨e1, e2⟩ := emptyI_run (P := P) hp .eql ox oy w
      exact ⟨.bool true, by simp [e1, binOp, e2], rfl⟩
    · cases h
  · split at h
    · rename_i hp
      cases h
      have hx : vx = .nilIface := hx
      have hy : vy = .nilIface := hy
      subst hx hy
      obtain ⟨e1, e2⟩ := emptyI_run (P := P) hp .neq ox oy w
      exact ⟨.bool false, by simp [e1, binOp, e2], rfl⟩
    · cases h
  · split at h
    · rename_i hp
      split at h
      · rename_i b hb
        cases h
        have e := evEq_run w hb hx hy
        refine ⟨.bool b, ?_, rfl⟩
        obtain ⟨e1, e2⟩ := plainEq_run (P := P) hp hx hy .eql t ox oy w
        simp [e1, e2, e]
      · cases h
    · cases h
  · split at h
    · rename_i hp
      split at h
      · rename_i b hb
        cases h
        have e := evEq_run w hb hx hy
        refine ⟨.bool (!b), ?_, rfl⟩
        obtain ⟨e1, e2⟩ := plainEq_run' (P := P) hp hx hy .neq t ox oy w
        simp [e1, e2, e]
      · cases h
    · cases h
  · cases h
end
end Go.Sx

namespace Go.Sx
open Go.RowKit

/-! ### Values merged -/
mutual
def mrg (c : Bool) : SV → SV → Option SV
  | .bool a, .bool b => some (.bool (cnd c a b))
  | .int k a, .int k' b => if k = k' then some (.int k (cnd c a b)) else none
  | .str a, .str b => some (.str (cnd c a b))
  | .ptr n o, .ptr m p => if n = m ∧ o = p then some (.ptr n o) else none
  | .elt n s i o, .elt m t j p => if n = m ∧ s = t ∧ o = p then some (.elt n s (cnd c i j) o) else none
  | .nilp, .nilp => some .nilp
  | .slc n s lo len, .slc m t lo' len' => if n = m ∧ s = t then some (.slc n s (cnd c lo lo') (cnd c len len')) else none
  | .nils, .nils => some .nils
  | .map n, .map m => if n = m then some (.map n) else none
  | .nilm, .nilm => some .nilm
  | .fn f cs, .fn g ds => if f = g then match mrgL c cs ds with
    | some l => some (.fn f l)
    | none => none
    else none
  | .nilf, .nilf => some .nilf
  | .ifc t x, .ifc u y => if t = u then match mrg c x y with
    | some v => some (.ifc t v)
    | none => none
    else none
  | .nili, .nili => some .nili
  | .agg xs, .agg ys => match mrgL c xs ys with
    | some l => some (.agg l)
    | none => none
  | .tup xs, .tup ys => match mrgL c xs ys with
    | some l => some (.tup l)
    | none => none
  | _, _ => none
def mrgL (c : Bool) : List SV → List SV → Option (List SV)
  | [], [] => some []
  | x :: xs, y :: ys => match mrg c x y, mrgL c xs ys with
    | some v, some l => some (v :: l)
    | _, _ => none
  | _, _ => none
end
mutual
theorem mrg_eq : ∀ (c : Bool) (a b v : SV), mrg c a b = some v → v = cnd c a b
  | c, a, b, v, h => by
    cases a <;> cases b <;> simp only [mrg, reduceCtorEq, Option.some.injEq] at h
    all_goals try (subst h; cases c <;> rfl)
    all_goals
      split at h
      all_goals try (cases h; done)
    case int.int e => subst e; cases h; cases c <;> rfl
    case ptr.ptr e => obtain ⟨rfl, rfl⟩ := e; cases h; cases c <;> rfl
    case elt.elt e => obtain ⟨rfl, rfl, rfl⟩ := e; cases h; cases c <;> rfl
    case slc.slc e => obtain ⟨rfl, rfl⟩ := e; cases h; cases c <;> rfl
    case map.map e => subst e; cases h; cases c <;> rfl
    case fn.fn e =>
      subst e
      split at h
      · rename_i l hl; cases h; rw [mrgL_eq _ _ _ _ hl]; cases c <;> rfl
      · cases h
    case ifc.ifc e =>
      subst e
      split at h
      · rename_i l hl; cases h; rw [mrg_eq _ _ _ _ hl]; cases c <;> rfl
      · cases h
    all_goals
      rename_i l hl
      cases h
      rw [mrgL_eq _ _ _ _ hl]
      cases c <;> rfl
theorem mrgL_eq : ∀ (c : Bool) (xs ys l : List SV), mrgL c xs ys = some l → l = cnd c xs ys
  | c, [], [], l, h => by cases h; cases c <;> rfl
  | c, x :: xs, y :: ys, l, h => by
    simp only [mrgL] at h
    split at h
    · rename_i v l' h1 h2
      cases h
      rw [mrg_eq _ _ _ _ h1, mrgL_eq _ _ _ _ h2]
      cases c <;> rfl
    · cases h
  | c, [], y :: ys, l, h => by cases h
  | c, x :: xs, [], l, h => by cases h
end

def rowSet (c : Bool) (xs ys : List SV) : List SV := match mrgL c xs ys with
  | some l => l
  | none => cnd c xs ys
theorem rowSet_eq {c : Bool} {xs ys : List SV} : rowSet c xs ys = cnd c xs ys := by
  unfold rowSet
  split
  · rename_i l h; exact mrgL_eq _ _ _ _ h
  · rfl

/-! ### Uniform rows, picked from at an open index -/
def boolsOf : List SV → Option (List Bool)
  | [] => some []
  | .bool b :: l => match boolsOf l with
    | some bs => some (b :: bs)
    | none => none
  | _ => none
def intsOf (k : IntKind) : List SV → Option (List Int)
  | [] => some []
  | .int k' x :: l => if k = k' then match intsOf k l with
    | some xs => some (x :: xs)
    | none => none
    else none
  | _ => none
def strsOf : List SV → Option (List ByteArray)
  | [] => some []
  | .str b :: l => match strsOf l with
    | some bs => some (b :: bs)
    | none => none
  | _ => none
theorem strsOf_eq : ∀ {l : List SV} {bs : List ByteArray}, strsOf l = some bs → l = bs.map SV.str
  | [], bs, h => by simp [strsOf] at h; subst h; rfl
  | x :: l, bs, h => by
    cases x <;> simp only [strsOf, reduceCtorEq] at h
    split at h
    · rename_i cs e; cases h; simp [← strsOf_eq e]
    · cases h
def selU (xs : List SV) (i:Nat) : Option SV :=
  match xs with
  | .bool b :: l => match boolsOf (.bool b :: l) with
    | some bs => some (.bool (bs.getD i false))
    | none => none
  | .int k x :: l => match intsOf k (.int k x :: l) with
    | some ys => some (.int k (ys.getD i 0))
    | none => none
  | .str b :: l => match strsOf (.str b :: l) with
    | some bs => some (.str (bs.getD i b))
    | none => none
  | _ => none
theorem boolsOf_eq : ∀ {l : List SV} {bs : List Bool}, boolsOf l = some bs → l = bs.map SV.bool
  | [], bs, h => by simp [boolsOf] at h; subst h; rfl
  | x :: l, bs, h => by
    cases x <;> simp only [boolsOf, reduceCtorEq] at h
    split at h
    · rename_i cs e; cases h; simp [← boolsOf_eq e]
    · cases h
theorem intsOf_eq {k : IntKind} : ∀ {l : List SV} {xs : List Int}, intsOf k l = some xs → l = xs.map (SV.int k)
  | [], xs, h => by simp [intsOf] at h; subst h; rfl
  | x :: l, xs, h => by
    cases x <;> simp only [intsOf, reduceCtorEq] at h
    split at h
    · rename_i ek
      subst ek
      split at h
      · rename_i cs e; cases h; simp [← intsOf_eq e]
      · cases h
    · cases h
theorem selU_eq {xs : List SV} {i : Nat} {x : SV} (h : selU xs i = some x) (hi : i < xs.length) : xs[i]? = some x := by
  unfold selU at h
  split at h
  · split at h
    · rename_i bs e
      cases h
      have e' := boolsOf_eq e
      rw [e'] at hi ⊢
      simp at hi
      simp [List.getElem?_eq_getElem hi, List.getD_eq_getElem?_getD]
    · cases h
  · split at h
    · rename_i bs e
      cases h
      have e' := intsOf_eq e
      rw [e'] at hi ⊢
      simp at hi
      simp [List.getElem?_eq_getElem hi, List.getD_eq_getElem?_getD]
    · cases h
  · split at h
    · rename_i bs e
      cases h
      have e' := strsOf_eq e
      rw [e'] at hi ⊢
      simp at hi
      simp [List.getElem?_eq_getElem hi, List.getD_eq_getElem?_getD]
    · cases h
  · cases h

/-! ### Unary, conversions -/
def evUn (op : UnOp) (x : SV) : Option SV :=
  match op, x with
  | .neg, .int k n => some (.int k (k.wrap (0 - n)))
  | .xor, .int k n => some (.int k (bits .xor k (if k.signed then -1 else k.max) n))
  | .not, .bool b => some (.bool (!b))
  | _, _ => none
def evConv (P : Program) (s d:Nat) (x : SV) : Option SV :=
  match P.underlying s, P.underlying d, x with
  | some _, some (.int k), .int _ n => some (.int k (k.wrap n))
  | some .string, some .string, .str b => some (.str b)
  | _, _, _ => none

def fieldOff (P : Program) (s f:Nat) : Option Nat :=
  match P.underlying s with
  | some (.struct fs) => match fs[f]? with
    | some f => match sizeT P f.type with
      | some (_ + 1) => some f.offset
      | _ => none
    | none => none
  | _ => none
def evField (P : Program) (t:Nat) (x : SV) (f:Nat) : Option SV :=
  match P.underlying t, x with
  | some (.struct fs), .agg xs => match fs[f]? with
    | some f => partS P f.type xs f.offset
    | none => none
  | _, _ => none

def byteAt (s : ByteArray) (i:Nat) : Int := if h : i < s.size then ((s[i]'h).toNat:Int) else 0

def evIndex (P : Program) (t:Nat) (x ix : SV) : Option (SV × Option Prop) :=
  match P.underlying t, x, ix with
  | some (.array len e), .agg xs, .int _ i => match aggT P e, sizeT P e with
    | some false, some 1 => match selU xs i.toNat with
      | some v => some (v, some (0 ≤ i ∧ i < len ∧ i.toNat < xs.length))
      | none => none
    | some true, some n => some (.agg ((xs.drop (i.toNat * n)).take n), some (0 ≤ i ∧ i < len))
    | _, _ => none
  | some .string, .str s, .int _ i => some (.int .u8 (byteAt s i.toNat), some (0 ≤ i ∧ i < s.size))
  | _, _, _ => none
def evIndexAddr (P : Program) (t:Nat) (x ix : SV) : Option (SV × Option Prop) :=
  match P.underlying t, x, ix with
  | some (.array len e), .ptr n off, .int _ i => match sizeT P e with
    | some sz => some (.elt n sz i.toNat off, some (0 ≤ i ∧ i < len))
    | none => none
  | some (.slice e), .slc n sz lo len, .int _ i => match sizeT P e with
    | some sz' => if sz = sz' then some (.elt n sz (lo + i.toNat) 0, some (0 ≤ i ∧ i < len)) else none
    | none => none
  | some (.slice _), .nils, .int _ _ => some (.nilp, some False)
  | _, _, _ => none

def evAssert (P : Program) (x : SV) (t:Nat) (commaOk : Bool) : Option SV :=
  match P.underlying t, x, commaOk with
  | some (.interface _), _, _ => none
  | some _, .ifc u v, true => if u = t then some (.tup [v, .bool true]) else
    match P.info? t with
    | some i => match i.zero with
      | some z => match ofValue z with
        | some y => some (.tup [y, .bool false])
        | none => none
      | none => none
    | none => none
  | some _, .nili, true =>
    match P.info? t with
    | some i => match i.zero with
      | some z => match ofValue z with
        | some y => some (.tup [y, .bool false])
        | none => none
      | none => none
    | none => none
  | some _, .ifc u v, false => if u = t then some v else none
  | _, _, _ => none

section
variable {P : Program} {ρ : Env}

theorem evUn_sound {op : UnOp} {x r : SV} {vx : Value} (h : evUn op x = some r) (hx : Rel ρ x vx) (w : World) : ∃ v, (Op.unary op vx).run P w = .ok v w ∧ Rel ρ r v := by
  unfold evUn at h
  split at h
  · cases h; simp only [Rel] at hx; subst hx; exact ⟨_, by simp [Op.unary, Op.intArith], rfl⟩
  · cases h; simp only [Rel] at hx; subst hx; exact ⟨_, by simp [Op.unary, intBits_xor], rfl⟩
  · cases h; simp only [Rel] at hx; subst hx; exact ⟨_, by simp [Op.unary], rfl⟩
  · cases h
theorem evConv_sound {s d : Nat} {x r : SV} {vx : Value} (h : evConv P s d x = some r) (hx : Rel ρ x vx) (w : World) : ∃ v, (convert s d vx).run P w = .ok v w ∧ Rel ρ r v := by
  unfold evConv at h
  split at h
  · rename_i hs hd
    cases h; simp only [Rel] at hx; subst hx
    exact ⟨_, by simp [convert, run_underlying hs, run_underlying hd, Conv.intToInt], rfl⟩
  · rename_i hs hd
    cases h; simp only [Rel] at hx; subst hx
    exact ⟨_, by simp [convert, run_underlying hs, run_underlying hd], rfl⟩
  · cases h

theorem add_addr (b o n:Nat) : (⟨b, o, none⟩ : Addr).add n = ⟨b, o + n, none⟩ := by
  unfold Addr.add
  split
  · rename_i e; subst e; rfl
  · rfl

theorem fieldOff_sound {s f o : Nat} {b off : Nat} (h : fieldOff P s f = some o) (w : World) : (Instr.fieldAt s (.pointer (some ⟨b, off, none⟩)) f).run P w = .ok (.pointer (some ⟨b, off + o, none⟩)) w := by
  unfold fieldOff at h
  split at h
  · rename_i fs hs
    split at h
    · rename_i fl hf
      split at h
      · rename_i m hm
        cases h
        simp [Instr.fieldAt, run_underlying hs, hf, Instr.sureAddr, fieldPlace, run_sizeOf hm, add_addr]
      · cases h
    · cases h
  · cases h
theorem evField_sound {t f : Nat} {x r : SV} {vx : Value} (h : evField P t x f = some r) (hx : Rel ρ x vx) (w : World) : ∃ v, (Instr.field t vx f).run P w = .ok v w ∧ Rel ρ r v := by
  unfold evField at h
  split at h
  · rename_i fs xs hs
    obtain ⟨cs, rfl, hcs⟩ := hx
    split at h
    · rename_i fl hf
      obtain ⟨v, e, k⟩ := run_part h hcs w
      exact ⟨v, by simp [Instr.field, run_underlying hs, hf, asAgg, e], k⟩
    · cases h
  · cases h

theorem evIndex_sound {t : Nat} {x ix r : SV} {need : Option Prop} {vx vi : Value} (h : evIndex P t x ix = some (r, need)) (hn : Nd need) (hx : Rel ρ x vx) (hi : Rel ρ ix vi) (w : World) :
    ∃ v, (Instr.index t vx vi).run P w = .ok v w ∧ Rel ρ r v := by
  unfold evIndex at h
  split at h
  · rename_i len e xs k i ht
    obtain ⟨cs, rfl, hcs⟩ := hx
    simp only [Rel] at hi; subst hi
    split at h
    · rename_i ha hz
      split at h
      · rename_i v hv
        cases h
        obtain ⟨h0, h1, h2⟩ := hn
        obtain ⟨u, hu, ku⟩ := hcs.get (selU_eq hv h2)
        refine ⟨u, ?_, ku⟩
        simp [Instr.index, asIntOf, run_underlying ht, h0, h1, run_sizeOf hz, part, run_isAgg ha, hu]
      · cases h
    · rename_i n ha hz
      cases h
      obtain ⟨h0, h1⟩ := hn
      refine ⟨.agg (cs.toArray.extract (i.toNat * n) (i.toNat * n + n)), ?_, (cs.drop (i.toNat * n)).take n, ?_, (hcs.drop _).take _⟩
      · simp [Instr.index, asIntOf, run_underlying ht, h0, h1, run_sizeOf hz, part, run_isAgg ha]
      · congr 1
        apply Array.toList_inj.1
        simp [List.extract_eq_take_drop]
    · cases h
  · rename_i s k i ht
    cases h
    simp only [Rel] at hx hi; subst hx hi
    obtain ⟨h0, h1⟩ := hn
    have hlt : i.toNat < s.size := by omega
    refine ⟨.int .u8 (byteAt s i.toNat), ?_, rfl⟩
    simp [Instr.index, asIntOf, run_underlying ht, h0, byteAt, hlt]
  · cases h

theorem evIndexAddr_sound {t : Nat} {x ix r : SV} {need : Option Prop} {vx vi : Value} (h : evIndexAddr P t x ix = some (r, need)) (hn : Nd need) (hx : Rel ρ x vx) (hi : Rel ρ ix vi) (w : World) :
    ∃ v, (Instr.indexAt t vx vi).run P w = .ok v w ∧ Rel ρ r v := by
  unfold evIndexAddr at h
  split at h
  · rename_i len e n off k i ht
    obtain ⟨l, hl, rfl⟩ := hx
    simp only [Rel] at hi; subst hi
    split at h
    · rename_i sz hz
      cases h
      obtain ⟨h0, h1⟩ := hn
      refine ⟨.pointer (some ⟨l.blk, l.off + (i.toNat * sz + off), none⟩), ?_, l, hl, rfl⟩
      simp [Instr.indexAt, asIntOf, run_underlying ht, Instr.sureAddr, h0, h1, run_sizeOf hz, add_addr, Nat.add_assoc, Nat.add_comm, Nat.add_left_comm]
    · cases h
  · rename_i e n sz lo len k i ht
    obtain ⟨l, hl, hv⟩ := hx
    simp only [Rel] at hi; subst hi
    split at h
    · rename_i sz' hz
      split at h
      · rename_i es
        subst es
        cases h
        obtain ⟨h0, h1⟩ := hn
        rcases hv with ⟨_, _, h2, _⟩ | ⟨_, h2, a, rfl, ha⟩
        · omega
        · have := ha (by omega)
          subst this
          refine ⟨.pointer (some ⟨l.blk, l.off + ((lo + i.toNat) * sz + 0), none⟩), ?_, l, hl, rfl⟩
          simp [Instr.indexAt, asIntOf, run_underlying ht, h0, h1, run_sizeOf hz, add_addr, Nat.add_mul, Nat.add_assoc]
      · cases h
    · cases h
  · cases h; exact hn.elim
  · cases h

theorem evAssert_sound {x r : SV} {xt t : Nat} {ok : Bool} {vx : Value} (h : evAssert P x t ok = some r) (hx : Rel ρ x vx) (w : World) :
    ∃ v, (Instr.typeAssert vx xt t ok).run P w = .ok v w ∧ Rel ρ r v := by
  unfold evAssert at h
  split at h
  · cases h
  · rename_i d u y h1 h2
    obtain ⟨v, rfl, hv⟩ := hx
    split at h
    · rename_i e
      subst e
      cases h
      refine ⟨.tuple #[v, .bool true], ?_, [v, .bool true], rfl, v, [.bool true], rfl, hv, .bool true, [], rfl, rfl, rfl⟩
      simp only [Instr.typeAssert, Sem.run_bind, run_underlying h2, Result.andThen_ok]
      cases d <;> first | exact absurd rfl (h1 _) | simp
    · rename_i e
      split at h
      · rename_i i hi
        split at h
        · rename_i z hz
          split at h
          · rename_i y' hy
            cases h
            refine ⟨.tuple #[z, .bool false], ?_, [z, .bool false], rfl, z, [.bool false], rfl, ofValue_rel hy ρ, .bool false, [], rfl, rfl, rfl⟩
            simp only [Instr.typeAssert, Sem.run_bind, run_underlying h2, Result.andThen_ok]
            cases d <;> first | exact absurd rfl (h1 _) | simp [e, zeroValue, typeInfo, hi, hz]
          · cases h
        · cases h
      · cases h
  · rename_i d h1 h2
    simp only [Rel] at hx; subst hx
    split at h
    · rename_i i hi
      split at h
      · rename_i z hz
        split at h
        · rename_i y' hy
          cases h
          refine ⟨.tuple #[z, .bool false], ?_, [z, .bool false], rfl, z, [.bool false], rfl, ofValue_rel hy ρ, .bool false, [], rfl, rfl, rfl⟩
          simp only [Instr.typeAssert, Sem.run_bind, run_underlying h2, Result.andThen_ok]
          cases d <;> first | exact absurd rfl (h1 _) | simp [zeroValue, typeInfo, hi, hz]
        · cases h
      · cases h
    · cases h
  · rename_i d u y h1 h2
    obtain ⟨v, rfl, hv⟩ := hx
    split at h
    · rename_i e
      subst e
      cases h
      refine ⟨v, ?_, hv⟩
      simp only [Instr.typeAssert, Sem.run_bind, run_underlying h2, Result.andThen_ok]
      cases d <;> first | exact absurd rfl (h1 _) | simp
    · cases h
  · cases h
end
end Go.Sx

namespace Go.Sx
open Go.RowKit

/-! ### Loads and stores -/
def evLoad {R : Type} (P : Program) (t:Nat) (h : List (HO R)) (a : SV) : Option (SV × Option Prop) :=
  match a with
  | .ptr n off => match h[n]? with
    | some (.cells _ xs) => match aggT P t, sizeT P t with
      | some true, some s => if ((xs.drop off).take s).length = s then some (.agg ((xs.drop off).take s), none) else none
      | some false, _ => match xs[off]? with
        | some x => some (x, none)
        | none => none
      | _, _ => none
    | _ => none
  | .elt n sz i off => match h[n]? with
    | some (.cells _ xs) => match aggT P t, sizeT P t with
      | some true, some s => if ((xs.drop (i * sz + off)).take s).length = s then some (.agg ((xs.drop (i * sz + off)).take s), none) else none
      | some false, _ => if sz = 1 then match selU (xs.drop off) i with
        | some x => some (x, some (i < (xs.drop off).length))
        | none => none
        else none
      | _, _ => none
    | some (.row _ sz' len el) => if sz = sz' then match aggT P t, sizeT P t with
      | some true, some s => if (((el i).drop off).take s).length = s then some (.agg (((el i).drop off).take s), some (i < len)) else none
      | some false, _ => match (el i)[off]? with
        | some x => some (x, some (i < len))
        | none => none
      | _, _ => none
      else none
    | some (.ro _ sz' len el _) => if sz = sz' then match aggT P t, sizeT P t with
      | some true, some s => if (((el i).drop off).take s).length = s then some (.agg (((el i).drop off).take s), some (i < len)) else none
      | some false, _ => match (el i)[off]? with
        | some x => some (x, some (i < len))
        | none => none
      | _, _ => none
      else none
    | _ => none
  | .nilp => match P.info? t with
    | some i => match i.zero with
      | some z => match ofValue z with
        | some y => some (y, some False)
        | none => none
      | none => none
    | none => none
  | _ => none

def splice (xs : List SV) (off:Nat) (vs : List SV) : List SV := xs.take off ++ vs ++ xs.drop (off + vs.length)
def one : SV → Bool
  | .agg _ => false
  | .tup _ => false
  | _ => true
def ones : List SV → Bool
  | [] => true
  | x :: xs => match one x with
    | true => ones xs
    | false => false
def setB (i:Nat) (b : Bool) : Nat → List Bool → List SV
  | _, [] => []
  | j, x :: xs => .bool (cnd (Nat.beq i j) b x) :: setB i b (j + 1) xs
def selS (xs : List SV) (i:Nat) (v : SV) (sz off:Nat) : Option (List SV) :=
  match v, sz, off with
  | .bool b, 1, 0 => match boolsOf xs with
    | some bs => some (setB i b 0 bs)
    | none => none
  | _, _, _ => none
theorem setB_get {i : Nat} {b : Bool} : ∀ {xs : List Bool} {j k : Nat}, (setB i b j xs)[k]? = (xs[k]?).map fun x => SV.bool (if i = j + k then b else x)
  | [], j, k => by simp [setB]
  | x :: xs, j, 0 => by
    simp only [setB, List.getElem?_cons_zero, Option.map_some, Nat.add_zero]
    by_cases h : i = j
    · subst h; simp [cnd]
    · have : Nat.beq i j = false := by
        cases hb : Nat.beq i j with
        | false => rfl
        | true => exact absurd (Nat.eq_of_beq_eq_true hb) h
      rw [this]
      simp [h, cnd]
  | x :: xs, j, k + 1 => by
    simp only [setB, List.getElem?_cons_succ]
    rw [setB_get]
    simp only [show j + 1 + k = j + (k + 1) by omega]
theorem selS_eq {xs ys : List SV} {i : Nat} {v : SV} {sz off : Nat} (h : selS xs i v sz off = some ys) (hi : i < xs.length) : ys = splice xs (i * sz + off) v.cells ∧ i * sz + off + v.cells.length ≤ xs.length := by
  unfold selS at h
  split at h
  · rename_i b
    split at h
    · rename_i bs hb
      cases h
      have e := boolsOf_eq hb
      subst e
      simp at hi
      refine ⟨?_, by simp [SV.cells]; omega⟩
      apply List.ext_getElem?
      intro k
      rw [setB_get]
      simp only [splice, SV.cells, Nat.mul_one, Nat.add_zero, Nat.zero_add]
      grind
    · cases h
  · cases h
def evStore {R : Type} (P : Program) (t:Nat) (h : List (HO R)) (a v : SV) : Option (List (HO R) × Option Prop) :=
  match sizeT P t, ones v.cells with
  | some s, true => if v.cells.length = s then
    match a with
    | .ptr n off => match h[n]? with
      | some (.cells u xs) => if off + v.cells.length ≤ xs.length then some (h.set n (.cells u (splice xs off v.cells)), none) else none
      | _ => none
    | .elt n sz i off => match h[n]? with
      | some (.cells u xs) => match selS xs i v sz off with
        | some ys => some (h.set n (.cells u ys), some (i < xs.length))
        | none => if i * sz + off + v.cells.length ≤ xs.length then some (h.set n (.cells u (splice xs (i * sz + off) v.cells)), none) else none
      | some (.row u sz' len el) => if sz = sz' then if off + v.cells.length ≤ (el i).length then
        some (h.set n (.row u sz len fun j => rowSet (Nat.beq j i) (splice (el i) off v.cells) (el j)), some (i < len ∧ (el i).length = sz)) else none else none
      | _ => none
    | _ => none
    else none
  | _, _ => none

section
variable {P : Program} {T : Theory} {K : Nat → Prop} {w0 w : World} {ρ : Env} {h : List (HO T.R)}

theorem cell_of {w : World} {b t : Nat} {fr : Nat × Nat} {cs : List Value} (hb : w.heap[b]? = some (.cells cs.toArray t fr)) (o:Nat) : w.cell? ⟨b, o, none⟩ = cs[o]? := by
  simp [World.cell?, hb]
theorem run_loadVar_one {t : Nat} {b o : Nat} {v : Value} (ha : aggT P t = some false) (hc : w.cell? ⟨b, o, none⟩ = some v) : (loadVar t ⟨b, o, none⟩).run P w = .ok v w := by
  simp [loadVar, run_isAgg ha, run_load, hc]
theorem run_loadVar_agg {t s : Nat} {b o u : Nat} {fr : Nat × Nat} {cs : List Value} (ha : aggT P t = some true) (hs : sizeT P t = some s) (hb : w.heap[b]? = some (.cells cs.toArray u fr))
    (hl : ((cs.drop o).take s).length = s) : (loadVar t ⟨b, o, none⟩).run P w = .ok (.agg ((cs.drop o).take s).toArray) w := by
  have := run_loadCells_list (P := P) w ⟨b, o, none⟩ ((cs.drop o).take s) (by
    intro j v hv
    rw [add_addr, cell_of hb]
    rw [List.getElem?_take] at hv
    split at hv
    · simpa using hv
    · cases hv)
  rw [hl] at this
  simp [loadVar, run_isAgg ha, run_sizeOf hs, this]

theorem evLoad_sound {t : Nat} {a r : SV} {need : Option Prop} {va : Value} (H : evLoad P t h a = some (r, need)) (hn : Nd need) (I : Inv T K w0 ρ h w) (ha : Rel ρ a va) :
    ∃ v, (Instr.loadAt t va).run P w = .ok v w ∧ Rel ρ r v := by
  unfold evLoad at H
  split at H
  · rename_i n off
    obtain ⟨l, hl, rfl⟩ := ha
    split at H
    · rename_i u xs ho
      obtain ⟨l', F, hl', ⟨hz0, _, cs, hc, hr⟩, _, _⟩ := I.opens ho
      rw [hl] at hl'; cases hl'
      simp only [hz0, Nat.zero_add]
      split at H
      · rename_i s e1 e2
        split at H
        · rename_i e
          cases H
          refine ⟨_, ?_, _, rfl, (hr.drop off).take s⟩
          have := run_loadVar_agg (P := P) (o := off) e1 e2 hc (by rw [((hr.drop off).take s).length]; exact e)
          simpa [Instr.loadAt, Instr.sureAddr] using this
        · cases H
      · rename_i e1
        split at H
        · rename_i x hx
          cases H
          obtain ⟨v, hv, k⟩ := hr.get hx
          refine ⟨v, ?_, k⟩
          simpa [Instr.loadAt, Instr.sureAddr] using run_loadVar_one (P := P) e1 (by rw [cell_of hc]; exact hv)
        · cases H
      · cases H
    · cases H
  · rename_i n sz i off
    obtain ⟨l, hl, rfl⟩ := ha
    split at H
    · rename_i u xs ho
      obtain ⟨l', F, hl', ⟨hz0, _, cs, hc, hr⟩, _, _⟩ := I.opens ho
      rw [hl] at hl'; cases hl'
      simp only [hz0, Nat.zero_add]
      split at H
      · rename_i s e1 e2
        split at H
        · rename_i e
          cases H
          refine ⟨_, ?_, _, rfl, (hr.drop (i * sz + off)).take s⟩
          have := run_loadVar_agg (P := P) (o := i * sz + off) e1 e2 hc (by rw [((hr.drop (i * sz + off)).take s).length]; exact e)
          simpa [Instr.loadAt, Instr.sureAddr] using this
        · cases H
      · rename_i e1
        split at H
        · rename_i e
          subst e
          split at H
          · rename_i x hx
            cases H
            obtain ⟨v, hv, k⟩ := (hr.drop off).get (selU_eq hx hn)
            refine ⟨v, ?_, k⟩
            rw [List.getElem?_drop] at hv
            simpa [Instr.loadAt, Instr.sureAddr] using run_loadVar_one (P := P) (o := i * 1 + off) e1 (by rw [cell_of hc, Nat.mul_one, Nat.add_comm]; exact hv)
          · cases H
        · cases H
      · cases H
    · rename_i u sz' len el ho
      obtain ⟨l', F, hl', hh, _⟩ := I.peek ho
      rw [hl] at hl'; cases hl'
      split at H
      · rename_i e; subst e
        split at H
        · rename_i s e1 e2
          split at H
          · rename_i e
            cases H
            have hn : i < len := hn
            rcases hh with ⟨_, h2⟩ | ⟨_, hz0, _, h3, cs, hc, h5, _, h6⟩
            · omega
            · simp only [hz0, Nat.zero_add]
              have hr := h6 i hn
              have e3 := ((hr.drop off).take s).length
              rw [e] at e3
              have hsub : ((cs.drop (i * sz + off)).take s) = ((((cs.drop (i * sz)).take sz).drop off).take s) := by
                simp only [List.length_take, List.length_drop] at e3
                rw [List.drop_take, List.drop_drop, List.take_take]
                congr 1
                omega
              refine ⟨_, ?_, _, rfl, (hr.drop off).take s⟩
              have := run_loadVar_agg (P := P) (o := i * sz + off) e1 e2 hc (by rw [hsub]; exact e3)
              rw [hsub] at this
              simpa [Instr.loadAt, Instr.sureAddr] using this
          · cases H
        · rename_i e1
          split at H
          · rename_i x hx
            cases H
            have hn : i < len := hn
            rcases hh with ⟨_, h2⟩ | ⟨_, hz0, _, h3, cs, hc, h5, _, h6⟩
            · omega
            · simp only [hz0, Nat.zero_add]
              obtain ⟨v, hv, k⟩ := (h6 i hn).get hx
              rw [List.getElem?_take] at hv
              split at hv
              · rw [List.getElem?_drop] at hv
                refine ⟨v, ?_, k⟩
                simpa [Instr.loadAt, Instr.sureAddr] using run_loadVar_one (P := P) (o := i * sz + off) e1 (by rw [cell_of hc]; exact hv)
              · cases hv
          · cases H
        · cases H
      · cases H
    · rename_i u sz' len el ob ho
      obtain ⟨l', F, hl', hh, _⟩ := I.peek ho
      rw [hl] at hl'; cases hl'
      split at H
      · rename_i e; subst e
        split at H
        · rename_i s e1 e2
          split at H
          · rename_i e
            cases H
            have hn : i < len := hn
            rcases hh with h2 | ⟨_, _, h3, hc, pre, cs, post, fr, rfl, hp, h5, _, h6⟩
            · omega
            · have hr := h6 i hn
              have e3 := ((hr.drop off).take s).length
              rw [e] at e3
              have hb2 : (i + 1) * sz ≤ len * sz := Nat.mul_le_mul_right _ (by omega)
              rw [Nat.add_mul] at hb2
              have hsub : ((pre ++ cs ++ post).drop (l.off + (i * sz + off))).take s = ((((cs.drop (i * sz)).take sz).drop off).take s) := by
                rcases Nat.eq_zero_or_pos s with hs0 | hs0
                · rw [hs0, List.take_zero, List.take_zero]
                simp only [List.length_take, List.length_drop] at e3
                have hoff : off < sz := by omega
                rw [← hp, ← List.drop_drop, List.append_assoc, List.drop_left, List.drop_take, List.drop_drop, List.take_take, List.drop_append_of_le_length (by omega), List.take_append_of_le_length (by rw [List.length_drop]; omega)]
                congr 1
                omega
              refine ⟨_, ?_, _, rfl, (hr.drop off).take s⟩
              have := run_loadVar_agg (P := P) (o := l.off + (i * sz + off)) e1 e2 hc (by rw [hsub]; exact e3)
              rw [hsub] at this
              simpa [Instr.loadAt, Instr.sureAddr] using this
          · cases H
        · rename_i e1
          split at H
          · rename_i x hx
            cases H
            have hn : i < len := hn
            rcases hh with h2 | ⟨_, _, h3, hc, pre, cs, post, fr, rfl, hp, h5, _, h6⟩
            · omega
            · obtain ⟨v, hv, k⟩ := (h6 i hn).get hx
              rw [List.getElem?_take] at hv
              split at hv
              · rw [List.getElem?_drop] at hv
                refine ⟨v, ?_, k⟩
                have hlt : i * sz + off < cs.length := (List.getElem?_eq_some_iff.1 hv).1
                have hcell : (pre ++ cs ++ post)[l.off + (i * sz + off)]? = some v := by
                  rw [← hp, List.append_assoc, List.getElem?_append_right (by omega), show pre.length + (i * sz + off) - pre.length = i * sz + off by omega, List.getElem?_append_left hlt]
                  exact hv
                simpa [Instr.loadAt, Instr.sureAddr] using run_loadVar_one (P := P) (o := l.off + (i * sz + off)) e1 (by rw [cell_of hc]; exact hcell)
              · cases hv
          · cases H
        · cases H
      · cases H
    · cases H
  · split at H
    · split at H
      · split at H
        · cases H; exact hn.elim
        · cases H
      · cases H
    · cases H
  · cases H

theorem ones_one {x : SV} {v : Value} (h : one x = true) (hr : Rel ρ x v) : v.oneCell' = true := by
  cases x <;> simp only [one, reduceCtorEq] at h <;> simp only [Rel] at hr
  all_goals first
    | (subst hr; rfl)
    | (obtain ⟨_, _, rfl⟩ := hr; rfl)
    | (obtain ⟨_, rfl, _⟩ := hr; rfl)
    | (obtain ⟨_, _, (⟨_, _, _, rfl⟩ | ⟨_, _, _, rfl, _⟩)⟩ := hr <;> rfl)
theorem ones_all : ∀ {xs : List SV} {vs : List Value}, ones xs = true → RelL ρ xs vs → ∀ v ∈ vs, v.oneCell' = true
  | [], vs, _, hr => by simp [RelL] at hr; subst hr; simp
  | x :: xs, _, h, hr => by
    obtain ⟨y, ys, rfl, k1, k2⟩ := hr
    simp only [ones] at h
    split at h
    · rename_i e
      intro v hv
      rcases List.mem_cons.1 hv with rfl | hv
      · exact ones_one e k1
      · exact ones_all h k2 v hv
    · cases h

theorem frozen_setRow (w : World) (b:Nat) (cs : Array Value) (a : Addr) : (w.setRow b cs).frozen? a = w.frozen? a := by
  unfold World.frozen? World.setRow
  simp only [Array.getElem?_modify]
  by_cases h : b = a.block
  · subst h
    simp only [if_true]
    cases w.heap[a.block]? with
    | none => rfl
    | some o => cases o <;> rfl
  · simp only [if_neg h]
theorem Turns.setRow {F : Nat → Prop} (w : World) (b:Nat) (cs : Array Value) (h : F b) : Turns F w (w.setRow b cs) :=
  ⟨rfl, rfl, rfl, by simp, fun i _ hf => setRow_other w b i cs fun e => hf (e ▸ h), frozen_setRow w b cs⟩

theorem run_storeVar {t s : Nat} {b o u : Nat} {cs : List Value} {v : Value} (hs : sizeT P t = some s) (hl : v.cells.size = s) (hb : w.heap[b]? = some (.cells cs.toArray u (0, 0)))
    (h1 : ∀ x ∈ v.cells.toList, x.oneCell' = true) (hfit : o + v.cells.size ≤ cs.length) :
    (storeVar t ⟨b, o, none⟩ v).run P w = .ok () (w.setRow b (cs.take o ++ v.cells.toList ++ cs.drop (o + v.cells.toList.length)).toArray) := by
  have := run_storeCells_at P b o u v.cells.toList 0 cs.toArray w hb (by simpa using hfit) h1
  simp only [storeVar, Sem.run_bind, run_sizeOf hs, Result.andThen_ok, hl, ne_eq, not_true, if_false]
  simpa using this

theorem RelL.splice {xs vs : List SV} {cs us : List Value} (hr : RelL ρ xs cs) (hv : RelL ρ vs us) (o:Nat) : RelL ρ (Sx.splice xs o vs) (cs.take o ++ us ++ cs.drop (o + us.length)) := by
  unfold Sx.splice
  have := hv.length
  rw [this]
  exact ((hr.take o).append hv).append (hr.drop _)

theorem chunk_same (cs us : List Value) (a off sz:Nat) (h1 : off + us.length ≤ sz) (h2 : a + sz ≤ cs.length) :
    ((cs.take (a + off) ++ us ++ cs.drop (a + off + us.length)).drop a).take sz = ((cs.drop a).take sz).take off ++ us ++ ((cs.drop a).take sz).drop (off + us.length) := by
  apply List.ext_getElem?
  intro q
  simp only [List.getElem?_take, List.getElem?_drop, List.getElem?_append, List.length_take, List.length_append, List.length_drop]
  grind
theorem chunk_other (cs us : List Value) (a b off sz:Nat) (h1 : off + us.length ≤ sz) (h2 : a + sz ≤ cs.length) (h3 : b + sz ≤ a ∨ a + sz ≤ b) :
    ((cs.take (a + off) ++ us ++ cs.drop (a + off + us.length)).drop b).take sz = (cs.drop b).take sz := by
  apply List.ext_getElem?
  intro q
  simp only [List.getElem?_take, List.getElem?_drop, List.getElem?_append, List.length_take, List.length_append]
  grind

theorem evStore_sound {t : Nat} {a v : SV} {h' : List (HO T.R)} {need : Option Prop} {va vv : Value} (H : evStore P t h a v = some (h', need)) (hn : Nd need) (I : Inv T K w0 ρ h w) (ha : Rel ρ a va) (hv : Rel ρ v vv) :
    ∃ w', (Instr.storeAt t va vv).run P w = .ok () w' ∧ Inv T K w0 ρ h' w' := by
  unfold evStore at H
  split at H
  · rename_i s e1 e2
    split at H
    · rename_i e3
      have hvc := hv.cells
      have hlen : vv.cells.size = s := by have := hvc.length; simp at this; omega
      have hone : ∀ x ∈ vv.cells.toList, x.oneCell' = true := ones_all e2 hvc
      split at H
      · rename_i n off
        obtain ⟨l, hl, rfl⟩ := ha
        split at H
        · rename_i u xs ho
          split at H
          · rename_i hfit
            cases H
            obtain ⟨l', F, hl', ⟨hz0, hF, cs, hc, hr⟩, _, hcl⟩ := I.opens ho
            rw [hl] at hl'; cases hl'
            have hst := run_storeVar (P := P) (o := off) e1 hlen hc hone (by have := hr.length; omega)
            refine ⟨w.setRow l.blk (cs.take (off) ++ vv.cells.toList ++ cs.drop (off + vv.cells.toList.length)).toArray, by simpa [Instr.storeAt, Instr.sureAddr, hz0] using hst, ?_⟩
            refine hcl _ _ F (Turns.setRow w _ _ hF) (fun i hi => .inl hi) ⟨hz0, hF, _, setRow_heap w _ _ _ _ _ hc, hr.splice hvc off⟩
          · cases H
        · cases H
      · rename_i n sz i off
        obtain ⟨l, hl, rfl⟩ := ha
        split at H
        · rename_i u xs ho
          have key : i * sz + off + v.cells.length ≤ xs.length → ∃ w', (Instr.storeAt t (.pointer (some ⟨l.blk, l.off + (i * sz + off), none⟩)) vv).run P w = .ok () w' ∧ Inv T K w0 ρ (h.set n (.cells u (splice xs (i * sz + off) v.cells))) w' := by
            intro hfit
            obtain ⟨l', F, hl', ⟨hz0, hF, cs, hc, hr⟩, _, hcl⟩ := I.opens ho
            rw [hl] at hl'; cases hl'
            have hst := run_storeVar (P := P) (o := i * sz + off) e1 hlen hc hone (by have := hr.length; omega)
            refine ⟨w.setRow l.blk (cs.take (i * sz + off) ++ vv.cells.toList ++ cs.drop (i * sz + off + vv.cells.toList.length)).toArray, by simpa [Instr.storeAt, Instr.sureAddr, hz0] using hst, ?_⟩
            exact hcl _ _ F (Turns.setRow w _ _ hF) (fun i hi => .inl hi) ⟨hz0, hF, _, setRow_heap w _ _ _ _ _ hc, hr.splice hvc _⟩
          split at H
          · rename_i ys hys
            cases H
            obtain ⟨q1, q2⟩ := selS_eq hys hn
            rw [q1]
            exact key q2
          · split at H
            · rename_i hfit
              cases H
              exact key hfit
            · cases H
        · rename_i u sz' len el ho
          split at H
          · rename_i e; subst e
            split at H
            · rename_i hfit
              cases H
              obtain ⟨hil, hel⟩ := hn
              obtain ⟨l', F, hl', hh, _, hcl⟩ := I.opens ho
              rw [hl] at hl'; cases hl'
              rcases hh with ⟨_, h2⟩ | ⟨h1, hz0, hF, h3, cs, hc, h5, h7, h6⟩
              · omega
              · simp only [hz0, Nat.zero_add]
                have hvl : vv.cells.toList.length = v.cells.length := hvc.length
                have hcap : i * sz + sz ≤ l.cap * sz := by
                  have : (i + 1) * sz ≤ l.cap * sz := Nat.mul_le_mul_right _ (by omega)
                  rw [Nat.add_mul] at this
                  omega
                have hst := run_storeVar (P := P) (o := i * sz + off) e1 hlen hc hone (by simp at hvl; omega)
                refine ⟨w.setRow l.blk (cs.take (i * sz + off) ++ vv.cells.toList ++ cs.drop (i * sz + off + vv.cells.toList.length)).toArray, by simpa [Instr.storeAt, Instr.sureAddr] using hst, ?_⟩
                refine hcl _ _ F (Turns.setRow w _ _ hF) (fun i hi => .inl hi) (.inr ⟨h1, hz0, hF, h3, _, setRow_heap w _ _ _ _ _ hc, ?_, ?_, ?_⟩)
                · simp at hvl ⊢
                  omega
                · intro v hv
                  rcases List.mem_append.1 hv with hv | hv
                  · rcases List.mem_append.1 hv with hv | hv
                    · exact h7 v (List.mem_of_mem_take hv)
                    · exact hone v hv
                  · exact h7 v (List.mem_of_mem_drop hv)
                · intro j hj
                  simp only [rowSet_eq]
                  by_cases ej : j = i
                  · subst ej
                    simp only [Nat.beq_refl, cnd]
                    have := (h6 j hj).splice hvc off
                    rw [chunk_same cs vv.cells.toList (j * sz) off sz (by omega) (by omega)]
                    exact this
                  · rw [show Nat.beq j i = false from by cases hb : Nat.beq j i with | false => rfl | true => exact absurd (Nat.eq_of_beq_eq_true hb) ej]
                    simp only [cnd]
                    rw [chunk_other cs vv.cells.toList (i * sz) (j * sz) off sz (by omega) (by omega) (by
                      rcases Nat.lt_or_gt_of_ne ej with q | q
                      · exact .inl (by have := Nat.mul_le_mul_right sz (show j + 1 ≤ i by omega); rw [Nat.add_mul] at this; omega)
                      · exact .inr (by have := Nat.mul_le_mul_right sz (show i + 1 ≤ j by omega); rw [Nat.add_mul] at this; omega))]
                    exact h6 j hj
            · cases H
          · cases H
        · cases H
      · cases H
    · cases H
  · cases H
end
end Go.Sx

namespace Go.Sx
open Go.RowKit

/-! ### Building -/
def setMany (xs : List SV) (off:Nat) : List SV → List SV
  | [] => xs
  | v :: vs => setMany (xs.set off v) (off + 1) vs
def fillS (place : Nat → Option (Nat × Nat)) (xs : List SV) : List (Nat × SV) → Option (List SV)
  | [] => some xs
  | (i, v) :: rest => match place i with
    | some (off, size) => if v.cells.length = size ∧ off + size ≤ xs.length then fillS place (setMany xs off v.cells) rest else none
    | none => none
def evParts (ev : Operand → Option SV) : List (Nat × Operand) → Option (List (Nat × SV))
  | [] => some []
  | (i, x) :: rest => match ev x, evParts ev rest with
    | some v, some vs => some ((i, v) :: vs)
    | _, _ => none
def evArgs (ev : Operand → Option SV) : List Operand → Option (List SV)
  | [] => some []
  | x :: rest => match ev x, evArgs ev rest with
    | some v, some vs => some (v :: vs)
    | _, _ => none
def zeroCellsOf (P : Program) (t:Nat) : Option (List SV) :=
  match P.info? t with
  | some i => match i.zero with
    | some z => ofCells z.cells.toList
    | none => none
  | none => none
def placesOf (P : Program) : List Field → Option (List (Nat × Nat))
  | [] => some []
  | f :: fs => match sizeT P f.type, placesOf P fs with
    | some n, some l => some ((f.offset, n) :: l)
    | _, _ => none
def evBuild (P : Program) (t:Nat) (parts : List (Nat × SV)) : Option SV :=
  match zeroCellsOf P t, P.underlying t with
  | some z, some (.struct fs) => match placesOf P fs.toList with
    | some pl => match fillS (fun i => pl[i]?) z parts with
      | some xs => some (.agg xs)
      | none => none
    | none => none
  | some z, some (.array _ e) => match sizeT P e with
    | some n => match fillS (fun i => some (i * n, n)) z parts with
      | some xs => some (.agg xs)
      | none => none
    | none => none
  | _, _ => none

section
variable {P : Program} {T : Theory} {K : Nat → Prop} {w0 w : World} {ρ : Env} {h : List (HO T.R)}

inductive PartsRel (ρ : Env) : List (Nat × SV) → List (Nat × Value) → Prop
  | nil : PartsRel ρ [] []
  | cons {i : Nat} {v : SV} {c : Value} {l : List (Nat × SV)} {m : List (Nat × Value)} : Rel ρ v c → PartsRel ρ l m → PartsRel ρ ((i, v) :: l) ((i, c) :: m)

theorem setMany_rel : ∀ {vs : List SV} {us : List Value} {xs : List SV} {cs : Array Value} {off : Nat}, RelL ρ vs us → RelL ρ xs cs.toList →
    RelL ρ (setMany xs off vs) ((us.zipIdx 0).foldl (fun cs (c, j) => cs.setIfInBounds (off + j) c) cs).toList ∧ ((us.zipIdx 0).foldl (fun cs (c, j) => cs.setIfInBounds (off + j) c) cs).size = cs.size := by
  have key : ∀ (vs : List SV) (us : List Value) (xs : List SV) (cs : Array Value) (off k:Nat), RelL ρ vs us → RelL ρ xs cs.toList →
    RelL ρ (setMany xs (off + k) vs) ((us.zipIdx k).foldl (fun cs (c, j) => cs.setIfInBounds (off + j) c) cs).toList ∧ ((us.zipIdx k).foldl (fun cs (c, j) => cs.setIfInBounds (off + j) c) cs).size = cs.size := by
    intro vs
    induction vs with
    | nil => intro us xs cs off k h1 h2; simp only [RelL] at h1; subst h1; exact ⟨by simpa [setMany] using h2, by simp⟩
    | cons v vs ih =>
      intro us xs cs off k h1 h2
      obtain ⟨u, us, rfl, k1, k2⟩ := h1
      simp only [List.zipIdx_cons, List.foldl_cons, setMany]
      obtain ⟨a, b⟩ := ih us (xs.set (off + k) v) (cs.setIfInBounds (off + k) u) off (k + 1) k2 (by rw [Array.toList_setIfInBounds]; exact h2.set _ k1)
      exact ⟨a, by rw [b]; simp⟩
  intro vs us xs cs off h1 h2
  exact key vs us xs cs off 0 h1 h2

theorem fillS_sound {place : Nat → Option (Nat × Nat)} : ∀ {parts : List (Nat × SV)} {vparts : List (Nat × Value)} {xs ys : List SV} {cs : Array Value}, PartsRel ρ parts vparts → RelL ρ xs cs.toList →
    fillS place xs parts = some ys → ∃ ds : Array Value, Instr.fill place cs vparts = some ds ∧ RelL ρ ys ds.toList
  | [], _, xs, ys, cs, hp, hr, hf => by cases hp; simp only [fillS, Option.some.injEq] at hf; subst hf; exact ⟨cs, rfl, hr⟩
  | (i, v) :: rest, _, xs, ys, cs, hp, hr, hf => by
    cases hp with
    | @cons _ _ cv _ _ h1 h2 =>
      simp only [fillS] at hf
      split at hf
      · rename_i off size hpl
        split at hf
        · rename_i hc
          obtain ⟨hc1, hc2⟩ := hc
          have hv := h1.cells
          have hl := hv.length
          have hl2 := hr.length
          simp at hl hl2
          obtain ⟨a, b⟩ := setMany_rel (off := off) hv hr
          obtain ⟨ds, e, k⟩ := fillS_sound h2 a hf
          refine ⟨ds, ?_, k⟩
          simp only [Instr.fill, hpl]
          rw [if_neg (by simp; omega)]
          have e' := Array.foldl_toList (fun (cs : Array Value) (x : Value × Nat) => match x with | (c, j) => cs.setIfInBounds (off + j) c) (xs := Array.zipIdx cv.cells) (init := cs)
          rw [Array.toList_zipIdx] at e'
          rw [← e']
          exact e
        · cases hf
      · cases hf

theorem evParts_sound {ev : Operand → Option SV} {a : Act} (hev : ∀ x v, ev x = some v → Rel ρ v (a.eval x)) : ∀ {ps : List (Nat × Operand)} {l : List (Nat × SV)}, evParts ev ps = some l → PartsRel ρ l (ps.map fun (i, x) => (i, a.eval x))
  | [], l, h => by simp only [evParts, Option.some.injEq] at h; subst h; exact .nil
  | (i, x) :: rest, l, h => by
    simp only [evParts] at h
    split at h
    · rename_i v vs h1 h2
      cases h
      exact .cons (hev x v h1) (evParts_sound hev h2)
    · cases h
theorem evArgs_sound {ev : Operand → Option SV} {a : Act} (hev : ∀ x v, ev x = some v → Rel ρ v (a.eval x)) : ∀ {ps : List Operand} {l : List SV}, evArgs ev ps = some l → RelL ρ l (ps.map a.eval)
  | [], l, h => by simp only [evArgs, Option.some.injEq] at h; subst h; rfl
  | x :: rest, l, h => by
    simp only [evArgs] at h
    split at h
    · rename_i v vs h1 h2
      cases h
      exact ⟨_, _, rfl, hev x v h1, evArgs_sound hev h2⟩
    · cases h

theorem zeroCellsOf_sound {t : Nat} {l : List SV} (h : zeroCellsOf P t = some l) (ρ : Env) (w : World) : ∃ z, (zeroValue t).run P w = .ok z w ∧ RelL ρ l z.cells.toList := by
  unfold zeroCellsOf at h
  split at h
  · rename_i i hi
    split at h
    · rename_i z hz
      exact ⟨z, by simp [zeroValue, typeInfo, hi, hz], ofCells_rel h ρ⟩
    · cases h
  · cases h

theorem placesOf_run : ∀ {fs : List Field} {l : List (Nat × Nat)}, placesOf P fs = some l → ∀ w, (fs.mapM (m := Sem) fun f => do pure (f.offset, ← sizeOf f.type)).run P w = .ok l w
  | [], l, h, w => by simp only [placesOf, Option.some.injEq] at h; subst h; simp
  | f :: fs, l, h, w => by
    simp only [placesOf] at h
    split at h
    · rename_i n l' h1 h2
      cases h
      simp only [List.mapM_cons, Sem.run_bind, run_sizeOf h1, Result.andThen_ok, Sem.run_pure, placesOf_run h2 w]
    · cases h

theorem evBuild_sound {t : Nat} {parts : List (Nat × SV)} {vparts : List (Nat × Value)} {r : SV} (H : evBuild P t parts = some r) (hp : PartsRel ρ parts vparts) (w : World) :
    ∃ v, (Instr.build t vparts.toArray).run P w = .ok v w ∧ Rel ρ r v := by
  unfold evBuild at H
  split at H
  · rename_i z fs hz ht
    split at H
    · rename_i pl hpl
      split at H
      · rename_i xs hf
        cases H
        obtain ⟨zv, e1, k1⟩ := zeroCellsOf_sound hz ρ w
        obtain ⟨ds, e2, k2⟩ := fillS_sound hp k1 hf
        refine ⟨.agg ds, ?_, ds.toList, by simp, k2⟩
        have hm := placesOf_run hpl w
        simp only [bind_pure_comp] at hm
        simp only [Instr.build, Sem.run_bind, e1, Result.andThen_ok, run_underlying ht]
        rw [Array.mapM_eq_mapM_toList]
        simp only [bind_pure_comp, Sem.run_map, hm, Result.andThen_ok]
        simp [e2]
      · cases H
    · cases H
  · rename_i z n e hz ht
    split at H
    · rename_i m hm
      split at H
      · rename_i xs hf
        cases H
        obtain ⟨zv, e1, k1⟩ := zeroCellsOf_sound hz ρ w
        obtain ⟨ds, e2, k2⟩ := fillS_sound hp k1 hf
        refine ⟨.agg ds, ?_, ds.toList, by simp, k2⟩
        simp [Instr.build, e1, run_underlying ht, run_sizeOf hm, e2]
      · cases H
    · cases H
  · cases H
end
end Go.Sx

namespace Go.Sx
open Go.RowKit

/-! ### Slices of slices and of strings; append -/
def intOf : Option SV → Option (Option Int)
  | none => some none
  | some (.int _ l) => some (some l)
  | _ => none
def evSlice (P : Program) (t:Nat) (x : SV) (lo hi : Option SV) : Option (SV × Option Prop) :=
  match P.underlying t, x, intOf lo, intOf hi with
  | some .string, .str s, some none, some none => some (.str (s.extract 0 s.size), none)
  | some .string, .str s, some (some l), some none => some (.str (s.extract l.toNat s.size), some (0 ≤ l ∧ l ≤ s.size))
  | some .string, .str s, some none, some (some h) => some (.str (s.extract 0 h.toNat), some (0 ≤ h ∧ h ≤ s.size))
  | some .string, .str s, some (some l), some (some h) => some (.str (s.extract l.toNat h.toNat), some (0 ≤ l ∧ l ≤ h ∧ h ≤ s.size))
  | some (.slice e), .slc n sz lo0 len, some none, some none => match sizeT P e with
    | some sz' => if sz = sz' then some (.slc n sz lo0 len, none) else none
    | none => none
  | some (.slice e), .slc n sz lo0 len, some (some l), some none => match sizeT P e with
    | some sz' => if sz = sz' then some (.slc n sz (lo0 + l.toNat) (len - l.toNat), some (0 ≤ l ∧ l ≤ len)) else none
    | none => none
  | some (.slice e), .slc n sz lo0 len, some none, some (some h) => match sizeT P e with
    | some sz' => if sz = sz' then some (.slc n sz lo0 h.toNat, some (0 ≤ h ∧ h ≤ len)) else none
    | none => none
  | some (.slice e), .slc n sz lo0 len, some (some l), some (some h) => match sizeT P e with
    | some sz' => if sz = sz' then some (.slc n sz (lo0 + l.toNat) (h.toNat - l.toNat), some (0 ≤ l ∧ l ≤ h ∧ h ≤ len)) else none
    | none => none
  | _, _, _, _ => none

def infoT (P : Program) (e:Nat) : Option (Nat × Nat × Bool) :=
  match P.info? e, zeroCellsOf P e with
  | some i, some zl => match Nat.decEq zl.length i.size, ones zl with
    | isTrue _, true => match Nat.decLe i.bytes 4096 with
      | isTrue _ => some (i.size, 4096, true)
      | isFalse _ => none
    | _, _ => none
  | _, _ => none
def rowOf {R : Type} : Option (HO R) → Option (Nat × Nat × (Nat → List SV))
  | some (.row _ sz len el) => some (sz, len, el)
  | some (.ro _ sz len el _) => some (sz, len, el)
  | _ => none
def evAppend {R : Type} (P : Program) (h : List (HO R)) (t t':Nat) (x y : SV) : Option (SV × List (HO R) × Option Prop) :=
  match P.underlying t with
  | some (.slice e) => match infoT P e with
    | some (s + 1, b, zl) => if zl = true ∧ t = t' then match y with
      | .slc m sz2 lo2 len2 => match rowOf h[m]? with
        | some (sz2', len2', el2) => if sz2 = s + 1 ∧ sz2' = s + 1 then match x with
          | .nils => some (.slc h.length (s + 1) 0 len2, h ++ [.row e (s + 1) len2 fun i => el2 (lo2 + i)], some (lo2 + len2 ≤ len2' ∧ len2 * b ≤ 140737488355328 ∧ len2 ≤ 9223372036854775807))
          | .slc n sz lo len => if n = m ∨ sz ≠ s + 1 then none else match h[n]? with
            | some (.row e1 sz1 len1 el1) => if e1 = e ∧ sz1 = s + 1 then
              some (.slc h.length (s + 1) 0 (len + len2), h.set n .gone ++ [.row e (s + 1) (len + len2) fun i => rowSet (Nat.blt i len) (el1 i) (el2 (lo2 + (i - len)))],
                some (lo = 0 ∧ len ≤ len1 ∧ lo2 + len2 ≤ len2' ∧ (len + len2) * b ≤ 140737488355328 ∧ len + len2 ≤ 9223372036854775807))
              else none
            | _ => none
          | _ => none
          else none
        | _ => none
      | _ => none
      else none
    | _ => none
  | _ => none

section
variable {P : Program} {T : Theory} {K : Nat → Prop} {w0 w : World} {ρ : Env} {h : List (HO T.R)}

theorem elem_of {t e : Nat} (h : P.underlying t = some (.slice e)) : P.elem t = e := by
  simp [Program.elem, h]

theorem evSlice_sound {t : Nat} {x r : SV} {lo hi : Option SV} {need : Option Prop} {vx : Value} {vlo vhi : Option Value} (H : evSlice P t x lo hi = some (r, need)) (hn : Nd need) (hx : Rel ρ x vx)
    (hlo : (lo = none ∧ vlo = none) ∨ ∃ s v, lo = some s ∧ vlo = some v ∧ Rel ρ s v) (hhi : (hi = none ∧ vhi = none) ∨ ∃ s v, hi = some s ∧ vhi = some v ∧ Rel ρ s v) (w : World) :
    ∃ v, (Instr.sliceAt t vx vlo vhi none).run P w = .ok v w ∧ Rel ρ r v := by
  have ilo : ∀ {l}, intOf lo = some l → (l = none ∧ vlo = none) ∨ ∃ k n, l = some n ∧ vlo = some (.int k n) := by
    intro l hl
    rcases hlo with ⟨rfl, rfl⟩ | ⟨s, v, rfl, rfl, hr⟩
    · cases hl; exact .inl ⟨rfl, rfl⟩
    · cases s <;> simp only [intOf, reduceCtorEq, Option.some.injEq] at hl
      subst hl; simp only [Rel] at hr; subst hr; exact .inr ⟨_, _, rfl, rfl⟩
  have ihi : ∀ {l}, intOf hi = some l → (l = none ∧ vhi = none) ∨ ∃ k n, l = some n ∧ vhi = some (.int k n) := by
    intro l hl
    rcases hhi with ⟨rfl, rfl⟩ | ⟨s, v, rfl, rfl, hr⟩
    · cases hl; exact .inl ⟨rfl, rfl⟩
    · cases s <;> simp only [intOf, reduceCtorEq, Option.some.injEq] at hl
      subst hl; simp only [Rel] at hr; subst hr; exact .inr ⟨_, _, rfl, rfl⟩
  -- slices: one fact for all four
  have slices : ∀ {e n sz lo0 len sz' : Nat} (ht : P.underlying t = some (.slice e)) (hs : sizeT P e = some sz') (es : sz = sz') (hr : Rel ρ (.slc n sz lo0 len) vx) (l m:Nat) (_ : l ≤ m) (_ : m ≤ len)
      (_ : ∀ (a : Option Addr) (cap:Nat), len ≤ cap → vx = .slice a len cap → (Instr.sliceAt t vx vlo vhi none).run P w = ((sizeOf (P.elem t)).run P w).andThen fun s w => .ok (sliced a l m cap s) w),
      ∃ v, (Instr.sliceAt t vx vlo vhi none).run P w = .ok v w ∧ Rel ρ (.slc n sz (lo0 + l) (m - l)) v := by
    intro e n sz lo0 len sz' ht hs es hr l m h1 h2 hrun
    subst es
    obtain ⟨q, hq, hc⟩ := hr
    rcases hc with ⟨q1, rfl, rfl, rfl⟩ | ⟨q1, q2, a, rfl, q3⟩
    · have := hrun none 0 (Nat.le_refl _) rfl
      rw [elem_of ht, run_sizeOf hs] at this
      obtain rfl : m = 0 := by omega
      obtain rfl : l = 0 := by omega
      exact ⟨_, this, q, hq, .inl ⟨q1, rfl, rfl, rfl⟩⟩
    · have := hrun (some a) (q.cap - lo0) (by omega) rfl
      rw [elem_of ht, run_sizeOf hs] at this
      refine ⟨_, this, q, hq, .inr ⟨q1, by omega, ?_⟩⟩
      simp only [sliced]
      by_cases e : q.cap - lo0 = l
      · exact ⟨a, by simp [e]; omega, fun hlt => by omega⟩
      · refine ⟨a.add (l * sz), by simp [e]; omega, fun hlt => ?_⟩
        rw [q3 (by omega), Addr.add_lit, Nat.add_mul, Nat.add_assoc]
  unfold evSlice at H
  split at H
  · rename_i ht hl hh
    cases H
    simp only [Rel] at hx; subst hx
    obtain ⟨-, rfl⟩ | ⟨_, _, q, -⟩ := ilo hl
    · obtain ⟨-, rfl⟩ | ⟨_, _, q, -⟩ := ihi hh
      · exact ⟨_, by simp [Instr.sliceAt, Instr.slice, run_underlying ht, Instr.sliceBounds], rfl⟩
      · cases q
    · cases q
  · rename_i s l ht hl hh
    cases H
    simp only [Rel] at hx; subst hx
    obtain ⟨q1, q2⟩ := hn
    obtain ⟨q, -⟩ | ⟨k, n, q, rfl⟩ := ilo hl
    · cases q
    · cases q
      obtain ⟨-, rfl⟩ | ⟨_, _, q, -⟩ := ihi hh
      · exact ⟨_, by simp [Instr.sliceAt, Instr.slice, run_underlying ht, Instr.sliceBounds, run_sliceBound, q1, q2], rfl⟩
      · cases q
  · rename_i s l ht hl hh
    cases H
    simp only [Rel] at hx; subst hx
    obtain ⟨q1, q2⟩ := hn
    obtain ⟨-, rfl⟩ | ⟨_, _, q, -⟩ := ilo hl
    · obtain ⟨q, -⟩ | ⟨k, n, q, rfl⟩ := ihi hh
      · cases q
      · cases q
        exact ⟨_, by simp [Instr.sliceAt, Instr.slice, run_underlying ht, Instr.sliceBounds, run_sliceBound, q1, q2], rfl⟩
    · cases q
  · rename_i s l m ht hl hh
    cases H
    simp only [Rel] at hx; subst hx
    obtain ⟨q1, q2, q3⟩ := hn
    obtain ⟨q, -⟩ | ⟨k, n, q, rfl⟩ := ilo hl
    · cases q
    · cases q
      obtain ⟨q, -⟩ | ⟨k, n, q, rfl⟩ := ihi hh
      · cases q
      · cases q
        have em : (m.toNat:Int) = m := Int.toNat_of_nonneg (by omega)
        exact ⟨_, by simp [Instr.sliceAt, Instr.slice, run_underlying ht, Instr.sliceBounds, run_sliceBound, q1, q2, q3, em, show 0 ≤ m by omega], rfl⟩
  · rename_i e n sz lo0 len ht hl hh
    split at H
    · rename_i sz' hs
      split at H
      · rename_i es
        cases H
        obtain ⟨-, rfl⟩ | ⟨_, _, q, -⟩ := ilo hl
        · obtain ⟨-, rfl⟩ | ⟨_, _, q, -⟩ := ihi hh
          · have := slices ht hs es hx 0 len (by omega) (by omega) (fun a cap hc hv => by
              rw [hv, run_sliceAt_slice w t _ _ _ _ (by rw [ht, elem_of ht]), run_slice_all w t a len cap (by rw [ht, elem_of ht])])
            simpa using this
          · cases q
        · cases q
      · cases H
    · cases H
  · rename_i e n sz lo0 len l ht hl hh
    split at H
    · rename_i sz' hs
      split at H
      · rename_i es
        cases H
        obtain ⟨q1, q2⟩ := hn
        obtain ⟨q, -⟩ | ⟨k, n, q, rfl⟩ := ilo hl
        · cases q
        · cases q
          obtain ⟨-, rfl⟩ | ⟨_, _, q, -⟩ := ihi hh
          · exact slices ht hs es hx l.toNat len (by omega) (by omega) (fun a cap hc hv => by
              rw [hv, run_sliceAt_slice w t _ _ _ _ (by rw [ht, elem_of ht]), run_slice_l w t a len cap (by rw [ht, elem_of ht]) k l q1 q2])
          · cases q
      · cases H
    · cases H
  · rename_i e n sz lo0 len m ht hl hh
    split at H
    · rename_i sz' hs
      split at H
      · rename_i es
        cases H
        obtain ⟨q1, q2⟩ := hn
        obtain ⟨-, rfl⟩ | ⟨_, _, q, -⟩ := ilo hl
        · obtain ⟨q, -⟩ | ⟨k, n, q, rfl⟩ := ihi hh
          · cases q
          · cases q
            have := slices ht hs es hx 0 m.toNat (by omega) (by omega) (fun a cap hc hv => by
              rw [hv, run_sliceAt_slice w t _ _ _ _ (by rw [ht, elem_of ht]), run_slice_h w t a len cap (by rw [ht, elem_of ht]) k m q1 (by omega)])
            simpa using this
        · cases q
      · cases H
    · cases H
  · rename_i e n sz lo0 len l m ht hl hh
    split at H
    · rename_i sz' hs
      split at H
      · rename_i es
        cases H
        obtain ⟨q1, q2, q3⟩ := hn
        obtain ⟨q, -⟩ | ⟨k, n, q, rfl⟩ := ilo hl
        · cases q
        · cases q
          obtain ⟨q, -⟩ | ⟨k2, n, q, rfl⟩ := ihi hh
          · cases q
          · cases q
            exact slices ht hs es hx l.toNat m.toNat (by omega) (by omega) (fun a cap hc hv => by
              rw [hv, run_sliceAt_slice w t _ _ _ _ (by rw [ht, elem_of ht]), run_slice_lh w t a len cap (by rw [ht, elem_of ht]) k k2 l m q1 q2 (by omega)])
      · cases H
    · cases H
  · cases H

theorem Inv.moves (I : Inv T K w0 ρ h w) {n : Nat} {o : HO T.R} (hn : h[n]? = some o) (hro : IsRo (some o) → False := by exact id) :
    ∃ l F, ρ[n]? = some l ∧ OHolds T ρ l F w o ∧
      ∀ w' l' o' F', Turns F w w' → (∀ i, F' i → F i ∨ w.heap.size ≤ i ∧ i < w'.heap.size) → OHolds T (ρ ++ [l']) l' F' w' o' → Inv T K w0 (ρ ++ [l']) (h.set n .gone ++ [o']) w' := by
  obtain ⟨hlen, hkept, F, h1, h2, h3⟩ := I
  have hlt : n < h.length := (List.getElem?_eq_some_iff.1 hn).1
  obtain ⟨l, hl⟩ : ∃ l, ρ[n]? = some l := ⟨_, List.getElem?_eq_getElem (by omega)⟩
  have hnk : ∀ i, F n i → i < w.heap.size ∧ ¬ K i := fun i hi => ⟨(h3 n i hi).1, (h3 n i hi).2.elim id fun e => by
    rw [hn] at e; exact (hro e).elim⟩
  refine ⟨l, F n, hl, h1 n o l hn hl, ?_⟩
  intro w' l' o' F' ht hF' ho'
  refine ⟨by simp [hlen], hkept.turns ht fun i hi => (hnk i hi).2, fun m => if m = h.length then F' else if m < h.length ∧ m ≠ n then F m else fun _ => False, ?_, ?_, ?_⟩
  · intro m om lm hm hlm
    by_cases e : m = h.length
    · subst e
      rw [List.getElem?_append_right (by simp)] at hm
      rw [← hlen, List.getElem?_append_right (by omega)] at hlm
      simp at hm hlm
      subst hm hlm
      simpa using ho'
    · have hlt' : m < h.length := by
        have := (List.getElem?_eq_some_iff.1 hm).1
        simp at this
        omega
      rw [List.getElem?_append_left (by simpa using hlt')] at hm
      rw [List.getElem?_append_left (by omega)] at hlm
      by_cases en : m = n
      · subst en
        rw [List.getElem?_set_self hlt] at hm
        cases hm
        trivial
      · rw [List.getElem?_set_ne (fun x => en x.symm)] at hm
        simp only [if_neg e, if_pos (And.intro hlt' en)]
        exact OHolds.mono (Pre.snoc _ _) (h1 m om lm hm hlm) fun i hi => ht.rest i (h3 m i hi).1 fun hf => (h2 m n i hi hf).elim en (hnk i hf).2
  · intro a b i
    by_cases ea : a = h.length <;> by_cases eb : b = h.length <;> simp only [ea, eb, if_true, if_false]
    · exact fun _ _ => .inl trivial
    · split
      · rename_i q
        intro ha hb
        rcases hF' i ha with hx | hx
        · exact (h2 b n i hb hx).elim (fun e => absurd e q.2) fun k => absurd k (hnk i hx).2
        · exact absurd (h3 b i hb).1 (by omega)
      · exact fun _ x => x.elim
    · split
      · rename_i q
        intro ha hb
        rcases hF' i hb with hx | hx
        · exact (h2 a n i ha hx).elim (fun e => absurd e q.2) fun k => absurd k (hnk i hx).2
        · exact absurd (h3 a i ha).1 (by omega)
      · exact fun x => x.elim
    · split <;> split
      · exact h2 a b i
      · exact fun _ x => x.elim
      · exact fun x => x.elim
      · exact fun x => x.elim
  · intro m i
    by_cases e : m = h.length <;> simp only [e, if_true, if_false]
    · intro hi
      rcases hF' i hi with hx | hx
      · exact ⟨Nat.lt_of_lt_of_le (hnk i hx).1 ht.size, .inl (hnk i hx).2⟩
      · exact ⟨hx.2, .inl fun hk => absurd (Nat.lt_of_lt_of_le (hkept.old i hk) hkept.size) (by omega)⟩
    · split
      · rename_i q
        intro hi
        rw [List.getElem?_append_left (by simpa using q.1), List.getElem?_set_ne (fun x => q.2 x.symm)]
        exact ⟨Nat.lt_of_lt_of_le (h3 m i hi).1 ht.size, (h3 m i hi).2⟩
      · exact fun x => x.elim
theorem Inv.moveN (I : Inv T K w0 ρ h w) {n : Nat} {o : HO T.R} (hn : h[n]? = some o) :
    ∃ l, ρ[n]? = some l ∧ Inv T K w0 (ρ ++ [l]) (h.set n .gone ++ [o]) w := by
  obtain ⟨hlen, hkept, F, h1, h2, h3⟩ := I
  have hlt : n < h.length := (List.getElem?_eq_some_iff.1 hn).1
  obtain ⟨l, hl⟩ : ∃ l, ρ[n]? = some l := ⟨_, List.getElem?_eq_getElem (by omega)⟩
  refine ⟨l, hl, by simp [hlen], hkept, fun m => if m = h.length then F n else if m < h.length ∧ m ≠ n then F m else fun _ => False, ?_, ?_, ?_⟩
  · intro m om lm hm hlm
    by_cases e : m = h.length
    · subst e
      rw [List.getElem?_append_right (by simp)] at hm
      rw [← hlen, List.getElem?_append_right (by omega)] at hlm
      simp at hm hlm
      subst hm hlm
      simpa using OHolds.mono (Pre.snoc _ _) (h1 n _ _ hn hl) fun _ _ => rfl
    · have hlt' : m < h.length := by
        have := (List.getElem?_eq_some_iff.1 hm).1
        simp at this
        omega
      rw [List.getElem?_append_left (by simpa using hlt')] at hm
      rw [List.getElem?_append_left (by omega)] at hlm
      by_cases en : m = n
      · subst en
        rw [List.getElem?_set_self hlt] at hm
        cases hm
        trivial
      · rw [List.getElem?_set_ne (fun x => en x.symm)] at hm
        simp only [if_neg e, if_pos (And.intro hlt' en)]
        exact OHolds.mono (Pre.snoc _ _) (h1 m om lm hm hlm) fun _ _ => rfl
  · intro a b i
    by_cases ea : a = h.length <;> by_cases eb : b = h.length <;> simp only [ea, eb, if_true, if_false]
    · exact fun _ _ => .inl trivial
    · split
      · rename_i q
        intro ha hb
        exact (h2 b n i hb ha).elim (fun e => absurd e q.2) .inr
      · exact fun _ x => x.elim
    · split
      · rename_i q
        intro ha hb
        exact (h2 a n i ha hb).elim (fun e => absurd e q.2) .inr
      · exact fun x => x.elim
    · split <;> split
      · exact h2 a b i
      · exact fun _ x => x.elim
      · exact fun x => x.elim
      · exact fun x => x.elim
  · intro m i
    by_cases e : m = h.length <;> simp only [e, if_true, if_false]
    · intro hi
      have := h3 n i hi
      rw [hn] at this
      rw [List.getElem?_append_right (by simp)]
      simpa using this
    · split
      · rename_i q
        intro hi
        rw [List.getElem?_append_left (by simpa using q.1), List.getElem?_set_ne (fun x => q.2 x.symm)]
        exact h3 m i hi
      · exact fun x => x.elim

theorem infoT_spec {e s b : Nat} {q : Bool} (h : infoT P e = some (s, b, q)) : ∃ i z, P.info? e = some i ∧ i.size = s ∧ i.bytes ≤ b ∧ i.zero = some z ∧ z.cells.size = s ∧ ∀ u ∈ z.cells, u.oneCell' = true := by
  unfold infoT at h
  split at h
  · rename_i i zl hi hz
    split at h
    · split at h
      case h_2 => cases h
      rename_i hbb _
      cases h
      obtain ⟨zv, e1, k1⟩ := zeroCellsOf_sound hz [] default
      have hz' : i.zero = some zv := by
        cases hzz : i.zero with
        | none => simp [zeroValue, typeInfo, hi, hzz, run_program] at e1
        | some z0 => simp [zeroValue, typeInfo, hi, hzz, run_program] at e1; rw [e1]
      have hl := k1.length
      simp at hl
      have q : zl.length = i.size := by assumption
      have q2 : ones zl = true := by assumption
      exact ⟨i, zv, hi, rfl, hbb, hz', by omega, fun u hu => ones_all q2 k1 u (by simpa using hu)⟩
    · cases h
  · cases h
theorem zeroCells_one {z : Array Value} (h : ∀ u ∈ z, u.oneCell' = true) (n:Nat) : ∀ u ∈ (Builtin.zeroCells z n).toList, u.oneCell' = true := by
  intro u hu
  simp only [Builtin.zeroCells, Array.toList_map, Array.toList_range, List.mem_map, List.mem_range] at hu
  obtain ⟨i, hi, rfl⟩ := hu
  have hp : 0 < z.size := by
    rcases Nat.eq_zero_or_pos z.size with e | e
    · rw [e] at hi; simp at hi
    · exact e
  have hlt : i % z.size < z.size := Nat.mod_lt _ hp
  rw [getElem!_pos z _ hlt]
  exact h _ (Array.getElem_mem hlt)

theorem news_of (I : Inv T K w0 ρ h w) {m sz lo len len' : Nat} {el : Nat → List SV} {v : Value} (ho : rowOf h[m]? = some (sz, len', el)) (hr : Rel ρ (.slc m sz lo len) v) (hle : lo + len ≤ len') :
    (v = .slice none 0 0 ∧ len = 0) ∨ ∃ a c, v = .slice (some a) len c ∧ ∃ news : List Value, news.length = len * sz ∧ (∀ j x, news[j]? = some x → w.cell? (a.add j) = some x) ∧ (∀ x ∈ news, x.oneCell' = true) ∧
      ∀ i, i < len → RelL ρ (el (lo + i)) ((news.drop (i * sz)).take sz) := by
  -- of whichever kind: a block, the cells ahead, the row
  have view : ∃ l, ρ[m]? = some l ∧ ((len' = 0) ∨ (l.nil = false ∧ len' ≤ l.cap ∧ ∃ (pre cs : List Value) (t:Nat) (fr : Nat × Nat), w.heap[l.blk]? = some (.cells (pre ++ cs).toArray t fr) ∧ pre.length = l.off ∧ len' * sz ≤ cs.length ∧
      (∀ v, v ∈ cs.take (len' * sz) → v.oneCell' = true) ∧ ∀ i, i < len' → RelL ρ (el i) ((cs.drop (i * sz)).take sz))) := by
    unfold rowOf at ho
    split at ho
    · rename_i t sz' ln e hm
      cases ho
      obtain ⟨l, F, hl, hh, _⟩ := I.peek hm
      refine ⟨l, hl, ?_⟩
      rcases hh with h | ⟨q1, q0, _, q4, cs, q5, q6, q7, q8⟩
      · exact .inl h.2
      · exact .inr ⟨q1, q4, [], cs, t, _, q5, q0.symm, by rw [q6]; exact Nat.mul_le_mul_right _ q4, fun v hv => q7 v (List.mem_of_mem_take hv), q8⟩
    · rename_i t sz' ln e ob hm
      cases ho
      obtain ⟨l, F, hl, hh, _⟩ := I.peek hm
      refine ⟨l, hl, ?_⟩
      rcases hh with h | ⟨q1, _, q4, q5, pre, cs, post, fr, rfl, q6, q7, q8, q9⟩
      · exact .inl h
      · refine .inr ⟨q1, q4, pre, cs ++ post, fr.1, fr.2, by rw [List.append_assoc] at q5; exact q5, q6, by rw [List.length_append]; omega, fun v hv => ?_, fun i hi => ?_⟩
        · rw [List.take_append_of_le_length (by omega)] at hv
          exact q8 v (List.mem_of_mem_take hv)
        · have hb : (i + 1) * sz ≤ len' * sz := Nat.mul_le_mul_right _ (by omega)
          rw [Nat.add_mul] at hb
          rw [List.drop_append_of_le_length (by omega), List.take_append_of_le_length (by rw [List.length_drop]; omega)]
          exact q9 i hi
    · cases ho
  obtain ⟨l, hl, hh⟩ := view
  obtain ⟨l', hl', hc⟩ := hr
  rw [hl] at hl'; cases hl'
  rcases hc with ⟨q1, q2, q3, rfl⟩ | ⟨q1, q2, a, rfl, q3⟩
  · exact .inl ⟨rfl, q3⟩
  · refine .inr ⟨a, _, rfl, ?_⟩
    rcases hh with q | ⟨_, q4, pre, cs, t, fr, q5, q6, q7, q8, q9⟩
    · have hl0 : len = 0 := by omega
      subst hl0
      exact ⟨[], by simp, fun j x hx => by simp at hx, fun x hx => by simp at hx, fun i hi => absurd hi (Nat.not_lt_zero _)⟩
    · have hb : (lo + len) * sz ≤ len' * sz := Nat.mul_le_mul_right _ (by omega)
      rw [Nat.add_mul] at hb
      refine ⟨(cs.drop (lo * sz)).take (len * sz), ?_, ?_, fun x hx => ?_, ?_⟩
      · rw [List.length_take, List.length_drop]; omega
      · intro j x hx
        rw [List.getElem?_take] at hx
        split at hx
        · rename_i hj
          rw [List.getElem?_drop] at hx
          have hlen0 : 0 < len := by
            rcases Nat.eq_zero_or_pos len with e | e
            · subst e; simp at hj
            · exact e
          rw [q3 (by omega), Addr.add_lit, cell_of q5, ← q6, List.getElem?_append_right (by omega), show pre.length + lo * sz + j - pre.length = lo * sz + j by omega]
          exact hx
        · cases hx
      · refine q8 x ?_
        have e : (cs.drop (lo * sz)).take (len * sz) = ((cs.take (len' * sz)).drop (lo * sz)).take (len * sz) := by
          rw [List.drop_take, List.take_take]; congr 1; omega
        rw [e] at hx
        exact List.mem_of_mem_drop (List.mem_of_mem_take hx)
      · intro i hi
        have := q9 (lo + i) (by omega)
        have hb2 : (i + 1) * sz ≤ len * sz := Nat.mul_le_mul_right _ (by omega)
        rw [Nat.add_mul] at hb2
        rw [List.drop_take, List.take_take, List.drop_drop, ← Nat.add_mul]
        have e : min sz (len * sz - i * sz) = sz := by omega
        rw [e]
        exact this

theorem chunk_cat {olds news rest : List Value} {n sz m : Nat} (h1 : olds.length = n * sz) (h2 : news.length = m * sz) {i : Nat} (hi : i < n + m) :
    (((olds ++ news ++ rest).drop (i * sz)).take sz) = if i < n then (olds.drop (i * sz)).take sz else (news.drop ((i - n) * sz)).take sz := by
  split
  · rename_i hlt
    have hb : (i + 1) * sz ≤ n * sz := Nat.mul_le_mul_right _ (by omega)
    rw [Nat.add_mul] at hb
    rw [List.append_assoc, List.drop_append_of_le_length (by omega), List.take_append_of_le_length (by rw [List.length_drop]; omega)]
  · rename_i hge
    have hb : n * sz ≤ i * sz := Nat.mul_le_mul_right _ (by omega)
    have hb2 : (i - n + 1) * sz ≤ m * sz := Nat.mul_le_mul_right _ (by omega)
    rw [Nat.add_mul] at hb2
    have e : i * sz - n * sz = (i - n) * sz := by rw [Nat.sub_mul]
    rw [List.append_assoc, List.drop_append, List.drop_eq_nil_of_le (by omega), List.nil_append, h1, e]
    rw [List.drop_append_of_le_length (by omega), List.take_append_of_le_length (by rw [List.length_drop]; omega)]

theorem blt_cnd {α : Type} {i n : Nat} {x y : α} : cnd (Nat.blt i n) x y = if i < n then x else y := by
  by_cases hi : i < n
  · rw [if_pos hi, show Nat.blt i n = true from by rw [Nat.blt_eq]; exact hi]; rfl
  · rw [if_neg hi, show Nat.blt i n = false from by cases hb : Nat.blt i n with | false => rfl | true => rw [Nat.blt_eq] at hb; exact absurd hb hi]; rfl

theorem evAppend_sound {t t' ty : Nat} {x y r : SV} {h' : List (HO T.R)} {need : Option Prop} {vx vy : Value} (H : evAppend P h t t' x y = some (r, h', need)) (hn : Nd need) (I : Inv T K w0 ρ h w)
    (hx : Rel ρ x vx) (hy : Rel ρ y vy) : ∃ w' ρ' v, (Builtin.append_ #[t, t'] ty #[vx, vy]).run P w = .ok v w' ∧ Pre ρ ρ' ∧ Inv T K w0 ρ' h' w' ∧ Rel ρ' r v := by
  unfold evAppend at H
  split at H
  · rename_i e ht
    split at H
    · rename_i s b zl hinfo
      split at H
      · rename_i ec
        obtain ⟨ez, et⟩ := ec
        subst et
        obtain ⟨i, z, hi, hsz, hby, hz, hzc, hz1⟩ := infoT_spec hinfo
        split at H
        · rename_i m sz2 lo2 len2
          split at H
          · rename_i sz2' len2' el2 ho2
            split at H
            · rename_i e2
              obtain ⟨rfl, rfl⟩ := e2
              split at H
              · -- nil, and more
                cases H
                obtain ⟨n1, n2, n3⟩ := hn
                simp only [Rel] at hx; subst hx
                rcases news_of I ho2 hy n1 with ⟨rfl, rfl⟩ | ⟨a, c, rfl, news, l1, l2, l3, l4⟩
                · refine ⟨w, ρ ++ [⟨0, 0, true, 0⟩], .slice none 0 0, ?_, Pre.snoc _ _, I.news ⟨0, 0, true, 0⟩ _ (fun _ => False) (Turns.refl _ _) (fun _ q => q.elim) ?_, ?_⟩
                  · simp [Builtin.append_, run_underlying ht, sizeOf, typeInfo, hi, Builtin.lenOf, Builtin.firstCells]
                  · exact Or.inl ⟨rfl, rfl⟩
                  · exact ⟨⟨0, 0, true, 0⟩, by rw [List.getElem?_append_right (by have := I.len; omega)]; simp [I.len], .inl ⟨rfl, rfl, rfl, rfl⟩⟩
                · by_cases e0 : len2 = 0
                  · subst e0
                    have hn0 : news = [] := List.eq_nil_of_length_eq_zero (by simpa using l1)
                    subst hn0
                    refine ⟨w, ρ ++ [⟨0, 0, true, 0⟩], .slice none 0 0, ?_, Pre.snoc _ _, I.news ⟨0, 0, true, 0⟩ _ (fun _ => False) (Turns.refl _ _) (fun _ q => q.elim) ?_, ?_⟩
                    · simp [Builtin.append_, run_underlying ht, sizeOf, typeInfo, hi, Builtin.lenOf, Builtin.firstCells, loadCells, loadCellsFrom]
                    · exact Or.inl ⟨rfl, rfl⟩
                    · exact ⟨⟨0, 0, true, 0⟩, by rw [List.getElem?_append_right (by have := I.len; omega)]; simp [I.len], .inl ⟨rfl, rfl, rfl, rfl⟩⟩
                  · have hr := run_append_nil (P := P) w t ty e i z ht hi hz a len2 c news (by rw [hsz]; exact l1) l2 (by omega) (by omega) (Nat.le_trans (Nat.mul_le_mul_left _ hby) (by omega))
                    have hge := grownCap_ge w len2 0 e
                    refine ⟨_, ρ ++ [⟨w.heap.size, grownCap w len2 0 e, false, 0⟩], _, hr, Pre.snoc _ _, ?_, ?_⟩
                    · refine (I.drew).news _ _ (fun k => k = w.heap.size) (Turns.alloc _ _ _ _) (fun k hk => by subst hk; exact ⟨Nat.le_refl _, by show _ < (w.heap.push _).size; simp⟩) ?_
                      refine Or.inr ⟨rfl, rfl, rfl, by simpa using hge, (news.toArray ++ Builtin.zeroCells z.cells (grownCap w len2 0 e - len2)).toList, by rw [Array.toArray_toList]; exact heap_alloc_new w.drew _, ?_, ?_, ?_⟩
                      · simp only [Array.toList_append, List.length_append, Array.length_toList, size_zeroCells, l1, hzc]
                        rw [← Nat.add_mul]; congr 1; omega
                      · intro v hv
                        have hv : v ∈ news ++ (Builtin.zeroCells z.cells (grownCap w len2 0 e - len2)).toList := by simpa using hv
                        rcases List.mem_append.1 hv with hv | hv
                        · exact l3 v hv
                        · exact zeroCells_one hz1 _ v (by simpa using hv)
                      · intro k hk
                        have := chunk_cat (olds := []) (news := news) (rest := (Builtin.zeroCells z.cells (grownCap w len2 0 e - len2)).toList) (n := 0) (sz := s + 1) (m := len2) (by simp) l1 (i := k) (by omega)
                        simp only [List.nil_append, Nat.not_lt_zero, if_false, Nat.sub_zero] at this
                        simp only [Array.toList_append]
                        rw [this]
                        exact (l4 k hk).mono (Pre.snoc _ _)
                    · exact ⟨⟨w.heap.size, grownCap w len2 0 e, false, 0⟩, by rw [List.getElem?_append_right (by have := I.len; omega)]; simp [I.len], .inr ⟨rfl, by simpa using hge, _, by simp; rfl, fun _ => by simp⟩⟩
              · rename_i n sz lo len
                split at H
                · cases H
                · rename_i e3
                  simp only [not_or, Decidable.not_not, ne_eq] at e3
                  obtain ⟨hne, rfl⟩ := e3
                  split at H
                  · rename_i u1 sz1 len1 el1 ho1
                    split at H
                    · rename_i e4
                      obtain ⟨rfl, rfl⟩ := e4
                      cases H
                      obtain ⟨n0, n1, n2, n3, n4⟩ := hn
                      subst n0
                      have hnews := news_of I ho2 hy n2
                      have holds := news_of I (by rw [ho1]; rfl) hx (by omega)
                      obtain ⟨l, F, hl, hh, hmv⟩ := I.moves ho1
                      obtain ⟨l', hl', hc⟩ := hx
                      rw [hl] at hl'; cases hl'
                      have named : ∀ l' : Loc, (ρ ++ [l'])[h.length]? = some l' := fun l' => by
                        rw [List.getElem?_append_right (by have := I.len; omega)]; simp [I.len]
                      have grown : ∀ (olds news : List Value) (old:Nat), olds.length = len * (s + 1) → news.length = len2 * (s + 1) → (∀ x ∈ olds, x.oneCell' = true) → (∀ x ∈ news, x.oneCell' = true) →
                          (∀ k, k < len → RelL ρ (el1 (0 + k)) ((olds.drop (k * (s + 1))).take (s + 1))) → (∀ k, k < len2 → RelL ρ (el2 (lo2 + k)) ((news.drop (k * (s + 1))).take (s + 1))) →
                          ∀ w' blk cap (rest : List Value), len + len2 ≤ cap → w'.heap[blk]? = some (.cells (olds ++ news ++ rest).toArray u1 (0, 0)) → (∀ x ∈ rest, x.oneCell' = true) → (olds ++ news ++ rest).length = cap * (s + 1) →
                          Turns F w w' → (F blk ∨ w.heap.size ≤ blk ∧ blk < w'.heap.size) →
                          Inv T K w0 (ρ ++ [⟨blk, cap, false, 0⟩]) (h.set n .gone ++ [.row u1 (s + 1) (len + len2) fun i => rowSet (Nat.blt i len) (el1 i) (el2 (lo2 + (i - len)))]) w' := by
                        intro olds news old q1 q2 q3 q4 q5 q6 w' blk cap rest r1 r2 r3 r4 r5 r6
                        refine hmv _ _ _ (fun k => k = blk) r5 (fun k hk => by subst hk; exact r6) ?_
                        refine Or.inr ⟨rfl, rfl, rfl, r1, _, r2, r4, ?_, ?_⟩
                        · intro v hv
                          rcases List.mem_append.1 hv with hv | hv
                          · rcases List.mem_append.1 hv with hv | hv
                            · exact q3 v hv
                            · exact q4 v hv
                          · exact r3 v hv
                        · intro k hk
                          simp only [rowSet_eq, blt_cnd]
                          rw [chunk_cat q1 q2 hk]
                          by_cases hlt : k < len
                          · simp only [if_pos hlt]
                            have := q5 k hlt
                            rw [Nat.zero_add] at this
                            exact this.mono (Pre.snoc _ _)
                          · simp only [if_neg hlt]
                            exact (q6 (k - len) (by omega)).mono (Pre.snoc _ _)
                      rcases hc with ⟨q1, _, rfl, rfl⟩ | ⟨q1, q2, a1, rfl, q3⟩
                      · -- the first one is nil
                        have stays : Inv T K w0 (ρ ++ [⟨0, 0, true, 0⟩]) (h.set n .gone ++ [.row u1 (s + 1) (0 + 0) fun i => rowSet (Nat.blt i 0) (el1 i) (el2 (lo2 + (i - 0)))]) w :=
                          hmv _ _ _ (fun _ => False) (Turns.refl _ _) (fun _ q => q.elim) (Or.inl ⟨rfl, rfl⟩)
                        rcases hnews with ⟨rfl, rfl⟩ | ⟨a, c, rfl, news, l1, l2, l3, l4⟩
                        · refine ⟨w, ρ ++ [⟨0, 0, true, 0⟩], .slice none 0 0, ?_, Pre.snoc _ _, stays, ?_⟩
                          · simp [Builtin.append_, run_underlying ht, sizeOf, typeInfo, hi, Builtin.lenOf, Builtin.firstCells]
                          · exact ⟨_, named _, .inl ⟨rfl, rfl, rfl, rfl⟩⟩
                        · by_cases e0 : len2 = 0
                          · subst e0
                            have hn0 : news = [] := List.eq_nil_of_length_eq_zero (by simpa using l1)
                            subst hn0
                            refine ⟨w, ρ ++ [⟨0, 0, true, 0⟩], .slice none 0 0, ?_, Pre.snoc _ _, stays, ?_⟩
                            · simp [Builtin.append_, run_underlying ht, sizeOf, typeInfo, hi, Builtin.lenOf, Builtin.firstCells, loadCells, loadCellsFrom]
                            · exact ⟨_, named _, .inl ⟨rfl, rfl, rfl, rfl⟩⟩
                          · have hr := run_append_nil (P := P) w t ty u1 i z ht hi hz a len2 c news (by rw [hsz]; exact l1) l2 (by omega) (by omega) (Nat.le_trans (Nat.mul_le_mul_left _ hby) (by rw [Nat.zero_add] at n3; omega))
                            have hge := grownCap_ge w len2 0 u1
                            refine ⟨_, ρ ++ [⟨w.heap.size, grownCap w len2 0 u1, false, 0⟩], _, hr, Pre.snoc _ _, ?_, ?_⟩
                            · refine grown [] news 0 (by simp) l1 (by simp) l3 (fun k hk => absurd hk (by omega)) l4 _ _ _ (Builtin.zeroCells z.cells (grownCap w len2 0 u1 - len2)).toList (by omega) ?_ (zeroCells_one hz1 _) ?_ (((Turns.refl _ w).drew).trans (Turns.alloc _ _ _ _)) (.inr ⟨Nat.le_refl _, by show _ < (w.heap.push _).size; simp⟩)
                              · rw [show (([] : List Value) ++ news ++ (Builtin.zeroCells z.cells (grownCap w len2 0 u1 - len2)).toList).toArray = news.toArray ++ Builtin.zeroCells z.cells (grownCap w len2 0 u1 - len2) from by apply Array.ext'; simp]
                                exact heap_alloc_new w.drew _
                              · simp only [List.nil_append, List.length_append, Array.length_toList, size_zeroCells, l1, hzc]
                                rw [← Nat.add_mul]; congr 1; omega
                            · exact ⟨_, named _, .inr ⟨rfl, by simpa using hge, ⟨w.heap.size, 0, none⟩, by simp, fun _ => by simp⟩⟩
                      · rcases holds with ⟨q, _⟩ | ⟨a1', c1, qv, olds, o1, o2, o3, o4⟩
                        · cases q
                        cases qv
                        rcases hh with ⟨q, _⟩ | ⟨_, hz0, hF, p4, cs, p5, p6, p7, p8⟩
                        · rw [q1] at q; cases q
                        have same : ∀ (y0 : Option Addr) (c0:Nat), (Builtin.append_ #[t, t] ty #[.slice (some a1) len (l.cap - 0), .slice y0 0 c0]).run P w = .ok (.slice (some a1) len (l.cap - 0)) w := by
                          intro y0 c0
                          have hle : len + 0 ≤ l.cap - 0 := by omega
                          cases y0 <;> simp [Builtin.append_, run_underlying ht, sizeOf, typeInfo, hi, Builtin.lenOf, Builtin.firstCells, loadCells, loadCellsFrom, storeCells, show len ≤ l.cap by omega]
                        have stays : len2 = 0 → Inv T K w0 (ρ ++ [l]) (h.set n .gone ++ [.row u1 (s + 1) (len + len2) fun i => rowSet (Nat.blt i len) (el1 i) (el2 (lo2 + (i - len)))]) w := by
                          intro e0
                          refine hmv _ l _ F (Turns.refl _ _) (fun k hk => .inl hk) (Or.inr ⟨q1, hz0, hF, by omega, cs, p5, p6, p7, fun k hk => ?_⟩)
                          simp only [rowSet_eq, blt_cnd, if_pos (show k < len by omega)]
                          exact (p8 k (by omega)).mono (Pre.snoc _ _)
                        rcases hnews with ⟨rfl, rfl⟩ | ⟨a, c, rfl, news, l1, l2, l3, l4⟩
                        · exact ⟨w, ρ ++ [l], _, same _ _, Pre.snoc _ _, stays rfl, l, named l, .inr ⟨q1, by omega, a1, rfl, fun hlt => by simpa using q3 hlt⟩⟩
                        · by_cases e0 : len2 = 0
                          · subst e0
                            exact ⟨w, ρ ++ [l], _, same _ _, Pre.snoc _ _, stays rfl, l, named l, .inr ⟨q1, by omega, a1, rfl, fun hlt => by simpa using q3 hlt⟩⟩
                          · by_cases hroom : len + len2 ≤ l.cap
                            · obtain rfl : a1 = ⟨l.blk, 0, none⟩ := by rw [q3 (by omega), hz0]; simp
                              have hle : len * (s + 1) + news.length ≤ cs.toArray.size := by
                                rw [l1, ← Nat.add_mul]; simp only [List.size_toArray, p6]; exact Nat.mul_le_mul_right _ hroom
                              have hr := run_append_room (P := P) w t ty u1 i ht hi l.blk len (l.cap - 0) cs.toArray p5 a len2 c news (by rw [hsz]; exact l1) l2 l3 (by omega) (by rw [hsz]; exact hle)
                              simp only [Nat.zero_mul] at hr ⊢
                              refine ⟨_, ρ ++ [⟨l.blk, l.cap, false, 0⟩], _, hr, Pre.snoc _ _, ?_, ?_⟩
                              · have hlen : len * (s + 1) ≤ cs.length := by simp at hle; omega
                                refine grown (cs.take (len * (s + 1))) news 0 (by simp [hlen]) l1 (fun v hv => p7 v (List.mem_of_mem_take hv)) l3 ?_ l4 _ _ _ (cs.drop (len * (s + 1) + news.length)) hroom ?_ (fun v hv => p7 v (List.mem_of_mem_drop hv)) ?_ (Turns.setRow w _ _ hF) (.inl hF)
                                · intro k hk
                                  have hb2 : (k + 1) * (s + 1) ≤ len * (s + 1) := Nat.mul_le_mul_right _ (by omega)
                                  rw [Nat.add_mul] at hb2
                                  rw [List.drop_take, List.take_take, show min (s + 1) (len * (s + 1) - k * (s + 1)) = s + 1 by omega, Nat.zero_add]
                                  exact p8 k (by omega)
                                · rw [hsz]
                                  exact setRow_heap w _ _ _ _ _ p5
                                · simp at hle ⊢
                                  omega
                              · exact ⟨_, named _, .inr ⟨rfl, by simpa using hroom, _, rfl, fun _ => by simp⟩⟩
                            · have hr := run_append_grow (P := P) w t ty u1 i z ht hi hz a1 len (l.cap - 0) olds (by rw [hsz]; exact o1) o2 a len2 c news (by rw [hsz]; exact l1) l2 (by omega) (by omega) (growslice_fits (by omega) (Nat.le_trans (Nat.mul_le_mul_left _ hby) n3))
                              have hge := grownCap_ge w (len + len2) (l.cap - 0) u1
                              refine ⟨_, ρ ++ [⟨w.heap.size, grownCap w (len + len2) (l.cap - 0) u1, false, 0⟩], _, hr, Pre.snoc _ _, ?_, ?_⟩
                              · refine grown olds news 0 o1 l1 o3 l3 o4 l4 _ _ _ (Builtin.zeroCells z.cells (grownCap w (len + len2) (l.cap - 0) u1 - (len + len2))).toList hge ?_ (zeroCells_one hz1 _) ?_ (((Turns.refl _ w).drew).trans (Turns.alloc _ _ _ _)) (.inr ⟨Nat.le_refl _, by show _ < (w.heap.push _).size; simp⟩)
                                · have := heap_alloc_new w.drew (.cells (olds.toArray ++ news.toArray ++ Builtin.zeroCells z.cells (grownCap w (len + len2) (l.cap - 0) u1 - (len + len2))) u1)
                                  rw [show (olds ++ news ++ (Builtin.zeroCells z.cells (grownCap w (len + len2) (l.cap - 0) u1 - (len + len2))).toList).toArray = olds.toArray ++ news.toArray ++ Builtin.zeroCells z.cells (grownCap w (len + len2) (l.cap - 0) u1 - (len + len2)) from by apply Array.ext'; simp]
                                  exact this
                                · simp only [List.length_append, Array.length_toList, size_zeroCells, o1, l1, hzc]
                                  rw [← Nat.add_mul, ← Nat.add_mul]; congr 1; omega
                              · exact ⟨_, named _, .inr ⟨rfl, by simpa using hge, ⟨w.heap.size, 0, none⟩, by simp, fun _ => by simp⟩⟩
                    · cases H
                  · cases H
              · cases H
            · cases H
          · cases H
        · cases H
      · cases H
    · cases H
  · cases H

def evClear {R : Type} (P : Program) (h : List (HO R)) (t:Nat) (x : SV) : Option (List (HO R) × Option Prop) :=
  match P.underlying t with
  | some (.slice e) => match infoT P e, zeroCellsOf P e with
    | some (s + 1, _, _), some zs => match x with
      | .slc n sz lo len => match h[n]? with
        | some (.row e1 sz1 len1 el1) => if sz = s + 1 ∧ sz1 = s + 1 then
          some (h.set n (.row e1 sz1 len1 fun j => rowSet (cnd (Nat.blt j lo) false (Nat.blt j (lo + len))) zs (el1 j)), some (lo + len ≤ len1))
          else none
        | _ => none
      | .nils => some (h, none)
      | _ => none
    | _, _ => none
  | _ => none
theorem zeroCells_chunk {z : Array Value} {n i : Nat} (hi : i < n) : (((Builtin.zeroCells z n).toList.drop (i * z.size)).take z.size) = z.toList := by
  have hb : (i + 1) * z.size ≤ n * z.size := Nat.mul_le_mul_right _ (by omega)
  rw [Nat.add_mul] at hb
  apply List.ext_getElem?
  intro q
  rw [List.getElem?_take]
  split
  · rename_i hq
    rw [List.getElem?_drop]
    simp only [Builtin.zeroCells, Array.toList_map, Array.toList_range, List.getElem?_map, Array.getElem?_toList]
    rw [List.getElem?_range (by omega)]
    simp only [Option.map_some]
    have : (i * z.size + q) % z.size = q := by rw [Nat.add_comm, Nat.add_mul_mod_self_right]; exact Nat.mod_eq_of_lt hq
    rw [this, getElem!_pos z q hq, Array.getElem?_eq_getElem hq]
  · rename_i hq
    rw [List.getElem?_eq_none]
    simp; omega
theorem chunk_mid {olds news : List Value} {lo len sz j n : Nat} (h1 : olds.length = n * sz) (h2 : news.length = len * sz) (hle : lo + len ≤ n) (hj : j < n) :
    (((olds.take (lo * sz) ++ news ++ olds.drop (lo * sz + news.length)).drop (j * sz)).take sz) = if j < lo then (olds.drop (j * sz)).take sz else if j < lo + len then (news.drop ((j - lo) * sz)).take sz else (olds.drop (j * sz)).take sz := by
  have hb : (lo + len) * sz ≤ n * sz := Nat.mul_le_mul_right _ hle
  rw [Nat.add_mul] at hb
  have hbj : (j + 1) * sz ≤ n * sz := Nat.mul_le_mul_right _ (by omega)
  rw [Nat.add_mul] at hbj
  have hk : (olds.take (lo * sz)).length = lo * sz := by rw [List.length_take]; omega
  split
  · rename_i hlt
    have hb2 : (j + 1) * sz ≤ lo * sz := Nat.mul_le_mul_right _ (by omega)
    rw [Nat.add_mul] at hb2
    rw [List.append_assoc, List.drop_append_of_le_length (by omega), List.take_append_of_le_length (by rw [List.length_drop]; omega), List.drop_take, List.take_take, show min sz (lo * sz - j * sz) = sz by omega]
  · split
    · rename_i h3 h4
      have hc := chunk_cat (olds := olds.take (lo * sz)) (news := news) (rest := olds.drop (lo * sz + news.length)) hk h2 (i := j) (by omega)
      rw [if_neg h3] at hc
      exact hc
    · rename_i h3 h4
      have hb3 : (lo + len) * sz ≤ j * sz := Nat.mul_le_mul_right _ (by omega)
      rw [Nat.add_mul] at hb3
      rw [List.drop_append, List.drop_eq_nil_of_le (by rw [List.length_append]; omega), List.nil_append, List.drop_drop, List.length_append, hk, h2]
      congr 2
      omega
theorem evClear_sound {t ty : Nat} {x : SV} {h' : List (HO T.R)} {need : Option Prop} {vx : Value} (H : evClear P h t x = some (h', need)) (hn : Nd need) (I : Inv T K w0 ρ h w) (hx : Rel ρ x vx) :
    ∃ w', (Builtin.clear_ #[t] ty #[vx]).run P w = .ok (.tuple #[]) w' ∧ Inv T K w0 ρ h' w' := by
  unfold evClear at H
  split at H
  · rename_i e ht
    split at H
    · rename_i s b q zs hinfo hzs
      obtain ⟨i, z, hi, hsz, hby, hz, hzc, hz1⟩ := infoT_spec hinfo
      split at H
      · rename_i n sz lo len
        split at H
        · rename_i u1 sz1 len1 el1 ho
          split at H
          · rename_i ec
            obtain ⟨rfl, rfl⟩ := ec
            cases H
            have hn : lo + len ≤ len1 := hn
            obtain ⟨l, F, hl, hh, _, hcl⟩ := I.opens ho
            obtain ⟨l', hl', hc⟩ := hx
            rw [hl] at hl'; cases hl'
            have nothing : len = 0 → ∀ F' : Nat → Prop, OHolds T ρ l F w (.row u1 (s + 1) len1 fun j => rowSet (cnd (Nat.blt j lo) false (Nat.blt j (lo + len))) zs (el1 j)) := by
              intro e0 _
              subst e0
              have ec : ∀ j, rowSet (cnd (Nat.blt j lo) false (Nat.blt j (lo + 0))) zs (el1 j) = el1 j := by
                intro j
                rw [rowSet_eq, blt_cnd]
                by_cases hj : j < lo
                · rw [if_pos hj]; rfl
                · rw [if_neg hj, blt_cnd, if_neg (by omega)]
              simp only [ec]
              exact hh
            rcases hc with ⟨q1, q2, q3, rfl⟩ | ⟨q1, q2, a, rfl, q3⟩
            · refine ⟨w, ?_, hcl _ _ F (Turns.refl _ _) (fun i hi => .inl hi) (nothing q3 F)⟩
              simp [Builtin.clear_, run_underlying ht]
            · by_cases e0 : len = 0
              · subst e0
                refine ⟨w, ?_, hcl _ _ F (Turns.refl _ _) (fun i hi => .inl hi) (nothing rfl F)⟩
                simp [Builtin.clear_, run_underlying ht]
              · rcases hh with ⟨q, _⟩ | ⟨_, hz0, hF, p4, cs, p5, p6, p7, p8⟩
                · rw [q1] at q; cases q
                obtain rfl : a = ⟨l.blk, lo * (s + 1), none⟩ := by rw [q3 (by omega), hz0, Nat.zero_add]
                have hzl : (Builtin.zeroCells z.cells len).toList.length = len * (s + 1) := by rw [Array.length_toList, size_zeroCells, hzc]
                have hfit : lo * (s + 1) + (Builtin.zeroCells z.cells len).toList.length ≤ cs.length := by
                  rw [hzl, p6, ← Nat.add_mul]; exact Nat.mul_le_mul_right _ (by omega)
                have hst := run_storeCells_at P l.blk (lo * (s + 1)) u1 (Builtin.zeroCells z.cells len).toList 0 cs.toArray w p5 (by simpa using hfit) (zeroCells_one hz1 _)
                simp only [Nat.add_zero] at hst
                refine ⟨w.setRow l.blk (cs.take (lo * (s + 1)) ++ (Builtin.zeroCells z.cells len).toList ++ cs.drop (lo * (s + 1) + (Builtin.zeroCells z.cells len).toList.length)).toArray, ?_,
                  hcl _ _ F (Turns.setRow w l.blk _ hF) (fun i hi => .inl hi) (Or.inr ⟨q1, hz0, hF, p4, _, setRow_heap w _ _ _ _ _ p5, ?_, ?_, ?_⟩)⟩
                · simp [Builtin.clear_, run_underlying ht, zeroValue, typeInfo, hi, hz, run_program, hst]
                · simp only [List.length_append, List.length_take, List.length_drop]
                  omega
                · intro v hv
                  rcases List.mem_append.1 hv with hv | hv
                  · rcases List.mem_append.1 hv with hv | hv
                    · exact p7 v (List.mem_of_mem_take hv)
                    · exact zeroCells_one hz1 _ v hv
                  · exact p7 v (List.mem_of_mem_drop hv)
                · intro j hj
                  rw [chunk_mid p6 hzl (by omega) (by omega)]
                  simp only [rowSet_eq, blt_cnd]
                  by_cases hj1 : j < lo
                  · rw [if_pos hj1, if_pos hj1]; exact p8 j hj
                  · rw [if_neg hj1, if_neg hj1, blt_cnd]
                    by_cases hj2 : j < lo + len
                    · rw [if_pos hj2, if_pos hj2]
                      have := zeroCells_chunk (z := z.cells) (n := len) (i := j - lo) (by omega)
                      rw [hzc] at this
                      rw [this]
                      obtain ⟨zv, e1, k1⟩ := zeroCellsOf_sound hzs ρ w
                      have hz' : zv = z := by
                        simp [zeroValue, typeInfo, hi, hz, run_program] at e1; exact e1.symm
                      rw [← hz']
                      exact k1
                    · rw [if_neg hj2, if_neg hj2]; exact p8 j hj
          · cases H
        · cases H
      · cases H
        simp only [Rel] at hx; subst hx
        exact ⟨w, by simp [Builtin.clear_, run_underlying ht], I⟩
      · cases H
    · cases H
  · cases H
end
end Go.Sx

namespace Go.Sx
open Go.RowKit

def evLen (P : Program) (t:Nat) (x : SV) : Option SV :=
  match P.underlying t, x with
  | some .string, .str s => some (.int .i64 s.size)
  | some (.array n _), _ => some (.int .i64 n)
  | some (.slice _), .slc _ _ _ n => some (.int .i64 n)
  | some (.slice _), .nils => some (.int .i64 0)
  | some (.map _ _), .nilm => some (.int .i64 0)
  | _, _ => none
def minS : List SV → Option SV
  | [.int k x, .int k' y] => if k = k' then some (.int k (if y < x then y else x)) else none
  | [.int k x, .int k' y, .int k'' z] => if k = k' ∧ k = k'' then some (.int k (if z < (if y < x then y else x) then z else (if y < x then y else x))) else none
  | _ => none
def maxS : List SV → Option SV
  | [.int k x, .int k' y] => if k = k' then some (.int k (if y > x then y else x)) else none
  | [.int k x, .int k' y, .int k'' z] => if k = k' ∧ k = k'' then some (.int k (if z > (if y > x then y else x) then z else (if y > x then y else x))) else none
  | _ => none
def evBuiltin (P : Program) (b : Builtin) (vs : List SV) (ts : List Nat) : Option SV :=
  match b, vs, ts with
  | .len, [x], [t] => evLen P t x
  | .min, vs, _ => minS vs
  | .max, vs, _ => maxS vs
  | _, _, _ => none

def concrete (P : Program) (t:Nat) : Bool :=
  match P.underlying t with
  | some (.interface _) => false
  | some _ => true
  | none => false

def evOpt (ev : Operand → Option SV) : Option Operand → Option (Option SV)
  | none => some none
  | some x => match ev x with
    | some v => some (some v)
    | none => none
def nilOk : SV → Option SV
  | .ptr n off => some (.ptr n off)
  | .elt n sz i off => some (.elt n sz i off)
  | .fn f cs => some (.fn f cs)
  | _ => none

def rowEl (len sz:Nat) (xs : List SV) : Nat → List SV :=
  match len with
  | 1 => fun _ => xs
  | _ => match sz with
    | 1 => fun i => match selU xs i with
      | some v => [v]
      | none => (xs.drop (i * 1)).take 1
    | s => fun i => (xs.drop (i * s)).take s
theorem rowEl_eq {len sz : Nat} {xs : List SV} (hl : xs.length = len * sz) {i : Nat} (hi : i < len) : rowEl len sz xs i = (xs.drop (i * sz)).take sz := by
  unfold rowEl
  split
  · have : i = 0 := by omega
    subst this
    simp only [Nat.zero_mul, List.drop_zero]
    rw [List.take_of_length_le (by omega)]
  · split
    · dsimp only
      split
      · rename_i v hv
        have := selU_eq hv (by omega)
        rw [Nat.mul_one, List.drop_eq_getElem_cons (by omega), List.take_succ_cons, List.take_zero]
        rw [List.getElem?_eq_getElem (by omega)] at this
        cases this
        rfl
      · rfl
    · rfl
def evOp {R : Type} (P : Program) (ev : Operand → Option SV) (h : List (HO R)) (o : Oper) : Option (Option SV × List (HO R) × Option Prop) :=
  match o.op with
  | .move x => match ev x with
    | some v => some (some v, h, none)
    | none => none
  | .assign x => match ev x with
    | some v => some (some v, h, none)
    | none => none
  | .alloc t => match zeroCellsOf P t with
    | some z => some (some (.ptr h.length 0), h ++ [.cells t z], none)
    | none => none
  | .box t x => match ev x with
    | some v => some (some (.ptr h.length 0), h ++ [.cells t v.cells], none)
    | none => none
  | .build t ps => match evParts ev ps.toList with
    | some l => match evBuild P t l with
      | some v => some (some v, h, none)
      | none => none
    | none => none
  | .buildSlice t len ps => match evParts ev ps.toList, P.underlying t with
    | some l, some (.slice e) => match sizeT P e, zeroCellsOf P e with
      | some (sz + 1), some z => if z.length = sz + 1 ∧ len * (sz + 1) ≤ 2 ^ 24 then
        match fillS (fun i => some (i * (sz + 1), sz + 1)) ((List.range (len * (sz + 1))).map fun i => z.getD (i % z.length) default) l with
        | some xs => match ones xs with
          | true => some (some (.slc h.length (sz + 1) 0 len), h ++ [.row e (sz + 1) len (rowEl len (sz + 1) xs)], none)
          | false => none
        | none => none
        else none
      | _, _ => none
    | _, _ => none
  | .load t x => match ev x with
    | some v => match evLoad P t h v with
      | some (r, n) => some (some r, h, n)
      | none => none
    | none => none
  | .store t x y => match ev x, ev y with
    | some a, some v => match evStore P t h a v with
      | some (h', n) => some (none, h', n)
      | none => none
    | _, _ => none
  | .nilCheck x => match ev x with
    | some v => match nilOk v with
      | some v => some (some v, h, none)
      | none => none
    | none => none
  | .binOp op t x y _ => match ev x, ev y with
    | some a, some b => match evBin P op t a b with
      | some (r, n) => some (some r, h, n)
      | none => none
    | _, _ => none
  | .unOp op _ x => match ev x with
    | some a => match evUn op a with
      | some r => some (some r, h, none)
      | none => none
    | none => none
  | .convert s d x => match ev x with
    | some a => match evConv P s d a with
      | some r => some (some r, h, none)
      | none => none
    | none => none
  | .makeInterface t x => match ev x, concrete P t with
    | some a, true => some (some (.ifc t a), h, none)
    | _, _ => none
  | .makeFunc (.func f) first captured => match first.toList, evArgs ev captured.toList with
    | [], some cs => some (some (.fn f cs), h, none)
    | _, _ => none
  | .fieldAddr s x f => match ev x, fieldOff P s f with
    | some (.ptr n off), some o => some (some (.ptr n (off + o)), h, none)
    | some (.elt n sz i off), some o => some (some (.elt n sz i (off + o)), h, none)
    | some .nilp, some _ => some (some .nilp, h, some False)
    | _, _ => none
  | .field t x f => match ev x with
    | some a => match evField P t a f with
      | some r => some (some r, h, none)
      | none => none
    | none => none
  | .indexAddr t x i => match ev x, ev i with
    | some a, some b => match evIndexAddr P t a b with
      | some (r, n) => some (some r, h, n)
      | none => none
    | _, _ => none
  | .index t x i => match ev x, ev i with
    | some a, some b => match evIndex P t a b with
      | some (r, n) => some (some r, h, n)
      | none => none
    | _, _ => none
  | .typeAssert x _ t ok => match ev x with
    | some a => match evAssert P a t ok with
      | some r => some (some r, h, none)
      | none => none
    | none => none
  | .extract x i => match ev x with
    | some (.tup l) => match l[i]? with
      | some r => some (some r, h, none)
      | none => none
    | _ => none
  | .slice t x lo hi none => match ev x, evOpt ev lo, evOpt ev hi with
    | some a, some l, some u => match evSlice P t a l u with
      | some (r, n) => some (some r, h, n)
      | none => none
    | _, _, _ => none
  | .call { callee := .builtin .append, args := as, argTypes := ts } => match evArgs ev as.toList, ts.toList with
    | some [x, y], [t, t'] => match evAppend P h t t' x y with
      | some (r, h', n) => some (some r, h', n)
      | none => none
    | _, _ => none
  | .call { callee := .builtin .clear, args := as, argTypes := ts } => match evArgs ev as.toList, ts.toList with
    | some [x], [t] => match evClear P h t x with
      | some (h', n) => some (some (.tup []), h', n)
      | none => none
    | _, _ => none
  | .call { callee := .builtin b, args := as, argTypes := ts } => match evArgs ev as.toList with
    | some vs => match evBuiltin P b vs ts.toList with
      | some r => some (some r, h, none)
      | none => none
    | none => none
  | _ => none

section
variable {P : Program} {T : Theory} {K : Nat → Prop} {w0 w : World} {ρ : Env} {h : List (HO T.R)}

def Does (T : Theory) (K : Nat → Prop) (w0 : World) (P : Program) (ρ : Env) (a : Act) (o : Oper) (w : World) (r : Option SV) (h' : List (HO T.R)) : Prop :=
  ∃ w' ρ' nx, (execOp a.eval o).run P w = .ok nx w' ∧ Pre ρ ρ' ∧ Inv T K w0 ρ' h' w' ∧ ((∃ v cv, r = some v ∧ nx = .value cv ∧ Rel ρ' v cv) ∨ (r = none ∧ nx = .skip))

theorem Does.pure {a : Act} {o : Oper} {v : SV} {cv : Value} (I : Inv T K w0 ρ h w) (e : (execOp a.eval o).run P w = .ok (.value cv) w) (hr : Rel ρ v cv) : Does T K w0 P ρ a o w (some v) h :=
  ⟨w, ρ, _, e, Pre.refl _, I, .inl ⟨v, cv, rfl, rfl, hr⟩⟩

theorem Inv.newCells (I : Inv T K w0 ρ h w) {t : Nat} {xs : List SV} {cs : List Value} (hr : RelL ρ xs cs) :
    Inv T K w0 (ρ ++ [⟨w.heap.size, 0, false, 0⟩]) (h ++ [.cells t xs]) (w.alloc (.cells cs.toArray t)) := by
  refine I.news ⟨w.heap.size, 0, false, 0⟩ (.cells t xs) (fun i => i = w.heap.size) (Turns.alloc _ _ _ _) ?_ ?_
  · intro i hi
    subst hi
    exact ⟨Nat.le_refl _, by show _ < (w.heap.push _).size; simp⟩
  · exact ⟨rfl, rfl, cs, by show (w.heap.push _)[w.heap.size]? = _; simp, hr.mono (Pre.snoc _ _)⟩
theorem rel_newest (ρ : Env) (l : Loc) (off:Nat) {n : Nat} (hn : ρ.length = n) : Rel (ρ ++ [l]) (.ptr n off) (.pointer (some ⟨l.blk, l.off + off, none⟩)) :=
  ⟨l, by rw [List.getElem?_append_right (by omega)]; simp [hn], rfl⟩

theorem evBuiltin_sound {b : Builtin} {vs : List SV} {ts : List Nat} {cs : List Value} {r : SV} (H : evBuiltin P b vs ts = some r) (hr : RelL ρ vs cs) (ty : TypeId) (w : World) :
    ∃ v, (∀ consts : Array Bool, (builtin b ts.toArray ty consts cs.toArray).run P w = .ok (.value v) w) ∧ Rel ρ r v := by
  unfold evBuiltin at H
  split at H
  · rename_i x t
    obtain ⟨c, _, rfl, hx, rfl⟩ := hr
    unfold evLen at H
    split at H
    · rename_i ht
      cases H; simp only [Rel] at hx; subst hx
      exact ⟨_, fun _ => by simp [builtin, Builtin.len_, run_underlying ht, goInt], rfl⟩
    · rename_i ht
      cases H
      exact ⟨_, fun _ => by simp [builtin, Builtin.len_, run_underlying ht, goInt], rfl⟩
    · rename_i n _ _ m ht
      cases H
      obtain ⟨l, _, (⟨_, _, h2, rfl⟩ | ⟨_, _, a, rfl, _⟩)⟩ := hx
      · subst h2
        exact ⟨_, fun _ => by simp [builtin, Builtin.len_, run_underlying ht, goInt], rfl⟩
      · exact ⟨_, fun _ => by simp [builtin, Builtin.len_, run_underlying ht, goInt], rfl⟩
    · rename_i ht
      cases H; simp only [Rel] at hx; subst hx
      exact ⟨_, fun _ => by simp [builtin, Builtin.len_, run_underlying ht, goInt], rfl⟩
    · rename_i ht
      cases H; simp only [Rel] at hx; subst hx
      exact ⟨_, fun _ => by simp [builtin, Builtin.len_, run_underlying ht, goInt], rfl⟩
    · cases H
  · unfold minS at H
    split at H
    · split at H
      · rename_i e; subst e; cases H
        obtain ⟨c, _, rfl, hx, d, _, rfl, hy, rfl⟩ := hr
        simp only [Rel] at hx hy; subst hx hy
        exact ⟨_, fun _ => by simp [builtin, Builtin.min_, Builtin.min2], rfl⟩
      · cases H
    · split at H
      · rename_i e; obtain ⟨rfl, rfl⟩ := e; cases H
        obtain ⟨c, _, rfl, hx, d, _, rfl, hy, f, _, rfl, hz, rfl⟩ := hr
        simp only [Rel] at hx hy hz; subst hx hy hz
        exact ⟨_, fun _ => by simp [builtin, Builtin.min_, Builtin.min2], rfl⟩
      · cases H
    · cases H
  · unfold maxS at H
    split at H
    · split at H
      · rename_i e; subst e; cases H
        obtain ⟨c, _, rfl, hx, d, _, rfl, hy, rfl⟩ := hr
        simp only [Rel] at hx hy; subst hx hy
        exact ⟨_, fun _ => by simp [builtin, Builtin.max_, Builtin.max2], rfl⟩
      · cases H
    · split at H
      · rename_i e; obtain ⟨rfl, rfl⟩ := e; cases H
        obtain ⟨c, _, rfl, hx, d, _, rfl, hy, f, _, rfl, hz, rfl⟩ := hr
        simp only [Rel] at hx hy hz; subst hx hy hz
        exact ⟨_, fun _ => by simp [builtin, Builtin.max_, Builtin.max2], rfl⟩
      · cases H
    · cases H
  · cases H

theorem setMany_length : ∀ (vs xs : List SV) (off:Nat), (setMany xs off vs).length = xs.length
  | [], xs, off => rfl
  | v :: vs, xs, off => by simp [setMany, setMany_length vs]
theorem fillS_length {place : Nat → Option (Nat × Nat)} : ∀ {parts : List (Nat × SV)} {xs ys : List SV}, fillS place xs parts = some ys → ys.length = xs.length
  | [], xs, ys, h => by simp only [fillS, Option.some.injEq] at h; rw [h]
  | (i, v) :: rest, xs, ys, h => by
    simp only [fillS] at h
    split at h
    · split at h
      · rw [fillS_length h, setMany_length]
      · cases h
    · cases h

theorem evOpt_spec {ev : Operand → Option SV} {a : Act} (hev : ∀ x v, ev x = some v → Rel ρ v (a.eval x)) {x : Option Operand} {l : Option SV} (h : evOpt ev x = some l) :
    (l = none ∧ x.map a.eval = none) ∨ ∃ s v, l = some s ∧ x.map a.eval = some v ∧ Rel ρ s v := by
  cases x with
  | none => cases h; exact .inl ⟨rfl, rfl⟩
  | some x =>
    simp only [evOpt] at h
    split at h
    · rename_i v hv; cases h; exact .inr ⟨v, _, rfl, rfl, hev _ _ hv⟩
    · cases h
theorem evOp_sound {ev : Operand → Option SV} {a : Act} {o : Oper} {r : Option SV} {h' : List (HO T.R)} {need : Option Prop} (H : evOp P ev h o = some (r, h', need)) (hn : Nd need)
    (I : Inv T K w0 ρ h w) (hev : ∀ x v, ev x = some v → Rel ρ v (a.eval x)) : Does T K w0 P ρ a o w r h' := by
  unfold evOp at H
  split at H
  · rename_i x eo
    split at H
    · rename_i v hx; cases H
      exact .pure I (by simp [execOp, eo]) (hev _ _ hx)
    · cases H
  · rename_i x eo
    split at H
    · rename_i v hx; cases H
      exact .pure I (by simp [execOp, eo]) (hev _ _ hx)
    · cases H
  · rename_i t eo
    split at H
    · rename_i z hz; cases H
      obtain ⟨zv, e1, k1⟩ := zeroCellsOf_sound hz ρ w
      refine ⟨_, _, _, ?_, Pre.snoc _ _, I.newCells k1, .inl ⟨_, _, rfl, rfl, rel_newest ρ _ 0 I.len⟩⟩
      simp [execOp, eo, Instr.alloc, e1, newVar, newRow]
    · cases H
  · rename_i t x eo
    split at H
    · rename_i v hx; cases H
      refine ⟨_, _, _, ?_, Pre.snoc _ _, I.newCells (hev _ _ hx).cells, .inl ⟨_, _, rfl, rfl, rel_newest ρ _ 0 I.len⟩⟩
      simp [execOp, eo, Instr.box, newVar, newRow]
    · cases H
  · rename_i t ps eo
    split at H
    · rename_i l hl
      split at H
      · rename_i v hv; cases H
        obtain ⟨cv, e1, k1⟩ := evBuild_sound hv (evParts_sound hev hl) w
        refine .pure I ?_ k1
        have : (ps.map fun (x : Nat × Operand) => (x.1, a.eval x.2)) = (ps.toList.map fun (i, x) => (i, a.eval x)).toArray := by
          apply Array.toList_inj.1; simp
        simp [execOp, eo, this, e1]
      · cases H
    · cases H
  · rename_i t len ps eo
    split at H
    · rename_i l e hl ht
      split at H
      · rename_i sz z hs hz
        split at H
        · rename_i hc
          obtain ⟨hc1, hc2⟩ := hc
          split at H
          · rename_i xs hf
            split at H
            case h_2 => cases H
            rename_i hones
            cases H
            obtain ⟨zv, e1, k1⟩ := zeroCellsOf_sound hz ρ w
            have hzl := k1.length
            simp at hzl
            have hbase : RelL ρ ((List.range (len * (sz + 1))).map fun i => z.getD (i % z.length) default) ((Array.range (len * (sz + 1))).map fun i => zv.cells[i % zv.cells.size]!).toList := by
              rw [Array.toList_map, Array.toList_range]
              generalize List.range (len * (sz + 1)) = L
              induction L with
              | nil => rfl
              | cons i L ih =>
                refine ⟨_, _, rfl, ?_, ih⟩
                have hlt : i % z.length < z.length := Nat.mod_lt _ (by omega)
                obtain ⟨v, hv, k⟩ := k1.get (List.getElem?_eq_getElem hlt)
                dsimp only
                rw [List.getD_eq_getElem?_getD, List.getElem?_eq_getElem hlt]
                rw [hzl]
                have : zv.cells[i % z.length]! = v := by
                  have h2 : zv.cells[i % z.length]? = some v := by simpa using hv
                  simp [getElem!_def, h2]
                rw [this]
                exact k
            obtain ⟨ds, e2, k2⟩ := fillS_sound (evParts_sound hev hl) hbase hf
            have hfl : ds.toList.length = len * (sz + 1) := by
              have h1 := k2.length
              have h2 := fillS_length hf
              rw [h1, h2]
              simp
            have hparts : (ps.map fun (x : Nat × Operand) => (x.1, a.eval x.2)).toList = (ps.toList.map fun (i, x) => (i, a.eval x)) := by simp
            refine ⟨w.alloc (.cells ds e), ρ ++ [⟨w.heap.size, len, false, 0⟩], .value (.slice (some ⟨w.heap.size, 0, none⟩) len len), ?_, Pre.snoc _ _, ?_, .inl ⟨_, _, rfl, rfl, ?_⟩⟩
            · by_cases hz0 : len = 0
              · subst hz0
                have hd0 : ds = #[] := by apply Array.toList_inj.1; apply List.eq_nil_of_length_eq_zero; simpa using hfl
                subst hd0
                have e3 : Instr.fill (fun i => some (i * (sz + 1), sz + 1)) #[] (ps.toList.map fun (i, x) => (i, a.eval x)) = some #[] := by simpa [show Array.range 0 = #[] from rfl] using e2
                simp only [execOp, eo, Instr.buildSlice, Sem.run_bind, run_underlying ht, Result.andThen_ok, run_sizeOf hs, Nat.zero_mul, if_true, Sem.run_pure, hparts, newRow]
                have h24 : ¬ (0 > 2 ^ 24) := by omega
                simp only [h24, if_false, show Array.range 0 = #[] from rfl, List.map_toArray, List.map_nil, e3]
                simp
              · have hne : ¬ (len * (sz + 1) = 0) := by intro q; rcases Nat.mul_eq_zero.1 q with q | q <;> omega
                have hle : ¬ (2 ^ 24 < len * (sz + 1)) := by omega
                simp only [execOp, eo, Instr.buildSlice, Sem.run_bind, run_underlying ht, Result.andThen_ok, run_sizeOf hs, gt_iff_lt, if_neg hle, if_neg hne, e1, Sem.run_pure, hparts, e2, newRow]
                simp
            · refine I.news ⟨w.heap.size, len, false, 0⟩ _ (fun i => i = w.heap.size) (Turns.alloc _ _ _ _) ?_ ?_
              · intro i hi
                subst hi
                exact ⟨Nat.le_refl _, by show _ < (w.heap.push _).size; simp⟩
              · refine .inr ⟨rfl, rfl, rfl, Nat.le_refl _, ds.toList, by show (w.heap.push _)[w.heap.size]? = _; simp, hfl, ones_all hones k2, fun i hi => ?_⟩
                rw [rowEl_eq (by rw [fillS_length hf]; simp) hi]
                exact ((k2.mono (Pre.snoc _ _)).drop _).take _
            · refine ⟨⟨w.heap.size, len, false, 0⟩, by rw [List.getElem?_append_right (by have := I.len; omega)]; simp [I.len], .inr ⟨rfl, by simp, _, by simp; rfl, fun _ => by simp⟩⟩
          · cases H
        · cases H
      · cases H
    · cases H
  · rename_i t x eo
    split at H
    · rename_i v hx
      split at H
      · rename_i y n hy; cases H
        obtain ⟨cv, e1, k1⟩ := evLoad_sound hy hn I (hev _ _ hx)
        exact .pure I (by simp [execOp, eo, e1]) k1
      · cases H
    · cases H
  · rename_i t x y eo
    split at H
    · rename_i v1 v2 hx hy
      split at H
      · rename_i h1 n hs; cases H
        obtain ⟨w', e1, k1⟩ := evStore_sound hs hn I (hev _ _ hx) (hev _ _ hy)
        exact ⟨w', ρ, .skip, by simp [execOp, eo, e1], Pre.refl _, k1, .inr ⟨rfl, rfl⟩⟩
      · cases H
    · cases H
  · rename_i x eo
    split at H
    · rename_i v hx
      split at H
      · rename_i v' hv; cases H
        have hr := hev _ _ hx
        cases v <;> simp only [nilOk, Option.some.injEq, reduceCtorEq] at hv <;> subst hv
        · obtain ⟨l, hl, e⟩ := hr
          exact .pure I (by simp [execOp, eo, e]) ⟨l, hl, rfl⟩
        · obtain ⟨l, hl, e⟩ := hr
          exact .pure I (by simp [execOp, eo, e]) ⟨l, hl, rfl⟩
        · obtain ⟨cs, e, k⟩ := hr
          exact .pure I (by simp [execOp, eo, e]) ⟨cs, rfl, k⟩
      · cases H
    · cases H
  · rename_i op t x y yt eo
    split at H
    · rename_i v1 v2 hx hy
      split at H
      · rename_i q n hb; cases H
        obtain ⟨cv, e1, k1⟩ := evBin_sound hb hn (hev _ _ hx) (hev _ _ hy) x y w
        refine .pure I ?_ k1
        simp only [execOp, eo, Sem.run_bind] at e1 ⊢
        rw [e1]; rfl
      · cases H
    · cases H
  · rename_i op t x eo
    split at H
    · rename_i v hx
      split at H
      · rename_i q hb; cases H
        obtain ⟨cv, e1, k1⟩ := evUn_sound (P := P) hb (hev _ _ hx) w
        exact .pure I (by simp [execOp, eo, e1]) k1
      · cases H
    · cases H
  · rename_i s d x eo
    split at H
    · rename_i v hx
      split at H
      · rename_i q hb; cases H
        obtain ⟨cv, e1, k1⟩ := evConv_sound hb (hev _ _ hx) w
        exact .pure I (by simp [execOp, eo, e1]) k1
      · cases H
    · cases H
  · rename_i t x eo
    split at H
    · rename_i v hx hc; cases H
      refine .pure I ?_ ⟨_, rfl, hev _ _ hx⟩
      have : P.concrete t = true := by
        unfold concrete at hc
        unfold Program.concrete
        split at hc <;> simp_all
      simp [execOp, eo, run_makeInterface w t _ this]
    · cases H
  · rename_i f first captured eo
    split at H
    · rename_i cs h1 h2; cases H
      refine .pure I ?_ ⟨_, rfl, evArgs_sound hev h2⟩
      have e1 : first = #[] := by apply Array.toList_inj.1; simpa using h1
      have e2 : captured.map a.eval = (captured.toList.map a.eval).toArray := by apply Array.toList_inj.1; simp
      simp [execOp, eo, e1, e2, Instr.makeFunc]
    · cases H
  · rename_i s x f eo
    split at H
    · rename_i n off o' hx ho; cases H
      obtain ⟨l, hl, e⟩ := hev _ _ hx
      exact .pure (cv := .pointer (some ⟨l.blk, l.off + off + o', none⟩)) I (by simp [execOp, eo, e, fieldOff_sound ho]) ⟨l, hl, by rw [Nat.add_assoc]⟩
    · rename_i n sz i off o' hx ho; cases H
      obtain ⟨l, hl, e⟩ := hev _ _ hx
      exact .pure (cv := .pointer (some ⟨l.blk, l.off + (i * sz + off) + o', none⟩)) I (by simp [execOp, eo, e, fieldOff_sound ho]) ⟨l, hl, by rw [Nat.add_assoc, Nat.add_assoc]⟩
    · cases H; exact hn.elim
    · cases H
  · rename_i t x f eo
    split at H
    · rename_i v hx
      split at H
      · rename_i q hb; cases H
        obtain ⟨cv, e1, k1⟩ := evField_sound hb (hev _ _ hx) w
        exact .pure I (by simp [execOp, eo, e1]) k1
      · cases H
    · cases H
  · rename_i t x i eo
    split at H
    · rename_i v1 v2 hx hy
      split at H
      · rename_i q n hb; cases H
        obtain ⟨cv, e1, k1⟩ := evIndexAddr_sound hb hn (hev _ _ hx) (hev _ _ hy) w
        exact .pure I (by simp [execOp, eo, e1]) k1
      · cases H
    · cases H
  · rename_i t x i eo
    split at H
    · rename_i v1 v2 hx hy
      split at H
      · rename_i q n hb; cases H
        obtain ⟨cv, e1, k1⟩ := evIndex_sound hb hn (hev _ _ hx) (hev _ _ hy) w
        exact .pure I (by simp [execOp, eo, e1]) k1
      · cases H
    · cases H
  · rename_i x xt t ok eo
    split at H
    · rename_i v hx
      split at H
      · rename_i q hb; cases H
        obtain ⟨cv, e1, k1⟩ := evAssert_sound (xt := xt) hb (hev _ _ hx) w
        exact .pure I (by simp [execOp, eo, e1]) k1
      · cases H
    · cases H
  · rename_i x i eo
    split at H
    · rename_i l hx
      split at H
      · rename_i q hq; cases H
        obtain ⟨cs, e, hr⟩ := hev _ _ hx
        obtain ⟨cv, hcv, k⟩ := hr.get hq
        exact .pure I (by simp [execOp, eo, e, Instr.extract, hcv]) k
      · cases H
    · cases H
  · rename_i t x lo hi eo
    split at H
    · rename_i v l u hx hl hu
      split at H
      · rename_i q n hq; cases H
        obtain ⟨cv, e1, k1⟩ := evSlice_sound hq hn (hev _ _ hx) (evOpt_spec hev hl) (evOpt_spec hev hu) w
        exact .pure I (by simp [execOp, eo, e1]) k1
      · cases H
    · cases H
  · rename_i as ts eo
    split at H
    · rename_i x y t t' hvs hts
      split at H
      · rename_i q hq' n hq; cases H
        have e2 : as.map a.eval = (as.toList.map a.eval).toArray := by apply Array.toList_inj.1; simp
        obtain ⟨vx, _, e3, hx, vy, _, rfl, hy, rfl⟩ := evArgs_sound hev hvs
        obtain ⟨w', ρ', cv, e1, hp, I', k1⟩ := evAppend_sound (ty := o.type) hq hn I hx hy
        refine ⟨w', ρ', .value cv, ?_, hp, I', .inl ⟨_, _, rfl, rfl, k1⟩⟩
        have ets : ts = #[t, t'] := by apply Array.toList_inj.1; simpa using hts
        simp only [execOp, eo, resolve, invoke, Sem.run_bind, Sem.run_pure, Result.andThen_ok]
        rw [e2, e3, ets]
        simp [builtin, e1]
      · cases H
    · cases H
  · rename_i as ts eo
    split at H
    · rename_i x t hvs hts
      split at H
      · rename_i q n hq; cases H
        have e2 : as.map a.eval = (as.toList.map a.eval).toArray := by apply Array.toList_inj.1; simp
        obtain ⟨vx, _, e3, hx, rfl⟩ := evArgs_sound hev hvs
        obtain ⟨w', e1, I'⟩ := evClear_sound (ty := o.type) hq hn I hx
        refine ⟨w', ρ, .value (.tuple #[]), ?_, Pre.refl _, I', .inl ⟨_, _, rfl, rfl, ⟨[], rfl, rfl⟩⟩⟩
        have ets : ts = #[t] := by apply Array.toList_inj.1; simpa using hts
        simp only [execOp, eo, resolve, invoke, Sem.run_bind, Sem.run_pure, Result.andThen_ok]
        rw [e2, e3, ets]
        simp [builtin, e1]
      · cases H
    · cases H
  · rename_i b as ts hne hne2 eo
    split at H
    · rename_i vs hvs
      split at H
      · rename_i q hq; cases H
        have e2 : as.map a.eval = (as.toList.map a.eval).toArray := by apply Array.toList_inj.1; simp
        obtain ⟨cv, e1, k1⟩ := evBuiltin_sound hq (evArgs_sound hev hvs) o.type w
        refine .pure I ?_ k1
        simp only [execOp, eo, resolve, invoke, Sem.run_bind, Sem.run_pure, Result.andThen_ok]
        rw [e2]
        simpa using e1 _
      · cases H
    · cases H
  · cases H
end
end Go.Sx

namespace Go.Sx
open Go.RowKit

/-! ### Trees of outcomes -/
inductive Tr (α : Type) where
  | leaf (a : α)
  | ite (c : Bool) (x y : Tr α)
  | need (p : Prop) (x : Tr α)
def Tr.get {α : Type} : Tr α → α
  | .leaf a => a
  | .ite c x y => match c with
    | true => x.get
    | false => y.get
  | .need _ x => x.get
def Tr.ok {α : Type} : Tr α → Prop
  | .leaf _ => True
  | .ite c x y => (c = true → x.ok) ∧ (c = false → y.ok)
  | .need p x => p ∧ x.ok
def Tr.bind {α β : Type} (t : Tr α) (f : α → Option (Tr β)) : Option (Tr β) :=
  match t with
  | .leaf a => f a
  | .ite c x y => match x.bind f, y.bind f with
    | some u, some v => some (.ite c u v)
    | _, _ => none
  | .need p x => match x.bind f with
    | some u => some (.need p u)
    | none => none
def Tr.map {α β : Type} (f : α → β) : Tr α → Tr β
  | .leaf a => .leaf (f a)
  | .ite c x y => .ite c (x.map f) (y.map f)
  | .need p x => .need p (x.map f)
theorem Tr.map_get {α β : Type} (f : α → β) : ∀ t : Tr α, (t.map f).get = f t.get
  | .leaf _ => rfl
  | .ite c x y => by cases c <;> simp only [Tr.map, Tr.get] <;> exact Tr.map_get f _
  | .need _ x => Tr.map_get f x
theorem Tr.map_ok {α β : Type} (f : α → β) : ∀ t : Tr α, (t.map f).ok ↔ t.ok
  | .leaf _ => Iff.rfl
  | .ite c x y => by simp only [Tr.map, Tr.ok, Tr.map_ok f x, Tr.map_ok f y]
  | .need _ x => by simp only [Tr.map, Tr.ok, Tr.map_ok f x]
theorem Tr.bind_spec {α β : Type} {f : α → Option (Tr β)} : ∀ {t : Tr α} {u : Tr β}, t.bind f = some u → u.ok → t.ok ∧ ∃ v, f t.get = some v ∧ v.ok ∧ u.get = v.get
  | .leaf a, u, h, hu => ⟨trivial, u, h, hu, rfl⟩
  | .ite c x y, u, h, hu => by
    simp only [Tr.bind] at h
    split at h
    · rename_i u1 u2 h1 h2
      cases h
      cases c with
      | true =>
        obtain ⟨a, v, b⟩ := Tr.bind_spec h1 (hu.1 rfl)
        exact ⟨⟨fun _ => a, (fun e => by cases e)⟩, v, b⟩
      | false =>
        obtain ⟨a, v, b⟩ := Tr.bind_spec h2 (hu.2 rfl)
        exact ⟨⟨(fun e => by cases e), fun _ => a⟩, v, b⟩
    · cases h
  | .need p x, u, h, hu => by
    simp only [Tr.bind] at h
    split at h
    · rename_i u1 h1
      cases h
      obtain ⟨a, v, b⟩ := Tr.bind_spec h1 hu.2
      exact ⟨⟨hu.1, a⟩, v, b⟩
    · cases h
def Tr.single {α : Type} : Tr α → Option (Option Prop × α)
  | .leaf a => some (none, a)
  | .need p x => match x.single with
    | some (q, a) => some (andN (some p) q, a)
    | none => none
  | .ite _ _ _ => none
theorem Tr.single_spec {α : Type} : ∀ {t : Tr α} {p : Option Prop} {a : α}, t.single = some (p, a) → (Nd p → t.ok) ∧ t.get = a
  | .leaf _, _, _, h => by cases h; exact ⟨fun _ => trivial, rfl⟩
  | .need q x, p, a, h => by
    simp only [Tr.single] at h
    split at h
    · rename_i q' a' hx
      cases h
      obtain ⟨h1, h2⟩ := Tr.single_spec hx
      exact ⟨fun k => ⟨(andN_iff.1 k).1, h1 (andN_iff.1 k).2⟩, h2⟩
    · cases h
  | .ite _ _ _, _, _, h => by cases h

def mrgO {T : Theory} (c : Bool) : HO T.R → HO T.R → Option (HO T.R)
  | .gone, _ => some .gone
  | _, .gone => some .gone
  | .cells t xs, .cells u ys => if t = u then match mrgL c xs ys with
    | some l => some (.cells t l)
    | none => none
    else none
  | .res r, .res s => match T.merge c r s with
    | some q => some (.res q)
    | none => none
  | .row t sz len el, .row u sz' len' el' => if t = u ∧ sz = sz' then some (.row t sz (cnd c len len') fun i => rowSet c (el i) (el' i)) else none
  | _, _ => none
theorem mrgO_eq {T : Theory} {c : Bool} {a b o : HO T.R} (h : mrgO c a b = some o) : o = .gone ∨ o = cnd c a b := by
  unfold mrgO at h
  split at h
  · cases h; exact .inl rfl
  · cases h; exact .inl rfl
  · split at h
    · rename_i e; subst e
      split at h
      · rename_i l hl; cases h; right; rw [mrgL_eq _ _ _ _ hl]; cases c <;> rfl
      · cases h
    · cases h
  · split at h
    · rename_i q hq; cases h; right; have := T.merge_spec hq; subst this; cases c <;> rfl
    · cases h
  · split at h
    · rename_i e; obtain ⟨rfl, rfl⟩ := e; cases h; right; simp only [rowSet_eq]; cases c <;> rfl
    · cases h
  · cases h

def mem (n:Nat) : List Nat → Bool
  | [] => false
  | m :: l => match Nat.decEq n m with
    | isTrue _ => true
    | isFalse _ => mem n l
theorem mem_iff {n : Nat} : ∀ {l : List Nat}, mem n l = true ↔ n ∈ l
  | [] => by simp [mem]
  | m :: l => by
    simp only [mem, List.mem_cons]
    split
    · rename_i e _; simp [e]
    · rename_i e _; simp [e, mem_iff]
def mrgH {T : Theory} (c : Bool) (dt : List Nat) : (n:Nat) → (base x y : List (HO T.R)) → Option (List (HO T.R))
  | _, [], _, _ => some []
  | n, b :: bs, x :: xs, y :: ys => match mrgH c dt (n + 1) bs xs ys with
    | some l => match mem n dt with
      | true => match mrgO c x y with
        | some o => some (o :: l)
        | none => none
      | false => some (b :: l)
    | none => none
  | _, _, _, _ => none
theorem mrgH_spec {T : Theory} {c : Bool} {dt : List Nat} : ∀ {n : Nat} {base x y l : List (HO T.R)}, mrgH c dt n base x y = some l →
    l.length = base.length ∧ ∀ i b, base[i]? = some b → ∃ o u v, l[i]? = some o ∧ x[i]? = some u ∧ y[i]? = some v ∧ ((mem (n + i) dt = true ∧ (o = .gone ∨ o = cnd c u v)) ∨ (mem (n + i) dt = false ∧ o = b))
  | n, [], x, y, l, h => by simp only [mrgH, Option.some.injEq] at h; subst h; simp
  | n, b :: bs, [], y, l, h => by cases y <;> cases h
  | n, b :: bs, x :: xs, [], l, h => by cases h
  | n, b :: bs, x :: xs, y :: ys, l, h => by
    simp only [mrgH] at h
    split at h
    · rename_i l' hl'
      obtain ⟨h1, h2⟩ := mrgH_spec hl'
      split at h
      · rename_i hm
        split at h
        · rename_i o ho
          cases h
          refine ⟨by simp [h1], fun i b' hi => ?_⟩
          cases i with
          | zero => simp at hi; subst hi; exact ⟨o, x, y, rfl, rfl, rfl, .inl ⟨hm, mrgO_eq ho⟩⟩
          | succ i =>
            simp at hi
            obtain ⟨o', u, v, a1, a2, a3, a4⟩ := h2 i b' hi
            exact ⟨o', u, v, by simpa using a1, by simpa using a2, by simpa using a3, by rwa [show n + (i + 1) = n + 1 + i by omega]⟩
        · cases h
      · rename_i hm
        cases h
        refine ⟨by simp [h1], fun i b' hi => ?_⟩
        cases i with
        | zero => simp at hi; subst hi; exact ⟨_, x, y, rfl, rfl, rfl, .inr ⟨hm, rfl⟩⟩
        | succ i =>
          simp at hi
          obtain ⟨o', u, v, a1, a2, a3, a4⟩ := h2 i b' hi
          exact ⟨o', u, v, by simpa using a1, by simpa using a2, by simpa using a3, by rwa [show n + (i + 1) = n + 1 + i by omega]⟩
    · cases h
end Go.Sx

namespace Go.Sx
open Go.RowKit

structure St (R : Type) where
  slots : List (Option SV)
  heap : List (HO R)
  dirt : List Nat
  ws : List Nat

structure Grow {R : Type} (s s' : St R) : Prop where
  len : s.heap.length ≤ s'.heap.length
  slen : s'.slots.length = s.slots.length
  dirt : ∀ n, n ∈ s.dirt → n ∈ s'.dirt
  ws : ∀ n, n ∈ s.ws → n ∈ s'.ws
  heap : ∀ n, n < s.heap.length → n ∉ s'.dirt → s'.heap[n]? = s.heap[n]?
  slots : ∀ n, n ∉ s'.ws → s'.slots[n]? = s.slots[n]?
theorem Grow.refl {R : Type} (s : St R) : Grow s s := ⟨Nat.le_refl _, rfl, fun _ h => h, fun _ h => h, fun _ _ _ => rfl, fun _ _ => rfl⟩
theorem Grow.trans {R : Type} {a b c : St R} (h : Grow a b) (k : Grow b c) : Grow a c :=
  ⟨Nat.le_trans h.len k.len, k.slen.trans h.slen, fun n x => k.dirt n (h.dirt n x), fun n x => k.ws n (h.ws n x),
    fun n hn hd => (k.heap n (Nat.lt_of_lt_of_le hn h.len) hd).trans (h.heap n hn fun x => hd (k.dirt n x)),
    fun n hd => (k.slots n hd).trans (h.slots n fun x => hd (k.ws n x))⟩

abbrev CF (R : Type) := List SV → List (HO R) → Option (Tr (SV × List (HO R) × List Nat))

def Sound (P : Program) (T : Theory) (k:Nat) (C : CF T.R) : Prop :=
  ∀ args h t, C args h = some t → t.ok →
    (∀ K w0 ρ w vargs, Inv T K w0 ρ h w → RelL ρ args vargs → Calls P k vargs.toArray w fun e w' => ∃ ρ' cv, e = .returned cv ∧ Pre ρ ρ' ∧ Inv T K w0 ρ' t.get.2.1 w' ∧ Rel ρ' t.get.1 cv) ∧
    h.length ≤ t.get.2.1.length ∧ (∀ n, n < h.length → n ∉ t.get.2.2 → t.get.2.1[n]? = h[n]?)

structure StRel (T : Theory) (K : Nat → Prop) (w0 : World) (ρ : Env) (st : St T.R) (a : Act) (w : World) : Prop where
  size : a.tmps.size = st.slots.length
  defers : a.defers = []
  slots : ∀ t v, st.slots[t]? = some (some v) → Rel ρ v (a.tmps.getD t undef)
  inv : Inv T K w0 ρ st.heap w

/-! ### Guards -/
abbrev Path := List (Nat × Bool)
abbrev GT := List (Nat × Path × SV)
def holds (a : Act) (π : Path) : Prop := ∀ p, p ∈ π → a.tmps.getD p.1 undef = .bool p.2
def beqN (n m:Nat) : Bool := match Nat.decEq n m with
  | isTrue _ => true
  | isFalse _ => false
theorem beqN_iff {n m : Nat} : beqN n m = true ↔ n = m := by unfold beqN; split <;> simp_all
def beqB (a b : Bool) : Bool := match a, b with
  | true, true => true
  | false, false => true
  | _, _ => false
theorem beqB_iff {a b : Bool} : beqB a b = true ↔ a = b := by cases a <;> cases b <;> simp [beqB]
def prefixOf : Path → Path → Bool
  | [], _ => true
  | _ :: _, [] => false
  | (n, b) :: π, (m, c) :: σ => match beqN n m, beqB b c with
    | true, true => prefixOf π σ
    | _, _ => false
theorem prefixOf_mem : ∀ {π σ : Path}, prefixOf π σ = true → ∀ p, p ∈ π → p ∈ σ
  | [], _, _, p, hp => by cases hp
  | _ :: _, [], h, _, _ => by cases h
  | (n, b) :: π, (m, c) :: σ, h, p, hp => by
    simp only [prefixOf] at h
    split at h
    · rename_i h1 h2
      have e1 := beqN_iff.1 h1
      have e2 := beqB_iff.1 h2
      subst e1 e2
      rcases List.mem_cons.1 hp with rfl | hp
      · exact List.mem_cons_self
      · exact List.mem_cons_of_mem _ (prefixOf_mem h p hp)
    · cases h
def lookG : GT → Nat → Option (Path × SV)
  | [], _ => none
  | (t, π, v) :: g, n => match beqN t n with
    | true => some (π, v)
    | false => lookG g n
def mentions (d:Nat) : Path → Bool
  | [] => false
  | (n, _) :: π => match beqN n d with
    | true => true
    | false => mentions d π
theorem mentions_iff {d : Nat} : ∀ {π : Path}, mentions d π = false → ∀ p, p ∈ π → p.1 ≠ d
  | [], _, p, hp => by cases hp
  | (n, b) :: π, h, p, hp => by
    simp only [mentions] at h
    split at h
    · cases h
    · rename_i hn
      rcases List.mem_cons.1 hp with rfl | hp
      · exact fun e => by simp [beqN_iff.2 e] at hn
      · exact mentions_iff h p hp
def dropG (d:Nat) : GT → GT
  | [] => []
  | (t, π, v) :: g => match beqN t d, mentions d π with
    | false, false => (t, π, v) :: dropG d g
    | _, _ => dropG d g
theorem mem_dropG {d : Nat} : ∀ {g : GT} {x : Nat × Path × SV}, x ∈ dropG d g → x ∈ g ∧ x.1 ≠ d ∧ mentions d x.2.1 = false
  | [], x, h => by cases h
  | (t, π, v) :: g, x, h => by
    simp only [dropG] at h
    split at h
    · rename_i h1 h2
      rcases List.mem_cons.1 h with rfl | h
      · exact ⟨List.mem_cons_self, (fun e => by simp [beqN_iff.2 e] at h1), h2⟩
      · obtain ⟨a, b, c⟩ := mem_dropG h
        exact ⟨List.mem_cons_of_mem _ a, b, c⟩
    · obtain ⟨a, b, c⟩ := mem_dropG h
      exact ⟨List.mem_cons_of_mem _ a, b, c⟩

def evalG (slots : List (Option SV)) (g : GT) (π : Path) : Operand → Option SV
  | .tmp t => match lookG g t with
    | some (σ, v) => match prefixOf σ π with
      | true => some v
      | false => none
    | none => match slots[t]? with
      | some (some v) => some v
      | _ => none
  | .const v => ofValue v
  | .func f => some (.fn f [])
  | .global _ => none

structure GRel (ρ : Env) (slots : List (Option SV)) (g : GT) (a : Act) : Prop where
  size : a.tmps.size = slots.length
  slots : ∀ t v, slots[t]? = some (some v) → Rel ρ v (a.tmps.getD t undef)
  g : ∀ t x, x ∈ g → x.1 = t → (holds a x.2.1 → Rel ρ x.2.2 (a.tmps.getD t undef)) ∧ (¬ holds a x.2.1 → a.tmps.getD t undef = undef)

theorem lookG_mem : ∀ {g : GT} {n : Nat} {x : Path × SV}, lookG g n = some x → (n, x.1, x.2) ∈ g
  | [], _, _, h => by cases h
  | (t, π, v) :: g, n, x, h => by
    simp only [lookG] at h
    split at h
    · rename_i hn
      cases h
      have := beqN_iff.1 hn
      subst this
      exact List.mem_cons_self
    · exact List.mem_cons_of_mem _ (lookG_mem h)

theorem evalG_sound {ρ : Env} {slots : List (Option SV)} {g : GT} {a : Act} (H : GRel ρ slots g a) {π : Path} (hp : holds a π) : ∀ x v, evalG slots g π x = some v → Rel ρ v (a.eval x) := by
  intro x v h
  cases x with
  | tmp t =>
    simp only [evalG] at h
    split at h
    · rename_i σ u hl
      split at h
      · rename_i hpre
        cases h
        exact (H.g t _ (lookG_mem hl) rfl).1 fun p hp' => hp p (prefixOf_mem hpre p hp')
      · cases h
    · rename_i hl
      split at h
      · rename_i u hs
        cases h
        exact H.slots t _ hs
      · cases h
  | const c => exact ofValue_rel h ρ
  | func f => cases h; exact ⟨[], rfl, rfl⟩
  | global n => cases h

def pathB (slots : List (Option SV)) (g : GT) : Path → Path → Option Bool
  | _, [] => some true
  | pre, (t, w) :: rest => match evalG slots g pre (.tmp t), pathB slots g (pre ++ [(t, w)]) rest with
    | some (.bool b), some c => some (cnd (cnd w b (!b)) c false)
    | _, _ => none
theorem pathB_sound {ρ : Env} {slots : List (Option SV)} {g : GT} {a : Act} (H : GRel ρ slots g a) : ∀ {π pre : Path} {c : Bool}, pathB slots g pre π = some c → holds a pre → (c = true ↔ holds a π)
  | [], pre, c, h, hp => by cases h; exact ⟨fun _ p hp => (by cases hp), fun _ => rfl⟩
  | (t, w) :: rest, pre, c, h, hp => by
    simp only [pathB] at h
    split at h
    · rename_i b c' h1 h2
      cases h
      have hb : a.tmps.getD t undef = .bool b := evalG_sound H hp _ _ h1
      by_cases e : b = w
      · subst e
        have hpre : holds a (pre ++ [(t, b)]) := by
          intro p hp'
          rcases List.mem_append.1 hp' with h' | h'
          · exact hp p h'
          · simp at h'; subst h'; exact hb
        have ih := pathB_sound H h2 hpre
        have : cnd (cnd b b (!b)) c' false = c' := by cases b <;> rfl
        rw [this, ih]
        constructor
        · intro k p hp'
          rcases List.mem_cons.1 hp' with rfl | hp'
          · exact hb
          · exact k p hp'
        · exact fun k p hp' => k p (List.mem_cons_of_mem _ hp')
      · have : cnd (cnd w b (!b)) c' false = false := by cases b <;> cases w <;> first | rfl | exact absurd rfl e
        rw [this]
        refine ⟨fun x => (by cases x), fun k => ?_⟩
        have := k (t, w) List.mem_cons_self
        rw [hb] at this
        cases this
        exact absurd rfl e
    · cases h

def guardPath (ops : Array Oper) (g : GT) : Option (Nat × Bool) → Option Path
  | none => some []
  | some (j, w) => match ops[j]? with
    | some o => match o.dst with
      | some t => match lookG g t with
        | some (σ, _) => some (σ ++ [(t, w)])
        | none => some [(t, w)]
      | none => none
    | none => none

theorem guardPath_spec {ρ : Env} {slots : List (Option SV)} {g : GT} {a : Act} (H : GRel ρ slots g a) {ops : Array Oper} {o : Oper} {π : Path} {c : Bool} (h : guardPath ops g o.guard = some π)
    (hc : pathB slots g [] π = some c) : (Region.wanted o (yielded ops a.tmps) = true ↔ holds a π) := by
  unfold Region.wanted
  unfold guardPath at h
  cases hg : o.guard with
  | none =>
    rw [hg] at h
    cases h
    simp [holds]
  | some jw =>
    obtain ⟨j, w⟩ := jw
    rw [hg] at h
    simp only at h ⊢
    split at h
    · rename_i oj hoj
      split at h
      · rename_i t ht
        have hy : yielded ops a.tmps j = some w ↔ a.tmps.getD t undef = .bool w := by
          unfold yielded
          rw [hoj]
          simp only [Option.bind_some, ht]
          have : a.tmps.getD t undef = (a.tmps[t]?).getD undef := by simp [Array.getD_eq_getD_getElem?]
          rw [this]
          cases hq : a.tmps[t]? with
          | none => simp [undef]
          | some q => cases q <;> simp
        rw [show (yielded ops a.tmps j == some w) = true ↔ yielded ops a.tmps j = some w from beq_iff_eq, hy]
        split at h
        · rename_i σ v hl
          cases h
          have hG := H.g t _ (lookG_mem hl) rfl
          constructor
          · intro hw p hp
            rcases List.mem_append.1 hp with hp | hp
            · by_cases hh : holds a σ
              · exact hh p hp
              · have := hG.2 hh
                rw [this] at hw
                simp [undef] at hw
            · simp at hp; subst hp; exact hw
          · exact fun k => k (t, w) (by simp)
        · cases h
          exact ⟨fun hw p hp => by simp at hp; subst hp; exact hw, fun k => k (t, w) (by simp)⟩
      · cases h
    · cases h
end Go.Sx

namespace Go.Sx
open Go.RowKit

def pureOp : Op → Bool
  | .alloc _ => false
  | .box _ _ => false
  | .buildSlice _ _ _ => false
  | .store _ _ _ => false
  | .call c => match c.callee with
    | .builtin .append => false
    | .builtin .clear => false
    | _ => true
  | _ => true
def dirtOf (ev : Operand → Option SV) : Op → List Nat
  | .store _ x _ => match ev x with
    | some (.ptr n _) => [n]
    | some (.elt n _ _ _) => [n]
    | _ => []
  | .call c => match c.callee, c.args.toList with
    | .builtin .append, x :: _ => match ev x with
      | some (.slc n _ _ _) => [n]
      | _ => []
    | .builtin .clear, x :: _ => match ev x with
      | some (.slc n _ _ _) => [n]
      | _ => []
    | _, _ => []
  | _ => []

theorem evStore_frame {R : Type} {P : Program} {t : Nat} {h h' : List (HO R)} {a v : SV} {n : Option Prop} (H : evStore P t h a v = some (h', n)) :
    h'.length = h.length ∧ ∀ m, (∀ x, (∃ o, a = .ptr x o) ∨ (∃ s i o, a = .elt x s i o) → m ≠ x) → h'[m]? = h[m]? := by
  unfold evStore at H
  split at H
  · split at H
    · split at H
      · split at H
        · split at H
          · cases H
            exact ⟨by simp, fun m hm => by rw [List.getElem?_set_ne]; exact fun e => hm _ (.inl ⟨_, rfl⟩) e.symm⟩
          · cases H
        · cases H
      · split at H
        · split at H
          · cases H
            exact ⟨by simp, fun m hm => by rw [List.getElem?_set_ne]; exact fun e => hm _ (.inr ⟨_, _, _, rfl⟩) e.symm⟩
          · split at H
            · cases H
              exact ⟨by simp, fun m hm => by rw [List.getElem?_set_ne]; exact fun e => hm _ (.inr ⟨_, _, _, rfl⟩) e.symm⟩
            · cases H
        · split at H
          · split at H
            · cases H
              exact ⟨by simp, fun m hm => by rw [List.getElem?_set_ne]; exact fun e => hm _ (.inr ⟨_, _, _, rfl⟩) e.symm⟩
            · cases H
          · cases H
        · cases H
      · cases H
    · cases H
  · cases H

theorem evAppend_frame {R : Type} {P : Program} {t t' : Nat} {h h' : List (HO R)} {x y r : SV} {n : Option Prop} (H : evAppend P h t t' x y = some (r, h', n)) :
    h.length ≤ h'.length ∧ ∀ m, m < h.length → (∀ k s l c, x = .slc k s l c → m ≠ k) → h'[m]? = h[m]? := by
  unfold evAppend at H
  repeat' (first | (cases H; done) | split at H)
  all_goals cases H
  · exact ⟨by simp, fun m hm _ => by rw [List.getElem?_append_left hm]⟩
  · refine ⟨by simp, fun m hm hk => ?_⟩
    rw [List.getElem?_append_left (by simpa using hm), List.getElem?_set_ne]
    exact fun e => hk _ _ _ _ rfl e.symm
theorem evClear_frame {R : Type} {P : Program} {t : Nat} {h h' : List (HO R)} {x : SV} {n : Option Prop} (H : evClear P h t x = some (h', n)) :
    h.length ≤ h'.length ∧ ∀ m, m < h.length → (∀ k s l c, x = .slc k s l c → m ≠ k) → h'[m]? = h[m]? := by
  unfold evClear at H
  repeat' (first | (cases H; done) | split at H)
  all_goals cases H
  · refine ⟨by simp, fun m hm hk => ?_⟩
    rw [List.getElem?_set_ne]
    exact fun e => hk _ _ _ _ rfl e.symm
  · exact ⟨Nat.le_refl _, fun _ _ _ => rfl⟩
theorem evArgs_cons {ev : Operand → Option SV} {l : List Operand} {x : SV} {xs : List SV} (h : evArgs ev l = some (x :: xs)) : ∃ o os, l = o :: os ∧ ev o = some x := by
  cases l with
  | nil => simp [evArgs] at h
  | cons o os =>
    refine ⟨o, os, rfl, ?_⟩
    simp only [evArgs] at h
    split at h
    · rename_i v vs hv _; cases h; exact hv
    · cases h
theorem evOp_frame {R : Type} {P : Program} {ev : Operand → Option SV} {h h' : List (HO R)} {o : Oper} {r : Option SV} {n : Option Prop} (H : evOp P ev h o = some (r, h', n)) :
    h.length ≤ h'.length ∧ (∀ m, m < h.length → m ∉ dirtOf ev o.op → h'[m]? = h[m]?) ∧ (pureOp o.op = true → h' = h ∧ ∃ v, r = some v) := by
  have same : ∀ {v : SV}, h' = h → r = some v → h.length ≤ h'.length ∧ (∀ m, m < h.length → m ∉ dirtOf ev o.op → h'[m]? = h[m]?) ∧ (pureOp o.op = true → h' = h ∧ ∃ v, r = some v) := by
    rintro v rfl e
    exact ⟨Nat.le_refl _, fun _ _ _ => rfl, fun _ => ⟨rfl, v, e⟩⟩
  have more : ∀ {x : HO R}, pureOp o.op = false → h' = h ++ [x] → h.length ≤ h'.length ∧ (∀ m, m < h.length → m ∉ dirtOf ev o.op → h'[m]? = h[m]?) ∧ (pureOp o.op = true → h' = h ∧ ∃ v, r = some v) := by
    rintro x hp rfl
    exact ⟨by simp, fun m hm _ => by rw [List.getElem?_append_left hm], fun e => by rw [hp] at e; cases e⟩
  unfold evOp at H
  split at H
  case h_3 _ eo =>
    split at H
    · cases H; exact more (by rw [eo]; rfl) rfl
    · cases H
  case h_4 _ _ eo =>
    split at H
    · cases H; exact more (by rw [eo]; rfl) rfl
    · cases H
  case h_6 eo =>
    split at H
    · split at H
      · split at H
        · split at H
          · split at H
            · cases H; exact more (by rw [eo]; rfl) rfl
            · cases H
          · cases H
        · cases H
      · cases H
    · cases H
  case h_8 t x y eo =>
    split at H
    · rename_i va vv hx hy
      split at H
      · rename_i h2 n2 hs
        cases H
        obtain ⟨e1, e2⟩ := evStore_frame hs
        refine ⟨by omega, fun m hm hd => e2 m ?_, fun e => by rw [eo] at e; cases e⟩
        intro q hq
        rcases hq with ⟨o', rfl⟩ | ⟨s, i, o', rfl⟩
        · rw [eo] at hd; simp only [dirtOf, hx] at hd; exact fun e => hd (by simp [e])
        · rw [eo] at hd; simp only [dirtOf, hx] at hd; exact fun e => hd (by simp [e])
      · cases H
    · cases H
  case h_22 as ts eo =>
    split at H
    · rename_i x y t t' hvs hts
      split at H
      · rename_i q h2 n2 hs
        cases H
        obtain ⟨e1, e2⟩ := evAppend_frame hs
        obtain ⟨ox, os, eas, hx⟩ := evArgs_cons hvs
        refine ⟨e1, fun m hm hd => e2 m hm ?_, fun e => by rw [eo] at e; cases e⟩
        rintro k s l c rfl
        rw [eo] at hd; simp only [dirtOf, eas, hx] at hd
        exact fun e => hd (by simp [e])
      · cases H
    · cases H
  case h_23 as ts eo =>
    split at H
    · rename_i x t hvs hts
      split at H
      · rename_i h2 n2 hs
        cases H
        obtain ⟨e1, e2⟩ := evClear_frame hs
        obtain ⟨ox, os, eas, hx⟩ := evArgs_cons hvs
        refine ⟨e1, fun m hm hd => e2 m hm ?_, fun e => by rw [eo] at e; cases e⟩
        rintro k s l c rfl
        rw [eo] at hd; simp only [dirtOf, eas, hx] at hd
        exact fun e => hd (by simp [e])
      · cases H
    · cases H
  all_goals
    repeat' (first | (cases H; exact same rfl rfl) | (cases H; done) | split at H)

section
variable {ρ : Env} {slots : List (Option SV)} {g : GT} {a : Act}

theorem put_getD (a : Act) (d:Nat) (v : Value) (t:Nat) : (a.put (some d) v).tmps.getD t undef = if t = d ∧ d < a.tmps.size then v else a.tmps.getD t undef := by
  simp only [Act.put, Array.getD_eq_getD_getElem?, Array.getElem?_setIfInBounds]
  by_cases h : d = t
  · subst h
    by_cases h2 : d < a.tmps.size
    · simp [h2]
    · simp [h2]
  · simp [h, Ne.symm h]
theorem put_size (a : Act) (d : Option Tmp) (v : Value) : (a.put d v).tmps.size = a.tmps.size := by
  cases d <;> simp [Act.put]
theorem put_defers (a : Act) (d : Option Tmp) (v : Value) : (a.put d v).defers = a.defers := by
  cases d <;> simp [Act.put]
theorem put_holds {a : Act} {d : Nat} {v : Value} {π : Path} (h : mentions d π = false) : holds (a.put (some d) v) π ↔ holds a π := by
  have key : ∀ p, p ∈ π → (a.put (some d) v).tmps.getD p.1 undef = a.tmps.getD p.1 undef := fun p hp => by
    rw [put_getD, if_neg fun e => mentions_iff h p hp e.1]
  exact ⟨fun k p hp => by rw [← key p hp]; exact k p hp, fun k p hp => by rw [key p hp]; exact k p hp⟩

theorem GRel.mono {ρ' : Env} (H : GRel ρ slots g a) (hp : Pre ρ ρ') : GRel ρ' slots g a :=
  ⟨H.size, fun t v h => Rel.mono hp _ _ (H.slots t v h), fun t x h e => ⟨fun k => Rel.mono hp _ _ ((H.g t x h e).1 k), (H.g t x h e).2⟩⟩

theorem GRel.put {d : Nat} {r : Option SV} {cv : Value} (H : GRel ρ slots g a) (hr : ∀ v, r = some v → Rel ρ v cv) : GRel ρ (slots.set d r) (dropG d g) (a.put (some d) cv) := by
  refine ⟨by rw [put_size, List.length_set]; exact H.size, ?_, ?_⟩
  · intro t v hv
    rw [put_getD]
    by_cases e : t = d
    · subst e
      have hlt : t < slots.length := by
        have := (List.getElem?_eq_some_iff.1 hv).1
        simpa using this
      rw [if_pos ⟨rfl, by rw [H.size]; exact hlt⟩]
      rw [List.getElem?_set_self hlt] at hv
      cases hv
      exact hr v rfl
    · rw [if_neg fun k => e k.1]
      rw [List.getElem?_set_ne (fun k => e k.symm)] at hv
      exact H.slots t v hv
  · intro t x hx e
    obtain ⟨h1, h2, h3⟩ := mem_dropG hx
    subst e
    rw [put_getD, if_neg fun k => h2 k.1]
    have := H.g x.1 x h1 rfl
    rw [put_holds h3]
    exact this

theorem GRel.putG {d : Nat} {π : Path} {v : SV} {cv : Value} (H : GRel ρ slots g a) (hd : d < slots.length) (hm : mentions d π = false)
    (h1 : holds a π → Rel ρ v cv) (h2 : ¬ holds a π → cv = undef) : GRel ρ (slots.set d none) ((d, π, v) :: dropG d g) (a.put (some d) cv) := by
  have B := GRel.put (d := d) (r := none) (cv := cv) H (fun v e => by cases e)
  refine ⟨B.size, B.slots, ?_⟩
  intro t x hx e
  rcases List.mem_cons.1 hx with rfl | hx
  · subst e
    rw [put_getD, if_pos ⟨rfl, by rw [H.size]; exact hd⟩, put_holds hm]
    exact ⟨h1, h2⟩
  · exact B.g t x hx e
theorem GRel.drop {d : Nat} {cv : Value} (H : GRel ρ slots g a) : GRel ρ (slots.set d none) (dropG d g) (a.put (some d) cv) := GRel.put H (fun v e => by cases e)
end
end Go.Sx

namespace Go.Sx
open Go.RowKit

def gones {R : Type} : Nat → List (HO R)
  | 0 => []
  | n + 1 => .gone :: gones n
theorem gones_length {R : Type} : ∀ n, (gones n : List (HO R)).length = n
  | 0 => rfl
  | n + 1 => by simp [gones, gones_length n]
theorem gones_get {R : Type} : ∀ (n i:Nat) (o : HO R), (gones n)[i]? = some o → o = .gone
  | 0, i, o, h => by simp [gones] at h
  | n + 1, 0, o, h => by simp [gones] at h; exact h.symm
  | n + 1, i + 1, o, h => by simp [gones] at h; exact gones_get n i o h

def stepV {R : Type} (g : GT) (st : St R) (o : Oper) (π : Path) (v : Option SV) : GT × St R :=
  match o.dst with
  | none => (g, st)
  | some d => match o.guard with
    | none => (dropG d g, { st with slots := st.slots.set d v, ws := d :: st.ws })
    | some _ => match v with
      | some v => ((d, π, v) :: dropG d g, { st with slots := st.slots.set d none, ws := d :: st.ws })
      | none => (dropG d g, { st with slots := st.slots.set d none, ws := d :: st.ws })

def okPath (n:Nat) (o : Oper) (π : Path) : Bool :=
  match o.guard, o.dst with
  | none, _ => true
  | some _, none => true
  | some _, some d => match Nat.decLt d n, mentions d π with
    | isTrue _, false => true
    | _, _ => false

def evAlt (slots : List (Option SV)) (g : GT) (π σ : Path) (x : Operand) : Option SV :=
  match evalG slots g π x with
  | some v => some v
  | none => evalG slots g σ x
def evPick (slots : List (Option SV)) (g : GT) (π : Path) (x y z : Operand) : Option SV :=
  match x with
  | .tmp t => match evalG slots g π (.tmp t) with
    | some (.bool c) => match evAlt slots g π ((match lookG g t with | some (σ, _) => σ | none => []) ++ [(t, true)]) y, evAlt slots g π ((match lookG g t with | some (σ, _) => σ | none => []) ++ [(t, false)]) z with
      | some a, some b => mrg c a b
      | _, _ => none
    | _ => none
  | _ => none

def calleeOk (P : Program) (k:Nat) : Bool :=
  match P.funcs[k]? with
  | some fn => match fn.name == "runtime.NumGoroutine", fn.body with
    | false, some _ => true
    | _, _ => false
  | none => false

def needing {α : Type} (p : Option Prop) (o : Option (Tr α)) : Option (Tr α) :=
  match o with
  | some t => match p with
    | some p => some (.need p t)
    | none => some t
  | none => none

section
variable {R : Type}
def relax {R : Type} (lits : Nat → Bool) (all : Array Oper) (st : St R) (o : Oper) : Oper :=
  match o.guard with
  | some (j, w) => match all[j]? with
    | some oj => match oj.dst with
      | some t => match lits t with
        | true => match st.slots[t]? with
          | some (some (.bool b)) => match beqB b w with
            | true => { o with guard := none }
            | false => o
          | _ => o
        | false => o
      | none => o
    | none => o
  | none => o
def evOps (T : Theory) (P : Program) (tbl : Nat → Option (CF T.R)) (lits : Nat → Bool) (all : Array Oper) : List Oper → GT → St T.R → Option (Tr (St T.R))
  | [], _, st => some (.leaf st)
  | o :: rest, g, st => match relax lits all st o with
   | o => match guardPath all g o.guard with
    | none => none
    | some π => match pathB st.slots g [] π, okPath st.slots.length o π with
      | some c, true =>
        match o.op with
        | .pick x y z => match evPick st.slots g π x y z with
          | some v => evOps T P tbl lits all rest (stepV g st o π (some v)).1 (stepV g st o π (some v)).2
          | none => none
        | .call { callee := .value f, args := as, argTypes := _ } =>
          match evalG st.slots g π f, evArgs (evalG st.slots g π) as.toList with
          | some (.fn k caps), some vs => match calleeOk P k, tbl k with
            | true, some C => match C (vs ++ caps) st.heap with
              | some tr => match o.guard with
                | none => tr.bind fun r => evOps T P tbl lits all rest (stepV g { st with heap := r.2.1, dirt := r.2.2 ++ st.dirt } o π (some r.1)).1
                    (stepV g { st with heap := r.2.1, dirt := r.2.2 ++ st.dirt } o π (some r.1)).2
                | some _ => match tr.single with
                  | some (p, v, h', dt) => match mrgH c dt 0 st.heap h' st.heap with
                    | some hm => needing (whenN c p) (evOps T P tbl lits all rest (stepV g { st with heap := hm ++ gones (h'.length - st.heap.length), dirt := dt ++ st.dirt } o π (some v)).1
                        (stepV g { st with heap := hm ++ gones (h'.length - st.heap.length), dirt := dt ++ st.dirt } o π (some v)).2)
                    | none => none
                  | none => none
              | none => none
            | _, _ => none
          | _, _ => none
        | _ => match o.guard with
          | none => match evOp P (evalG st.slots g π) st.heap o with
            | some (v, h', n) => needing n (evOps T P tbl lits all rest (stepV g { st with heap := h', dirt := dirtOf (evalG st.slots g π) o.op ++ st.dirt } o π v).1
                (stepV g { st with heap := h', dirt := dirtOf (evalG st.slots g π) o.op ++ st.dirt } o π v).2)
            | none => none
          | some _ => match pureOp o.op, evOp P (evalG st.slots g π) st.heap o with
            | true, some (some v, _, n) => needing (whenN c n) (evOps T P tbl lits all rest (stepV g st o π (some v)).1 (stepV g st o π (some v)).2)
            | _, _ => none
      | _, _ => none
end

section
variable {P : Program} {T : Theory} {K : Nat → Prop} {w0 w : World} {ρ : Env} {h : List (HO T.R)}

theorem needing_spec {α : Type} {p : Option Prop} {o : Option (Tr α)} {t : Tr α} (H : needing p o = some t) (hok : t.ok) : Nd p ∧ ∃ u, o = some u ∧ u.ok ∧ u.get = t.get := by
  cases o with
  | none => cases H
  | some u =>
    cases p with
    | none => cases H; exact ⟨trivial, _, rfl, hok, rfl⟩
    | some p => cases H; exact ⟨hok.1, u, rfl, hok.2, rfl⟩

theorem Inv.weaken {h' : List (HO T.R)} (I : Inv T K w0 ρ h w) (hl : h'.length = h.length) (hw : ∀ (i:Nat) (o : HO T.R), h'[i]? = some o → o = HO.gone ∨ h[i]? = some o) : Inv T K w0 ρ h' w := by
  obtain ⟨h1, h2, F, h3, h4, h5⟩ := I
  refine ⟨by omega, h2, F, ?_, h4, fun n i hi => ⟨(h5 n i hi).1, (h5 n i hi).2.imp id fun q => ?_⟩⟩
  rotate_left
  · cases hq : h'[n]? with
    | none =>
      have : h[n]? = none := by rw [List.getElem?_eq_none_iff] at hq ⊢; omega
      rw [this] at q; exact q.elim
    | some o =>
      rcases hw n o hq with rfl | e
      · trivial
      · rw [e] at q; exact q
  intro n o l hn hl
  rcases hw n o hn with rfl | e
  · trivial
  · exact h3 n o l e hl
theorem Inv.pad (I : Inv T K w0 ρ h w) (k:Nat) : Inv T K w0 (ρ ++ List.replicate k ⟨0, 0, false, 0⟩) (h ++ gones k) w := by
  obtain ⟨h1, h2, F, h3, h4, h5⟩ := I
  refine ⟨by simp [h1, gones_length], h2, F, ?_, h4, fun n i hi => ⟨(h5 n i hi).1, (h5 n i hi).2.imp id fun q => ?_⟩⟩
  rotate_left
  · by_cases hlt : n < h.length
    · rw [List.getElem?_append_left hlt]; exact q
    · rw [List.getElem?_eq_none (by omega)] at q; exact q.elim
  intro n o l hn hl
  by_cases hlt : n < h.length
  · rw [List.getElem?_append_left hlt] at hn
    rw [List.getElem?_append_left (by omega)] at hl
    exact OHolds.mono ⟨_, rfl⟩ (h3 n o l hn hl) fun _ _ => rfl
  · rw [List.getElem?_append_right (by omega)] at hn
    have := gones_get _ _ _ hn
    subst this
    trivial

theorem stepV_grow {g : GT} {st : St T.R} {o : Oper} {π : Path} {v : Option SV} : Grow st (stepV g st o π v).2 := by
  unfold stepV
  have key : ∀ d r, Grow st { st with slots := st.slots.set d r, ws := d :: st.ws } := fun d r =>
    ⟨Nat.le_refl _, by simp, fun _ x => x, fun _ x => List.mem_cons_of_mem _ x, fun _ _ _ => rfl, fun n hn => by
      simp only [List.mem_cons, not_or] at hn
      simp only [List.getElem?_set_ne (fun e => hn.1 e.symm)]⟩
  split
  · exact Grow.refl _
  · split
    · exact key _ _
    · split <;> exact key _ _
theorem stepV_heap {g : GT} {st : St T.R} {o : Oper} {π : Path} {v : Option SV} : (stepV g st o π v).2.heap = st.heap := by
  unfold stepV
  split
  · rfl
  · split
    · rfl
    · split <;> rfl

theorem stepV_rel {g : GT} {st : St T.R} {o : Oper} {π : Path} {v : Option SV} {a : Act} {cv : Value} (H : GRel ρ st.slots g a) (hk : okPath st.slots.length o π = true)
    (hh : o.guard ≠ none → holds a π) (hv : ∀ u, v = some u → Rel ρ u cv) : GRel ρ (stepV g st o π v).2.slots (stepV g st o π v).1 (a.put o.dst cv) := by
  unfold stepV
  unfold okPath at hk
  cases hd : o.dst with
  | none => exact H
  | some d =>
    simp only
    cases hg : o.guard with
    | none => exact H.put hv
    | some x =>
      rw [hg, hd] at hk
      simp only at hk ⊢
      split at hk
      · rename_i hlt hm
        cases v with
        | none => exact H.drop
        | some u => exact H.putG (by assumption) hm (fun _ => hv u rfl) (fun k => absurd (hh (by simp [hg])) k)
      · cases hk
theorem stepV_skip {g : GT} {st : St T.R} {o : Oper} {π : Path} {v : Option SV} {a : Act} (H : GRel ρ st.slots g a) (hk : okPath st.slots.length o π = true)
    (hg : o.guard ≠ none) (hh : ¬ holds a π) : GRel ρ (stepV g st o π v).2.slots (stepV g st o π v).1 (a.put o.dst undef) := by
  unfold stepV
  unfold okPath at hk
  cases hd : o.dst with
  | none => exact H
  | some d =>
    simp only
    cases hg' : o.guard with
    | none => exact absurd hg' hg
    | some x =>
      rw [hg', hd] at hk
      simp only at hk ⊢
      split at hk
      · rename_i hlt hm
        cases v with
        | none => exact H.drop
        | some u => exact H.putG (by assumption) hm (fun k => absurd k hh) (fun _ => rfl)
      · cases hk

theorem evAlt_sound {slots : List (Option SV)} {g : GT} {a : Act} (H : GRel ρ slots g a) {π σ : Path} (hp : holds a π) (hs : holds a σ) {x : Operand} {v : SV} (e : evAlt slots g π σ x = some v) : Rel ρ v (a.eval x) := by
  unfold evAlt at e
  split at e
  · rename_i u hu; cases e; exact evalG_sound H hp _ _ hu
  · exact evalG_sound H hs _ _ e
theorem evPick_sound {slots : List (Option SV)} {g : GT} {a : Act} (H : GRel ρ slots g a) {π : Path} (hp : holds a π) {x y z : Operand} {v : SV} (e : evPick slots g π x y z = some v) :
    ∃ c, a.eval x = .bool c ∧ Rel ρ v (if c then a.eval y else a.eval z) := by
  unfold evPick at e
  split at e
  · rename_i t
    split at e
    · rename_i c hc
      have hb : a.tmps.getD t undef = .bool c := evalG_sound H hp _ _ hc
      split at e
      · rename_i va vb h1 h2
        refine ⟨c, hb, ?_⟩
        have hσ : ∀ w, c = w → holds a ((match lookG g t with | some (σ, _) => σ | none => []) ++ [(t, w)]) := by
          intro w hw p hp'
          rcases List.mem_append.1 hp' with hp' | hp'
          · split at hp'
            · rename_i σ u hl
              simp only [evalG, hl] at hc
              split at hc
              · rename_i hpre
                exact hp p (prefixOf_mem hpre p hp')
              · cases hc
            · cases hp'
          · simp at hp'; subst hp'; subst hw; exact hb
        have := mrg_eq _ _ _ _ e
        cases c with
        | true =>
          rw [this]
          exact evAlt_sound H hp (hσ true rfl) h1
        | false =>
          rw [this]
          exact evAlt_sound H hp (hσ false rfl) h2
      · cases e
    · cases e
  · cases e

theorem run_call {o : Oper} {a : Act} {f : Operand} {as : Array Operand} {ts : Array TypeId} {k : Nat} {cs : List Value} (ho : o.op = .call { callee := .value f, args := as, argTypes := ts })
    (hf : a.eval f = .func (.func k) #[] cs.toArray) (hk : calleeOk P k = true) (w : World) :
    (execOp a.eval o).run P w = .ok (.enter k (as.toList.map a.eval ++ cs).toArray) w := by
  unfold calleeOk at hk
  split at hk
  · rename_i fn hfn
    split at hk
    · rename_i b hn hb
      have e2 : as.map a.eval = (as.toList.map a.eval).toArray := by apply Array.toList_inj.1; simp
      simp only [execOp, ho, resolve, hf, Deferred.ofValue, Sem.run_bind, Sem.run_pure, Result.andThen_ok, invoke, callFunc, run_program, hfn]
      rw [if_neg (by simp [hn]), if_neg (by simp [hb])]
      simp
    · cases hk
  · cases hk
end
end Go.Sx

namespace Go.Sx
open Go.RowKit
section
variable {P : Program} {T : Theory} {K : Nat → Prop} {w0 w : World} {ρ : Env} {h : List (HO T.R)}

theorem mrgH_run {c : Bool} {dt : List Nat} {base h' hm : List (HO T.R)} (H : mrgH c dt 0 base h' base = some hm) (hl : base.length ≤ h'.length)
    (hf : ∀ n, n < base.length → n ∉ dt → h'[n]? = base[n]?) (hc : c = true) (I : Inv T K w0 ρ h' w) : Inv T K w0 ρ (hm ++ gones (h'.length - base.length)) w := by
  obtain ⟨h1, h2⟩ := mrgH_spec H
  refine I.weaken (by simp [h1, gones_length]; omega) ?_
  intro i o hi
  by_cases hlt : i < hm.length
  · rw [List.getElem?_append_left hlt] at hi
    obtain ⟨o', u, v, a1, a2, a3, a4⟩ := h2 i _ (List.getElem?_eq_getElem (by omega))
    rw [a1] at hi
    cases hi
    rcases a4 with ⟨_, rfl | rfl⟩ | ⟨hm', rfl⟩
    · exact .inl rfl
    · subst hc; exact .inr a2
    · right
      rw [hf i (by omega) (by rw [Nat.zero_add] at hm'; exact fun e => by rw [mem_iff.2 e] at hm'; cases hm')]
      exact List.getElem?_eq_getElem (by omega)
  · rw [List.getElem?_append_right (by omega)] at hi
    exact .inl (gones_get _ _ _ hi)
theorem mrgH_skip {c : Bool} {dt : List Nat} {base h' hm : List (HO T.R)} (H : mrgH c dt 0 base h' base = some hm) (hc : c = false) (I : Inv T K w0 ρ base w) (k:Nat) :
    Inv T K w0 (ρ ++ List.replicate k ⟨0, 0, false, 0⟩) (hm ++ gones k) w := by
  obtain ⟨h1, h2⟩ := mrgH_spec H
  refine (I.pad k).weaken (by simp [h1]) ?_
  intro i o hi
  by_cases hlt : i < hm.length
  · rw [List.getElem?_append_left hlt] at hi
    obtain ⟨o', u, v, a1, a2, a3, a4⟩ := h2 i _ (List.getElem?_eq_getElem (by omega))
    rw [a1] at hi
    cases hi
    rw [List.getElem?_append_left (by omega)]
    rcases a4 with ⟨_, rfl | rfl⟩ | ⟨hm', rfl⟩
    · exact .inl rfl
    · subst hc; exact .inr a3
    · right
      exact List.getElem?_eq_getElem (by omega)
  · rw [List.getElem?_append_right (by omega)] at hi
    exact .inl (gones_get _ _ _ hi)

def OpsSound (T : Theory) (P : Program) (all : Array Oper) (l : List Oper) (g : GT) (st st' : St T.R) : Prop :=
  Grow st st' ∧ ∀ K w0 ρ a w (Q : Exit → Act → World → Prop), GRel ρ st.slots g a → a.defers = [] → Inv T K w0 ρ st.heap w →
    (∀ ρ' a' w', Pre ρ ρ' → StRel T K w0 ρ' st' a' w' → Q .normal a' w') → wpList P all Q l a w

theorem relax_spec {lits : Nat → Bool} {all : Array Oper} {st : St T.R} {o : Oper} {g : GT} {a : Act} (hG : GRel ρ st.slots g a) (Q : Exit → Act → World → Prop) (rest : List Oper) (w : World) :
    wpList P all Q (o :: rest) a w = wpList P all Q (relax lits all st o :: rest) a w := by
  unfold relax
  split
  · rename_i j v hg
    split
    · rename_i oj hj
      split
      · rename_i t ht
        split
        · split
          · rename_i b hs
            split
            · rename_i hb
              have hbv := beqB_iff.1 hb
              subst hbv
              have e := hG.slots t _ hs
              have e : a.tmps.getD t undef = .bool b := e
              have hw : Region.wanted o (yielded all a.tmps) = true := by
                have e2 : a.tmps[t]? = some (.bool b) := by
                  rw [Array.getD_eq_getD_getElem?] at e
                  cases hq : a.tmps[t]? with
                  | none => rw [hq] at e; cases e
                  | some v => rw [hq] at e; simp at e; rw [e]
                unfold Region.wanted
                rw [hg]
                simp [yielded, hj, ht, e2]
              have hw' : Region.wanted { o with guard := none } (yielded all a.tmps) = true := rfl
              simp only [wpList, hw, hw', if_true]
              rfl
            · rfl
          · rfl
        · rfl
      · rfl
    · rfl
  · rfl
theorem evOps_sound {tbl : Nat → Option (CF T.R)} (hT : ∀ k C, tbl k = some C → Sound P T k C) {lits : Nat → Bool} {all : Array Oper} : ∀ (l : List Oper) (g : GT) (st : St T.R) (t : Tr (St T.R)),
    evOps T P tbl lits all l g st = some t → t.ok → OpsSound T P all l g st t.get := by
  intro l
  induction l with
  | nil =>
    intro g st t H hok
    simp only [evOps, Option.some.injEq] at H
    subst H
    refine ⟨Grow.refl _, fun K w0 ρ a w Q hG hd hI hQ => ?_⟩
    exact hQ ρ a w (Pre.refl _) ⟨hG.size, hd, hG.slots, hI⟩
  | cons o rest ih =>
    intro g st t H hok
    simp only [evOps] at H
    have key : ∀ {ρ : Env} {a : Act} (_ : GRel ρ st.slots g a) (Q : Exit → Act → World → Prop) (w : World), wpList P all Q (o :: rest) a w = wpList P all Q (relax lits all st o :: rest) a w := fun hG Q w => relax_spec hG Q rest w
    generalize relax lits all st o = o at H key
    split at H
    · cases H
    · rename_i π hπ
      split at H
      · rename_i c hc hk
        split at H
        · rename_i x y z eo
          split at H
          · rename_i v hv
            obtain ⟨hg1, hrun⟩ := ih _ _ _ H hok
            refine ⟨stepV_grow.trans hg1, fun K w0 ρ a w Q hG hd hI hQ => ?_⟩
            have hw := guardPath_spec hG hπ hc
            rw [key hG]
            simp only [wpList]
            split
            · rename_i hyes
              obtain ⟨b, hb, hr⟩ := evPick_sound hG (hw.1 hyes) hv
              refine .inl ?_
              have e : (execOp a.eval o).run P w = .ok (.value (if b then a.eval y else a.eval z)) w := by simp [execOp, eo, hb, asBool]
              simp only [Oper.wp, e, Oper.upon_value]
              exact hrun K w0 ρ _ w Q (stepV_rel hG hk (fun _ => hw.1 hyes) (fun u hu => by cases hu; exact hr)) (by rw [put_defers]; exact hd) (by rw [stepV_heap]; exact hI) hQ
            · rename_i hno
              have hgn : o.guard ≠ none := fun e => hno (by simp [Region.wanted, e])
              exact hrun K w0 ρ _ w Q (stepV_skip hG hk hgn (fun k => hno (hw.2 k))) (by rw [put_defers]; exact hd) (by rw [stepV_heap]; exact hI) hQ
          · cases H
        · rename_i f as ts eo
          split at H
          · rename_i k caps vs hf has
            split at H
            · rename_i C hco hC
              split at H
              · rename_i tr htr
                split at H
                · rename_i hgn
                  obtain ⟨hok1, u, hu, hok2, hget⟩ := Tr.bind_spec H hok
                  obtain ⟨hg1, hrun⟩ := ih _ _ _ hu hok2
                  obtain ⟨hcall, hlen, hfr⟩ := hT k C hC _ _ _ htr hok1
                  rw [hget]
                  refine ⟨Grow.trans (b := { st with heap := tr.get.2.1, dirt := tr.get.2.2 ++ st.dirt }) ⟨hlen, rfl, fun n hn => List.mem_append_right _ hn, fun _ x => x, fun n hn hnd => ?_, fun _ _ => rfl⟩ (stepV_grow.trans hg1), fun K w0 ρ a w Q hG hd hI hQ => ?_⟩
                  · exact hfr n hn fun e => hnd (List.mem_append_left _ e)
                  · have hw := guardPath_spec hG hπ hc
                    have hyes : Region.wanted o (yielded all a.tmps) = true := by simp [Region.wanted, hgn]
                    rw [key hG]
                    simp only [wpList, hyes, if_true]
                    refine .inl ?_
                    obtain ⟨cs, hfe, hcs⟩ := evalG_sound hG (hw.1 hyes) _ _ hf
                    have hargs := (evArgs_sound (evalG_sound hG (hw.1 hyes)) has).append hcs
                    simp only [Oper.wp, run_call eo hfe hco w, Oper.upon_enter]
                    refine (hcall K w0 ρ w _ hI hargs).mono ?_
                    rintro e w' ⟨ρ', cv, rfl, hpre, hI', hr⟩
                    exact hrun K w0 ρ' _ w' Q (stepV_rel (hG.mono hpre) hk (fun _ => hw.1 hyes) (fun u hu => by cases hu; exact hr)) (by rw [put_defers]; exact hd)
                      (by rw [stepV_heap]; exact hI') (fun ρ'' a' w'' hp => hQ ρ'' a' w'' (hpre.trans hp))
                · rename_i jw hgs
                  split at H
                  · rename_i p v h' dt hs
                    split at H
                    · rename_i hm hmr
                      obtain ⟨hp, u, hu, hok2, hget⟩ := needing_spec H hok
                      obtain ⟨hg1, hrun⟩ := ih _ _ _ hu hok2
                      obtain ⟨hs1, hs2⟩ := Tr.single_spec hs
                      rw [← hget]
                      have hml := (mrgH_spec hmr).1
                      have hfrm := (mrgH_spec hmr).2
                      refine ⟨Grow.trans (b := { st with heap := hm ++ gones (h'.length - st.heap.length), dirt := dt ++ st.dirt }) ⟨by simp [hml], rfl, fun n hn => List.mem_append_right _ hn, fun _ x => x, fun n hn hnd => ?_, fun _ _ => rfl⟩ (stepV_grow.trans hg1), fun K w0 ρ a w Q hG hd hI hQ => ?_⟩
                      · obtain ⟨o', _, _, a1, _, _, a4⟩ := hfrm n _ (List.getElem?_eq_getElem hn)
                        show (hm ++ _)[n]? = _
                        rw [List.getElem?_append_left (by omega), a1]
                        rcases a4 with ⟨e, _⟩ | ⟨_, rfl⟩
                        · rw [Nat.zero_add] at e
                          exact absurd (List.mem_append_left _ (mem_iff.1 e)) hnd
                        · exact (List.getElem?_eq_getElem hn).symm
                      · have hw := guardPath_spec hG hπ hc
                        have hcw := pathB_sound hG hc (by intro p hp; cases hp)
                        rw [key hG]
                        simp only [wpList]
                        split
                        · rename_i hyes
                          have hct : c = true := hcw.2 (hw.1 hyes)
                          obtain ⟨hcall, hlen, hfr⟩ := hT k C hC _ _ _ htr (hs1 (whenN_out hp hct))
                          rw [hs2] at hcall hlen hfr
                          refine .inl ?_
                          obtain ⟨cs, hfe, hcs⟩ := evalG_sound hG (hw.1 hyes) _ _ hf
                          have hargs := (evArgs_sound (evalG_sound hG (hw.1 hyes)) has).append hcs
                          simp only [Oper.wp, run_call eo hfe hco w, Oper.upon_enter]
                          refine (hcall K w0 ρ w _ hI hargs).mono ?_
                          rintro e w' ⟨ρ', cv, rfl, hpre, hI', hr⟩
                          exact hrun K w0 ρ' _ w' Q (stepV_rel (hG.mono hpre) hk (fun _ => hw.1 hyes) (fun u hu => by cases hu; exact hr)) (by rw [put_defers]; exact hd)
                            (by rw [stepV_heap]; exact mrgH_run hmr hlen hfr hct hI') (fun ρ'' a' w'' hp => hQ ρ'' a' w'' (hpre.trans hp))
                        · rename_i hno
                          have hcf : c = false := by
                            cases c
                            · rfl
                            · exact absurd (hw.2 (hcw.1 rfl)) hno
                          have hpre : Pre ρ (ρ ++ List.replicate (h'.length - st.heap.length) ⟨0, 0, false, 0⟩) := ⟨_, rfl⟩
                          exact hrun K w0 _ _ w Q (stepV_skip (hG.mono hpre) hk (by simp [hgs]) (fun k => hno (hw.2 k))) (by rw [put_defers]; exact hd)
                            (by rw [stepV_heap]; exact mrgH_skip hmr hcf hI _) (fun ρ'' a' w'' hp => hQ ρ'' a' w'' (hpre.trans hp))
                    · cases H
                  · cases H
              · cases H
            · cases H
          · cases H
        · rename_i hnp hnc
          split at H
          · rename_i hgn
            split at H
            · rename_i v h' n he
              obtain ⟨hn, u, hu, hok2, hget⟩ := needing_spec H hok
              obtain ⟨hg1, hrun⟩ := ih _ _ _ hu hok2
              rw [← hget]
              obtain ⟨f1, f2, _⟩ := evOp_frame he
              refine ⟨Grow.trans (b := { st with heap := h', dirt := dirtOf (evalG st.slots g π) o.op ++ st.dirt }) ⟨f1, rfl, fun n hn => List.mem_append_right _ hn, fun _ x => x, fun n hn hnd => ?_, fun _ _ => rfl⟩ (stepV_grow.trans hg1), fun K w0 ρ a w Q hG hd hI hQ => ?_⟩
              · exact f2 n hn fun e => hnd (List.mem_append_left _ e)
              · have hw := guardPath_spec hG hπ hc
                have hyes : Region.wanted o (yielded all a.tmps) = true := by simp [Region.wanted, hgn]
                rw [key hG]
                simp only [wpList, hyes, if_true]
                refine .inl ?_
                obtain ⟨w', ρ', nx, e1, hpre, hI', hres⟩ := evOp_sound he hn hI (evalG_sound hG (hw.1 hyes))
                simp only [Oper.wp, e1]
                rcases hres with ⟨vv, cv, rfl, rfl, hr⟩ | ⟨rfl, rfl⟩
                · rw [Oper.upon_value]
                  exact hrun K w0 ρ' _ w' Q (stepV_rel (hG.mono hpre) hk (fun _ => hw.1 hyes) (fun u hu => by cases hu; exact hr)) (by rw [put_defers]; exact hd)
                    (by rw [stepV_heap]; exact hI') (fun ρ'' a' w'' hp => hQ ρ'' a' w'' (hpre.trans hp))
                · rw [Oper.upon_skip]
                  exact hrun K w0 ρ' _ w' Q (stepV_rel (hG.mono hpre) hk (fun _ => hw.1 hyes) (fun u hu => by cases hu)) (by rw [put_defers]; exact hd)
                    (by rw [stepV_heap]; exact hI') (fun ρ'' a' w'' hp => hQ ρ'' a' w'' (hpre.trans hp))
            · cases H
          · rename_i jw hgs
            split at H
            · rename_i v h' n hpu he
              obtain ⟨hn, u, hu, hok2, hget⟩ := needing_spec H hok
              obtain ⟨hg1, hrun⟩ := ih _ _ _ hu hok2
              rw [← hget]
              obtain ⟨_, _, f3⟩ := evOp_frame he
              obtain ⟨rfl, _⟩ := f3 hpu
              refine ⟨stepV_grow.trans hg1, fun K w0 ρ a w Q hG hd hI hQ => ?_⟩
              have hw := guardPath_spec hG hπ hc
              have hcw := pathB_sound hG hc (by intro p hp; cases hp)
              rw [key hG]
              simp only [wpList]
              split
              · rename_i hyes
                refine .inl ?_
                obtain ⟨w', ρ', nx, e1, hpre, hI', hres⟩ := evOp_sound he (whenN_out hn (hcw.2 (hw.1 hyes))) hI (evalG_sound hG (hw.1 hyes))
                simp only [Oper.wp, e1]
                rcases hres with ⟨vv, cv, hvv, rfl, hr⟩ | ⟨hvv, _⟩
                · cases hvv
                  rw [Oper.upon_value]
                  exact hrun K w0 ρ' _ w' Q (stepV_rel (hG.mono hpre) hk (fun _ => hw.1 hyes) (fun u hu => by cases hu; exact hr)) (by rw [put_defers]; exact hd)
                    (by rw [stepV_heap]; exact hI') (fun ρ'' a' w'' hp => hQ ρ'' a' w'' (hpre.trans hp))
                · cases hvv
              · rename_i hno
                exact hrun K w0 ρ _ w Q (stepV_skip hG hk (by simp [hgs]) (fun k => hno (hw.2 k))) (by rw [put_defers]; exact hd) (by rw [stepV_heap]; exact hI) hQ
            · cases H
      · cases H
end
end Go.Sx

namespace Go.Sx
open Go.RowKit

inductive Ex where
  | normal
  | exit (id:Nat)
  | ret
def Ex.to : Ex → Exit
  | .normal => .normal
  | .exit id => .exit id
  | .ret => .ret
def Ex.jump : Ex → Bool
  | .normal => false
  | _ => true

def hd : List (Option SV) → Option SV
  | [] => none
  | x :: _ => x
def tl : List (Option SV) → List (Option SV)
  | [] => []
  | _ :: xs => xs
def mrgSlots (c : Bool) (ws : List Nat) : Nat → List (Option SV) → List (Option SV) → List (Option SV) → List (Option SV)
  | _, [], _, _ => []
  | t, b :: bs, xs, ys => (match mem t ws with
    | true => match hd xs, hd ys with
      | some u, some v => mrg c u v
      | _, _ => none
    | false => b) :: mrgSlots c ws (t + 1) bs (tl xs) (tl ys)
def maxN (a b:Nat) : Nat := match Nat.decLe a b with
  | isTrue _ => b
  | isFalse _ => a
def tailM {T : Theory} (c : Bool) : List (HO T.R) → List (HO T.R) → List (HO T.R)
  | [], ys => gones ys.length
  | x :: xs, [] => gones (xs.length + 1)
  | x :: xs, y :: ys => (match mrgO c x y with
    | some o => o
    | none => .gone) :: tailM c xs ys
theorem tailM_length {T : Theory} {c : Bool} : ∀ (xs ys : List (HO T.R)), (tailM c xs ys).length = maxN xs.length ys.length
  | [], ys => by simp only [tailM, gones_length, List.length_nil]; unfold maxN; split <;> omega
  | x :: xs, [] => by simp only [tailM, gones_length, List.length_nil, List.length_cons]; unfold maxN; split <;> omega
  | x :: xs, y :: ys => by
    simp only [tailM, List.length_cons, tailM_length xs ys]
    unfold maxN; split <;> split <;> omega
theorem tailM_get {T : Theory} {c : Bool} : ∀ {xs ys : List (HO T.R)} {i : Nat} {o : HO T.R}, (tailM c xs ys)[i]? = some o → o = .gone ∨ ∃ u v, xs[i]? = some u ∧ ys[i]? = some v ∧ o = cnd c u v
  | [], ys, i, o, h => .inl (gones_get _ _ _ h)
  | x :: xs, [], i, o, h => .inl (gones_get _ _ _ h)
  | x :: xs, y :: ys, 0, o, h => by
    simp only [tailM, List.getElem?_cons_zero, Option.some.injEq] at h
    split at h
    · rename_i o' ho
      subst h
      rcases mrgO_eq ho with e | e
      · exact .inl e
      · exact .inr ⟨x, y, rfl, rfl, e⟩
    · exact .inl h.symm
  | x :: xs, y :: ys, i + 1, o, h => by
    simp only [tailM, List.getElem?_cons_succ] at h
    simpa using tailM_get h
def dropL {α : Type} : Nat → List α → List α
  | 0, l => l
  | _ + 1, [] => []
  | n + 1, _ :: l => dropL n l
theorem dropL_eq {α : Type} : ∀ (n:Nat) (l : List α), dropL n l = l.drop n
  | 0, l => by simp [dropL]
  | n + 1, [] => by simp [dropL]
  | n + 1, a :: l => by simp [dropL, dropL_eq n l]
def tailK {T : Theory} (kp : Bool) (c : Bool) (n:Nat) (x y : List (HO T.R)) : List (HO T.R) := match kp with
  | true => tailM c (dropL n x) (dropL n y)
  | false => gones (maxN x.length y.length - n)
theorem tailK_length {T : Theory} {kp c : Bool} {n : Nat} {x y : List (HO T.R)} : (tailK kp c n x y).length = maxN x.length y.length - n := by
  unfold tailK
  cases kp
  · exact gones_length _
  · simp only [tailM_length, dropL_eq, List.length_drop]
    unfold maxN; split <;> split <;> omega
theorem tailK_get {T : Theory} {kp c : Bool} {n : Nat} {x y : List (HO T.R)} {i : Nat} {o : HO T.R} (h : (tailK kp c n x y)[i]? = some o) : o = .gone ∨ ∃ u v, x[n + i]? = some u ∧ y[n + i]? = some v ∧ o = cnd c u v := by
  unfold tailK at h
  cases kp
  · exact .inl (gones_get _ _ _ h)
  · simp only [dropL_eq] at h
    have := tailM_get h
    simpa [List.getElem?_drop] using this
def nonil : List Nat → Bool
  | [] => false
  | _ => true
def someS : Option (Option SV) → Bool
  | some (some _) => true
  | _ => false
def keepOk : List Nat → List (Option SV) → List (Option SV) → List (Option SV) → Bool
  | [], _, _, _ => true
  | n :: ns, xs, ys, ms => match someS xs[n]?, someS ys[n]?, someS ms[n]? with
    | true, true, false => false
    | _, _, _ => keepOk ns xs ys ms
def noMrg (kp d : List Nat) : Bool := match mem 999998 kp with
  | true => nonil d
  | false => false
def mrgSt {T : Theory} (kp : List Nat) (c : Bool) (base x y : St T.R) : Option (St T.R) :=
  match noMrg kp (x.dirt ++ y.dirt), mrgH c (x.dirt ++ y.dirt) 0 base.heap x.heap y.heap with
  | false, some h => match keepOk kp x.slots y.slots (mrgSlots c (x.ws ++ y.ws) 0 base.slots x.slots y.slots) with
    | true => some { slots := mrgSlots c (x.ws ++ y.ws) 0 base.slots x.slots y.slots, heap := h ++ tailK (nonil kp) c base.heap.length x.heap y.heap, dirt := x.dirt ++ y.dirt, ws := x.ws ++ y.ws }
    | false => none
  | _, _ => none

def mkY {T : Theory} (kp : List Nat) (c : Bool) (base : St T.R) (x : Tr (Ex × St T.R)) : Tr (Ex × St T.R) → Tr (Ex × St T.R)
  | .need p y => .need (c = false → p) (mkY kp c base x y)
  | .ite b (.leaf l) y => match l.1.jump with
    | true => .ite (cnd c false b) (.leaf l) (mkY kp c base x y)
    | false => .ite c x (.ite b (.leaf l) y)
  | .leaf l => match x with
    | .leaf k => match k.1, l.1 with
      | .normal, .normal => match mrgSt kp c base k.2 l.2 with
        | some s => .leaf (.normal, s)
        | none => .ite c x (.leaf l)
      | .normal, _ => .ite (cnd c false true) (.leaf l) x
      | _, _ => .ite c x (.leaf l)
    | _ => .ite c x (.leaf l)
  | y => .ite c x y
def mkX {T : Theory} (kp : List Nat) (c : Bool) (base : St T.R) (y : Tr (Ex × St T.R)) : Tr (Ex × St T.R) → Tr (Ex × St T.R)
  | .need p x => .need (c = true → p) (mkX kp c base y x)
  | .ite b (.leaf l) x => match l.1.jump with
    | true => .ite (cnd c b false) (.leaf l) (mkX kp c base y x)
    | false => mkY kp c base (.ite b (.leaf l) x) y
  | .leaf l => match l.1.jump with
    | true => .ite c (.leaf l) y
    | false => mkY kp c base (.leaf l) y
  | x => mkY kp c base x y
def renorm {T : Theory} (kp : List Nat) (base : St T.R) : Tr (Ex × St T.R) → Tr (Ex × St T.R)
  | .leaf l => .leaf l
  | .need p x => .need p (renorm kp base x)
  | .ite c x y => mkX kp c base (renorm kp base y) (renorm kp base x)

section
variable {P : Program} {T : Theory}

def Wk (T : Theory) (s s' : St T.R) : Prop := ∀ K w0 ρ a w, StRel T K w0 ρ s a w → ∃ ρ', Pre ρ ρ' ∧ StRel T K w0 ρ' s' a w
theorem Wk.refl (s : St T.R) : Wk T s s := fun _ _ ρ _ _ h => ⟨ρ, Pre.refl _, h⟩
theorem Wk.trans {a b c : St T.R} (h : Wk T a b) (k : Wk T b c) : Wk T a c := fun K w0 ρ ac w r => by
  obtain ⟨ρ1, p1, r1⟩ := h K w0 ρ ac w r
  obtain ⟨ρ2, p2, r2⟩ := k K w0 ρ1 ac w r1
  exact ⟨ρ2, p1.trans p2, r2⟩
theorem Wk.dirt {s : St T.R} (d e : List Nat) : Wk T s { s with dirt := d, ws := e } := fun _ _ ρ _ _ h => ⟨ρ, Pre.refl _, ⟨h.size, h.defers, h.slots, h.inv⟩⟩

theorem mrgSlots_length {c : Bool} {ws : List Nat} : ∀ {t : Nat} {b x y : List (Option SV)}, (mrgSlots c ws t b x y).length = b.length
  | t, [], x, y => by simp [mrgSlots]
  | t, b :: bs, x, y => by simp [mrgSlots, mrgSlots_length]
theorem hd_get {x : List (Option SV)} {u : SV} (h : hd x = some u) : x[0]? = some (some u) := by
  cases x with
  | nil => cases h
  | cons a x => simp only [hd] at h; subst h; rfl
theorem tl_get {x : List (Option SV)} (i:Nat) : (tl x)[i]? = x[i + 1]? := by cases x <;> simp [tl]
theorem mrgSlots_get {c : Bool} {ws : List Nat} : ∀ {t : Nat} {b x y : List (Option SV)} {i : Nat} {v : SV}, (mrgSlots c ws t b x y)[i]? = some (some v) →
    (mem (t + i) ws = true ∧ ∃ u u', x[i]? = some (some u) ∧ y[i]? = some (some u') ∧ v = cnd c u u') ∨ (mem (t + i) ws = false ∧ b[i]? = some (some v))
  | t, [], x, y, i, v, h => by simp [mrgSlots] at h
  | t, b :: bs, x, y, 0, v, h => by
    simp only [mrgSlots, List.getElem?_cons_zero, Option.some.injEq] at h
    split at h
    · rename_i hm
      split at h
      · rename_i u u' h1 h2
        exact .inl ⟨hm, u, u', hd_get h1, hd_get h2, mrg_eq _ _ _ _ h⟩
      · cases h
    · rename_i hm
      exact .inr ⟨hm, by simp [h]⟩
  | t, b :: bs, x, y, i + 1, v, h => by
    simp only [mrgSlots, List.getElem?_cons_succ] at h
    have := mrgSlots_get h
    rw [tl_get, tl_get] at this
    rw [show t + (i + 1) = t + 1 + i by omega]
    simpa using this
theorem mrgSlots_keep {c : Bool} {ws : List Nat} : ∀ {t : Nat} {b x y : List (Option SV)} {i : Nat}, mem (t + i) ws = false → (mrgSlots c ws t b x y)[i]? = b[i]?
  | t, [], x, y, i, h => by simp [mrgSlots]
  | t, b :: bs, x, y, 0, h => by
    rw [Nat.add_zero] at h
    simp [mrgSlots, h]
  | t, b :: bs, x, y, i + 1, h => by
    simp only [mrgSlots, List.getElem?_cons_succ]
    exact mrgSlots_keep (by rwa [show t + 1 + i = t + (i + 1) by omega])

theorem maxN_l (a b:Nat) : a ≤ maxN a b := by unfold maxN; split <;> omega
theorem maxN_r (a b:Nat) : b ≤ maxN a b := by unfold maxN; split <;> omega

theorem mrgSt_spec {kp : List Nat} {c : Bool} {base x y s : St T.R} (H : mrgSt kp c base x y = some s) :
    Grow { base with dirt := [], ws := [] } s ∧ (c = true → Grow { base with dirt := [], ws := [] } x → Wk T x s) ∧ (c = false → Grow { base with dirt := [], ws := [] } y → Wk T y s) := by
  unfold mrgSt at H
  split at H
  · rename_i h _ hm
    split at H
    case h_2 => cases H
    cases H
    obtain ⟨h1, h2⟩ := mrgH_spec hm
    have core : ∀ (z : St T.R) (hz : Grow { base with dirt := [], ws := [] } z), (∀ n, n ∈ z.dirt → n ∈ x.dirt ++ y.dirt) → (∀ n, n ∈ z.ws → n ∈ x.ws ++ y.ws) →
        z.heap.length ≤ maxN x.heap.length y.heap.length →
        (∀ i b, base.heap[i]? = some b → ∃ o u, h[i]? = some o ∧ z.heap[i]? = some u ∧ ((mem i (x.dirt ++ y.dirt) = true ∧ (o = .gone ∨ o = u)) ∨ (mem i (x.dirt ++ y.dirt) = false ∧ o = b))) →
        (∀ i v, (mrgSlots c (x.ws ++ y.ws) 0 base.slots x.slots y.slots)[i]? = some (some v) → (mem i (x.ws ++ y.ws) = true ∧ z.slots[i]? = some (some v)) ∨ (mem i (x.ws ++ y.ws) = false ∧ base.slots[i]? = some (some v))) →
        (c = true ∧ z = x ∨ c = false ∧ z = y) →
        Wk T z { slots := mrgSlots c (x.ws ++ y.ws) 0 base.slots x.slots y.slots, heap := h ++ tailK (nonil kp) c base.heap.length x.heap y.heap, dirt := x.dirt ++ y.dirt, ws := x.ws ++ y.ws } := by
      intro z hz hzd hzw hlen hheap hslots hwho K w0 ρ a w r
      have hzl := hz.len
      have e1 : z.heap.length + (maxN x.heap.length y.heap.length - z.heap.length) = maxN x.heap.length y.heap.length := by omega
      have hpre : Pre ρ (ρ ++ List.replicate (maxN x.heap.length y.heap.length - z.heap.length) ⟨0, 0, false, 0⟩) := ⟨_, rfl⟩
      refine ⟨_, hpre, ⟨by rw [mrgSlots_length, r.size]; exact hz.slen, r.defers, ?_, ?_⟩⟩
      · intro t v hv
        rcases hslots t v hv with ⟨_, e⟩ | ⟨hm', e⟩
        · exact Rel.mono hpre _ _ (r.slots t v e)
        · refine Rel.mono hpre _ _ (r.slots t v ?_)
          rw [hz.slots t (fun k => by rw [mem_iff.2 (hzw t k)] at hm'; cases hm')]
          exact e
      · refine (r.inv.pad (maxN x.heap.length y.heap.length - z.heap.length)).weaken (by simp only [List.length_append, tailK_length, gones_length, h1]; simp only at hzl; omega) ?_
        intro i o hi
        by_cases hlt : i < h.length
        · rw [List.getElem?_append_left hlt] at hi
          obtain ⟨o', u, a1, a2, a3⟩ := hheap i _ (List.getElem?_eq_getElem (by omega))
          rw [a1] at hi
          cases hi
          have hiz : i < z.heap.length := (List.getElem?_eq_some_iff.1 a2).1
          rw [List.getElem?_append_left hiz]
          rcases a3 with ⟨_, rfl | rfl⟩ | ⟨hm', rfl⟩
          · exact .inl rfl
          · exact .inr a2
          · right
            rw [hz.heap i (by show i < base.heap.length; omega) (fun k => by rw [mem_iff.2 (hzd i k)] at hm'; cases hm')]
            exact List.getElem?_eq_getElem (show i < base.heap.length by omega)
        · rw [List.getElem?_append_right (by omega)] at hi
          rcases tailK_get hi with e | ⟨u, v, e1, e2, e3⟩
          · exact .inl e
          · rw [h1, show base.heap.length + (i - base.heap.length) = i by omega] at e1 e2
            right
            rcases hwho with ⟨rfl, rfl⟩ | ⟨rfl, rfl⟩
            · rw [List.getElem?_append_left (List.getElem?_eq_some_iff.1 e1).1, e1, e3]; rfl
            · rw [List.getElem?_append_left (List.getElem?_eq_some_iff.1 e2).1, e2, e3]; rfl
    refine ⟨⟨by simp only [List.length_append, tailK_length, gones_length, h1]; omega, mrgSlots_length, fun n hn => (by cases hn), fun n hn => (by cases hn), ?_, ?_⟩, ?_, ?_⟩
    · intro n hn hd
      obtain ⟨o, u, v, a1, _, _, a4⟩ := h2 n _ (List.getElem?_eq_getElem hn)
      show (h ++ _)[n]? = _
      rw [List.getElem?_append_left (by simp only at hn; omega), a1]
      rcases a4 with ⟨e, _⟩ | ⟨_, rfl⟩
      · rw [Nat.zero_add] at e
        exact absurd (mem_iff.1 e) hd
      · exact (List.getElem?_eq_getElem hn).symm
    · intro n hn
      refine mrgSlots_keep ?_
      rw [Nat.zero_add]
      cases hm' : mem n (x.ws ++ y.ws) with
      | false => rfl
      | true => exact absurd (mem_iff.1 hm') hn
    · intro hc hz
      refine core x hz (fun n k => List.mem_append_left _ k) (fun n k => List.mem_append_left _ k) (maxN_l _ _) ?_ ?_ (.inl ⟨hc, rfl⟩)
      · intro i b hb
        obtain ⟨o, u, v, a1, a2, _, a4⟩ := h2 i b hb
        rw [Nat.zero_add] at a4
        subst hc
        exact ⟨o, u, a1, a2, a4⟩
      · intro i v hv
        have := mrgSlots_get hv
        rw [Nat.zero_add] at this
        subst hc
        rcases this with ⟨hm', u, u', a1, _, rfl⟩ | r
        · exact .inl ⟨hm', a1⟩
        · exact .inr r
    · intro hc hz
      refine core y hz (fun n k => List.mem_append_right _ k) (fun n k => List.mem_append_right _ k) (maxN_r _ _) ?_ ?_ (.inr ⟨hc, rfl⟩)
      · intro i b hb
        obtain ⟨o, u, v, a1, _, a2, a4⟩ := h2 i b hb
        rw [Nat.zero_add] at a4
        subst hc
        exact ⟨o, v, a1, a2, a4⟩
      · intro i v hv
        have := mrgSlots_get hv
        rw [Nat.zero_add] at this
        subst hc
        rcases this with ⟨hm', u, u', _, a1, rfl⟩ | r
        · exact .inl ⟨hm', a1⟩
        · exact .inr r
  · cases H
end
end Go.Sx

namespace Go.Sx
open Go.RowKit

mutual
def scp (n:Nat) : SV → Bool
  | .ptr m _ => match Nat.decLt m n with
    | isTrue _ => true
    | isFalse _ => false
  | .elt m _ _ _ => match Nat.decLt m n with
    | isTrue _ => true
    | isFalse _ => false
  | .slc m _ _ _ => match Nat.decLt m n with
    | isTrue _ => true
    | isFalse _ => false
  | .map m => match Nat.decLt m n with
    | isTrue _ => true
    | isFalse _ => false
  | .fn _ cs => scpL n cs
  | .ifc _ v => scp n v
  | .agg l => scpL n l
  | .tup l => scpL n l
  | _ => true
def scpL (n:Nat) : List SV → Bool
  | [] => true
  | v :: l => match scp n v with
    | true => scpL n l
    | false => false
end

section
variable {P : Program} {T : Theory}

mutual
theorem scoped_down {ρ e : Env} : ∀ (v : SV) (c : Value), scp ρ.length v = true → Rel (ρ ++ e) v c → Rel ρ v c
  | .bool _, _, _, r => r
  | .int _ _, _, _, r => r
  | .str _, _, _, r => r
  | .ptr _ _, _, h, r => by
    obtain ⟨l, hl, q⟩ := r
    simp only [scp] at h
    split at h
    · rename_i hlt _; rw [List.getElem?_append_left hlt] at hl; exact ⟨l, hl, q⟩
    · cases h
  | .elt _ _ _ _, _, h, r => by
    obtain ⟨l, hl, q⟩ := r
    simp only [scp] at h
    split at h
    · rename_i hlt _; rw [List.getElem?_append_left hlt] at hl; exact ⟨l, hl, q⟩
    · cases h
  | .nilp, _, _, r => r
  | .slc _ _ _ _, _, h, r => by
    obtain ⟨l, hl, q⟩ := r
    simp only [scp] at h
    split at h
    · rename_i hlt _; rw [List.getElem?_append_left hlt] at hl; exact ⟨l, hl, q⟩
    · cases h
  | .nils, _, _, r => r
  | .map _, _, h, r => by
    obtain ⟨l, hl, q⟩ := r
    simp only [scp] at h
    split at h
    · rename_i hlt _; rw [List.getElem?_append_left hlt] at hl; exact ⟨l, hl, q⟩
    · cases h
  | .nilm, _, _, r => r
  | .fn _ caps, _, h, r => by obtain ⟨cs, q, k⟩ := r; exact ⟨cs, q, scopedL_down caps cs h k⟩
  | .nilf, _, _, r => r
  | .ifc _ x, _, h, r => by obtain ⟨y, q, k⟩ := r; exact ⟨y, q, scoped_down x y h k⟩
  | .nili, _, _, r => r
  | .agg l, _, h, r => by obtain ⟨cs, q, k⟩ := r; exact ⟨cs, q, scopedL_down l cs h k⟩
  | .tup l, _, h, r => by obtain ⟨cs, q, k⟩ := r; exact ⟨cs, q, scopedL_down l cs h k⟩
theorem scopedL_down {ρ e : Env} : ∀ (l : List SV) (cs : List Value), scpL ρ.length l = true → RelL (ρ ++ e) l cs → RelL ρ l cs
  | [], _, _, r => r
  | x :: xs, _, h, r => by
    obtain ⟨y, ys, q, k1, k2⟩ := r
    simp only [scpL] at h
    split at h
    · rename_i h1
      exact ⟨y, ys, q, scoped_down x y h1 k1, scopedL_down xs ys h k2⟩
    · cases h
end
theorem pure_call {k : Nat} {C : CF T.R} (hC : Sound P T k C) {args : List SV} {t : Tr (SV × List (HO T.R) × List Nat)} {v : SV} (hc : C args [] = some t) (hok : t.ok) (hg : t.get = (v, [], [])) (ha : scpL 0 args = true)
    {K : Nat → Prop} {w0 w : World} {ρ : Env} {h : List (HO T.R)} {vargs : List Value} (I : Inv T K w0 ρ h w) (hr : RelL ρ args vargs) :
    Calls P k vargs.toArray w fun e w' => ∃ cv, e = .returned cv ∧ Inv T K w0 ρ h w' ∧ Rel ρ v cv := by
  have hr0 : RelL [] args vargs := scopedL_down (ρ := []) (e := ρ) _ _ ha hr
  have I0 : Inv T (fun i => i < w.heap.size) w [] [] w := by
    refine ⟨rfl, ⟨rfl, rfl, rfl, Nat.le_refl _, fun i hi => hi, fun _ _ => rfl, fun _ => rfl⟩, fun _ _ => False, ?_, ?_, ?_⟩
    · intro n o l hn; simp at hn
    · intro n m i hf; exact hf.elim
    · intro n i hf; exact hf.elim
  refine ((hC args [] t hc hok).1 _ w [] w vargs I0 hr0).mono ?_
  rintro e w' ⟨ρ', cv, rfl, _, I', hrv⟩
  rw [hg] at I' hrv
  have h0 : ρ' = [] := List.eq_nil_of_length_eq_zero I'.len
  subst h0
  refine ⟨cv, rfl, ?_, Rel.mono ⟨ρ, rfl⟩ _ _ hrv⟩
  obtain ⟨h1, h2, F, h3, h4, h5⟩ := I
  have ht : Turns (fun _ => False) w w' := ⟨I'.kept.os, I'.kept.tape, I'.kept.output, I'.kept.size, fun i hi _ => I'.kept.rest i hi, I'.kept.frz⟩
  refine ⟨h1, h2.turns ht (fun _ f => f.elim), F, ?_, h4, fun n i hi => ⟨Nat.lt_of_lt_of_le (h5 n i hi).1 ht.size, (h5 n i hi).2⟩⟩
  intro n o l hn hl
  exact OHolds.mono (Pre.refl _) (h3 n o l hn hl) fun i hi => ht.rest i (h5 n i hi).1 id

end
end Go.Sx

