/- A symbolic executor over the model's code, proved sound for whatever program; part 3. No conditions. -/
import Derived.Test.YtdeaddkppjdacaaSx2
namespace Go.Sx
open Go.RowKit

/-! ### States weakened, renamed, with what is not named dropped; loops whose objects move -/
section
variable {T : Theory}

/-- From a state to another one, over the first n0 names. -/
def WkB (T : Theory) (n0 : Nat) (s s' : St T.R) : Prop :=
  ∀ K w0 ρ0 ρ a w, ρ0.length = n0 → Pre ρ0 ρ → StRel T K w0 ρ s a w → ∃ ρ', Pre ρ0 ρ' ∧ StRel T K w0 ρ' s' a w
theorem WkB.refl (n0 : Nat) (s : St T.R) : WkB T n0 s s := fun _ _ _ ρ _ _ _ hp r => ⟨ρ, hp, r⟩
theorem WkB.trans {n0 : Nat} {a b c : St T.R} (h : WkB T n0 a b) (k : WkB T n0 b c) : WkB T n0 a c := fun K w0 ρ0 ρ ac w hl hp r => by
  obtain ⟨ρ1, p1, r1⟩ := h K w0 ρ0 ρ ac w hl hp r
  exact k K w0 ρ0 ρ1 ac w hl p1 r1
theorem WkB.of {n0 : Nat} {s s' : St T.R} (h : Wk T s s') : WkB T n0 s s' := fun K w0 ρ0 ρ ac w _ hp r => by
  obtain ⟨ρ1, p1, r1⟩ := h K w0 ρ ac w r
  exact ⟨ρ1, hp.trans p1, r1⟩

/-- Objects that say no more: alike, gone, or rows that are alike as far as they go. -/
def HOw {R : Type} (o o' : HO R) : Prop := o' = o ∨ o' = .gone ∨ ∃ t sz len el el', o = .row t sz len el ∧ o' = .row t sz len el' ∧ ∀ i, i < len → el i = el' i
inductive HOws {R : Type} : List (HO R) → List (HO R) → Prop
  | nil : HOws [] []
  | cons {o o' : HO R} {h h' : List (HO R)} : HOw o o' → HOws h h' → HOws (o :: h) (o' :: h')
theorem HOw.refl {R : Type} (o : HO R) : HOw o o := .inl rfl
theorem HOw.row {R : Type} {t sz len : Nat} {el el' : Nat → List SV} (h : ∀ i, i < len → el i = el' i) : HOw (.row t sz len el : HO R) (.row t sz len el') := .inr (.inr ⟨t, sz, len, el, el', rfl, rfl, h⟩)
theorem HOws.refl {R : Type} : ∀ h : List (HO R), HOws h h
  | [] => .nil
  | _ :: h => .cons (.inl rfl) (HOws.refl h)
theorem HOws.length {R : Type} : ∀ {h h' : List (HO R)}, HOws h h' → h'.length = h.length
  | _, _, .nil => rfl
  | _, _, .cons _ k => by simp [k.length]
theorem HOws.get {R : Type} : ∀ {h h' : List (HO R)} {i : Nat} {o' : HO R}, HOws h h' → h'[i]? = some o' → ∃ o, h[i]? = some o ∧ HOw o o'
  | _, _, _, _, .nil, e => by simp at e
  | _, _, 0, _, .cons q _, e => by simp at e; subst e; exact ⟨_, rfl, q⟩
  | _, _, i + 1, _, .cons _ k, e => by simp at e; simpa using k.get e
theorem OHolds.weak {ρ : Env} {l : Loc} {F : Nat → Prop} {w : World} {o o' : HO T.R} (H : OHolds T ρ l F w o) (h : HOw o o') : OHolds T ρ l F w o' := by
  rcases h with rfl | rfl | ⟨t, sz, len, el, el', rfl, rfl, h⟩
  · exact H
  · trivial
  · rcases H with H | ⟨a1, a2, a3, cs, a4, a5, a6, a7⟩
    · exact .inl H
    · exact .inr ⟨a1, a2, a3, cs, a4, a5, a6, fun i hi => by rw [← h i hi]; exact a7 i hi⟩
theorem Inv.weak {K : Nat → Prop} {w0 w : World} {ρ : Env} {h h' : List (HO T.R)} (I : Inv T K w0 ρ h w) (hh : HOws h h') : Inv T K w0 ρ h' w := by
  obtain ⟨a, b, F, c, d, e⟩ := I
  refine ⟨by rw [hh.length]; exact a, b, F, ?_, d, e⟩
  intro n o l hn hl
  obtain ⟨o0, h0, hw⟩ := hh.get hn
  exact (c n o0 l h0 hl).weak hw
theorem WkB.weak {n0 : Nat} {s s' : St T.R} (ns : List Nat) (h1 : blank ns s.slots = s'.slots) (h2 : HOws s.heap s'.heap) : WkB T n0 s s' := by
  intro K w0 ρ0 ρ a w _ hp h
  obtain ⟨b1, b2⟩ := blank_spec (ns := ns) (l := s.slots)
  exact ⟨ρ, hp, ⟨by rw [h.size, ← h1, b1], h.defers, fun t v hv => h.slots t v (b2 t v (by rw [h1]; exact hv)), h.inv.weak h2⟩⟩

/-- Beyond the first n0 names only these are kept; they get the next numbers. -/
def gcF (n0 : Nat) (names : List Nat) (j : Nat) : Option Nat :=
  match Nat.decLt j n0 with
  | isTrue _ => some j
  | isFalse _ => addO n0 (posOf names 0 j)
def gcS (f : Nat → Option Nat) : List (Option SV) → List (Option SV)
  | [] => []
  | some v :: l => ren f v :: gcS f l
  | none :: l => none :: gcS f l
theorem gcS_length {f : Nat → Option Nat} : ∀ l : List (Option SV), (gcS f l).length = l.length
  | [] => rfl
  | some _ :: l => by simp [gcS, gcS_length l]
  | none :: l => by simp [gcS, gcS_length l]
theorem gcS_get {f : Nat → Option Nat} : ∀ {l : List (Option SV)} {t : Nat} {v : SV}, (gcS f l)[t]? = some (some v) → ∃ u, l[t]? = some (some u) ∧ ren f u = some v
  | [], t, v, h => by simp [gcS] at h
  | some x :: l, 0, v, h => by simp [gcS] at h; exact ⟨x, rfl, h⟩
  | none :: l, 0, v, h => by simp [gcS] at h
  | some x :: l, t + 1, v, h => by simp [gcS] at h; simpa using gcS_get h
  | none :: l, t + 1, v, h => by simp [gcS] at h; simpa using gcS_get h
def gcSt (n0 : Nat) (names : List Nat) (s : St T.R) : Option (Option Prop × St T.R) :=
  match nodupB (iota n0 0 ++ names), getH (gcF n0 names) s.heap (iota n0 0 ++ names) with
  | true, some h => some (needH (rawH s.heap (iota n0 0 ++ names)), { slots := gcS (gcF n0 names) s.slots, heap := h, dirt := s.dirt, ws := s.ws })
  | _, _ => none
theorem WkB.gc {n0 : Nat} {names : List Nat} {s s' : St T.R} {need : Option Prop} (h : gcSt n0 names s = some (need, s')) (hn : Nd need) : WkB T n0 s s' := by
  unfold gcSt at h
  split at h
  · rename_i hm hnd hget
    cases h
    intro K w0 ρ0 ρ a w hl hp r
    obtain ⟨e, rfl⟩ := hp
    obtain ⟨gl, gspec⟩ := getH_spec hget
    have il : (iota n0 0 ++ names).length = n0 + names.length := by simp [iota_length]
    let dl : Loc := ⟨0, 0, false⟩
    have hlt : ∀ (i n : Nat), (iota n0 0 ++ names)[i]? = some n → n < (ρ0 ++ e).length := fun i n hi => by
      obtain ⟨o, _, ho, _⟩ := gspec i n hi
      have := (List.getElem?_eq_some_iff.1 ho).1
      have := r.inv.len
      omega
    have hf : ∀ n m l, gcF n0 names n = some m → (ρ0 ++ e)[n]? = some l → (ρ0 ++ names.map fun n => (ρ0 ++ e).getD n dl)[m]? = some l := by
      intro n m l hg hl'
      unfold gcF at hg
      split at hg
      · rename_i hlt' _
        cases hg
        rw [List.getElem?_append_left (by omega)] at hl' ⊢
        exact hl'
      · cases hpo : posOf names 0 n with
        | none => rw [hpo] at hg; cases hg
        | some p =>
          rw [hpo] at hg
          cases hg
          have hpp := (posOf_spec hpo).2
          rw [Nat.sub_zero] at hpp
          rw [List.getElem?_append_right (by omega), show n0 + p - ρ0.length = p by omega]
          simp only [List.getElem?_map, hpp, Option.map_some, List.getD_eq_getElem?_getD, hl', Option.getD_some]
    refine ⟨ρ0 ++ names.map fun n => (ρ0 ++ e).getD n dl, ⟨_, rfl⟩, ⟨by rw [r.size]; exact (gcS_length _).symm, r.defers, ?_, ?_⟩⟩
    · intro t v hv
      obtain ⟨u, h1, h2⟩ := gcS_get hv
      exact ren_rel hf _ _ _ h2 (r.slots t u h1)
    · obtain ⟨Il, Ik, F, F1, F2, F3⟩ := r.inv
      refine ⟨by simp only [List.length_append, List.length_map]; rw [gl, il]; omega, Ik, fun j i => ∃ n, (iota n0 0 ++ names)[j]? = some n ∧ F n i, ?_, ?_, ?_⟩
      · intro j o l hj hl'
        have hjn : j < (iota n0 0 ++ names).length := by rw [← gl]; exact (List.getElem?_eq_some_iff.1 hj).1
        obtain ⟨o0, o', h1, h2, h3⟩ := gspec j _ (List.getElem?_eq_getElem hjn)
        rw [hj] at h2
        cases h2
        have hl0 : (ρ0 ++ e)[(iota n0 0 ++ names)[j]]? = some l := by
          have hnl := hlt j _ (List.getElem?_eq_getElem hjn)
          by_cases hj0 : j < n0
          · rw [List.getElem?_append_left (by omega)] at hl'
            have : (iota n0 0 ++ names)[j] = j := by
              have := List.getElem?_eq_getElem hjn
              rw [List.getElem?_append_left (by rw [iota_length]; exact hj0), iota_get _ _ _ hj0] at this
              simpa using this.symm
            rw [this, List.getElem?_append_left (by omega)]
            exact hl'
          · rw [List.getElem?_append_right (by omega)] at hl'
            simp only [List.getElem?_map, List.getD_eq_getElem?_getD] at hl'
            have hjj : names[j - ρ0.length]? = some (iota n0 0 ++ names)[j] := by
              have := List.getElem?_eq_getElem hjn
              rw [List.getElem?_append_right (by rw [iota_length]; omega), iota_length] at this
              rw [show j - ρ0.length = j - n0 by omega]
              exact this
            rw [hjj] at hl'
            simp only [Option.map_some] at hl'
            rw [List.getElem?_eq_getElem hnl] at hl' ⊢
            simpa using hl'
        have H := renO_holds (w := w) hf h3 (needH_get' hn h1 (List.getElem_mem hjn)) (F1 _ _ _ h1 hl0)
        exact H.congr fun i => ⟨fun k => ⟨_, List.getElem?_eq_getElem hjn, k⟩, fun ⟨n, q1, q2⟩ => by rw [List.getElem?_eq_getElem hjn] at q1; cases q1; exact q2⟩
      · rintro a b i ⟨n, q1, q2⟩ ⟨m, q3, q4⟩
        have := F2 n m i q2 q4
        subst this
        exact nodupB_inj hnd q1 q3
      · rintro j i ⟨n, q1, q2⟩
        exact F3 n i q2
  · cases h
/-- A round that goes over to a named state. -/
theorem WkB.to {n0 : Nat} {names ns : List Nat} {s s1 s' : St T.R} {need : Option Prop} (h : gcSt n0 names s = some (need, s1)) (hn : Nd need) (h1 : blank ns s1.slots = s'.slots) (h2 : HOws s1.heap s'.heap) : WkB T n0 s s' :=
  (WkB.gc h hn).trans (WkB.weak ns h1 h2)

/-- Along which branches one goes. -/
def along {α : Type} : Tr α → List Bool → Prop
  | .leaf _, _ => True
  | .need p t, bs => p ∧ along t bs
  | .ite c _ y, false :: bs => c = false ∧ along y bs
  | .ite c x _, true :: bs => c = true ∧ along x bs
  | .ite _ _ _, [] => False
def endOf {α : Type} : Tr α → List Bool → α
  | .leaf a, _ => a
  | .need _ t, bs => endOf t bs
  | .ite _ _ y, false :: bs => endOf y bs
  | .ite _ x _, true :: bs => endOf x bs
  | .ite _ x _, [] => endOf x []
theorem along_spec {α : Type} : ∀ {t : Tr α} {bs : List Bool}, along t bs → t.ok ∧ t.get = endOf t bs
  | .leaf _, _, _ => ⟨trivial, rfl⟩
  | .need p t, bs, h => by obtain ⟨a, b⟩ := along_spec h.2; exact ⟨⟨h.1, a⟩, b⟩
  | .ite c x y, false :: bs, h => by
    obtain ⟨hc, h⟩ := h
    obtain ⟨a, b⟩ := along_spec h
    subst hc
    exact ⟨⟨(fun e => by cases e), fun _ => a⟩, b⟩
  | .ite c x y, true :: bs, h => by
    obtain ⟨hc, h⟩ := h
    obtain ⟨a, b⟩ := along_spec h
    subst hc
    exact ⟨⟨fun _ => a, (fun e => by cases e)⟩, b⟩
  | .ite _ _ _, [], h => h.elim

/-- A path through a body, to its end. -/
structure Ends (E : St T.R → Out T) (s : St T.R) (bs : List Bool) (ex : Ex) : Prop where
  some : E s = some (ob (E s))
  ok : (ob (E s)).ok
  get : (ob (E s)).get = endOf (ob (E s)) bs
  ex : (endOf (ob (E s)) bs).1 = ex
theorem Ends.mk' {E : St T.R → Out T} {s : St T.R} {bs : List Bool} {ex : Ex} {p : Prop} (h0 : E s = Option.some (ob (E s))) (e : along (ob (E s)) bs = p) (he : (endOf (ob (E s)) bs).1 = ex) (h : p) : Ends E s bs ex :=
  have ha : along (ob (E s)) bs := e.symm ▸ h
  ⟨h0, (along_spec ha).1, (along_spec ha).2, he⟩
def gcNd {T : Theory} (n0 : Nat) (names : List Nat) (s : St T.R) : Option Prop := match gcSt n0 names s with
  | Option.some r => r.1
  | none => none
def gcTo {T : Theory} (n0 : Nat) (names : List Nat) (s : St T.R) : St T.R := match gcSt n0 names s with
  | Option.some r => r.2
  | none => s
/-- And on to the next state. -/
theorem Ends.on {E : St T.R → Out T} {s s' : St T.R} {bs : List Bool} {ex : Ex} (h : Ends E s bs ex) {n0 : Nat} {names ns : List Nat} {need : Option Prop} {hp : List (HO T.R)}
    (h1 : gcSt n0 names (endOf (ob (E s)) bs).2 = Option.some (gcNd n0 names (endOf (ob (E s)) bs).2, gcTo n0 names (endOf (ob (E s)) bs).2))
    (h2 : gcNd n0 names (endOf (ob (E s)) bs).2 = need) (h3 : blank ns (gcTo n0 names (endOf (ob (E s)) bs).2).slots = s'.slots) (h4 : (gcTo n0 names (endOf (ob (E s)) bs).2).heap = hp) (hn : Nd need) (h5 : HOws hp s'.heap) :
    ∃ t, E s = Option.some t ∧ t.ok ∧ t.get.1 = ex ∧ WkB T n0 t.get.2 s' :=
  ⟨_, h.some, h.ok, by rw [h.get]; exact h.ex, by rw [h.get]; exact WkB.to h1 (h2.symm ▸ hn) h3 (h4.symm ▸ h5)⟩
/-- Loops: from states of an invariant, to one end. -/
theorem loop_wf {P : Program} {σ : Type} {b : Code} {E : St T.R → Out T} (hb : CodeSound T P b E) {n0 : Nat} {I : σ → St T.R} (μ : σ → Nat) (V : σ → Prop) {F : St T.R} {ex : Ex} (hex : ex ≠ .normal)
    (step : ∀ x, V x → ∃ t, E (I x) = some t ∧ t.ok ∧ ((t.get.1 = .normal ∧ ∃ y, V y ∧ μ y < μ x ∧ WkB T n0 t.get.2 (I y)) ∨ (t.get.1 = ex ∧ WkB T n0 t.get.2 F)))
    {K : Nat → Prop} {w0 : World} {ρ0 : Env} (hl : ρ0.length = n0) {Q : Exit → Act → World → Prop} (hQ : ∀ ρ' a' w', Pre ρ0 ρ' → StRel T K w0 ρ' F a' w' → Q ex.to a' w') :
    ∀ x, V x → ∀ ρ a w, Pre ρ0 ρ → StRel T K w0 ρ (I x) a w → (Code.loop b).wp P Q a w := by
  have key : ∀ m x, μ x ≤ m → V x → ∀ ρ a w, Pre ρ0 ρ → StRel T K w0 ρ (I x) a w → Code.rounds P b Q (m + 1) a w := by
    intro m
    induction m with
    | zero =>
      intro x hx hv ρ a w hp hr
      obtain ⟨t, e1, e2, e3⟩ := step x hv
      obtain ⟨_, hbody⟩ := hb _ _ e1 e2
      rcases e3 with ⟨e3, y, hy, hlt, wk⟩ | ⟨e3, wk⟩
      · omega
      · rw [rounds_succ]
        refine hbody K w0 ρ a w _ hr fun ρ' a' w' hp' hr' => ?_
        obtain ⟨ρ2, hp2, hr2⟩ := wk K w0 ρ0 ρ' a' w' hl (hp.trans hp') hr'
        have := hQ ρ2 a' w' hp2 hr2
        rw [e3]
        cases ex with
        | normal => exact absurd rfl hex
        | exit id => exact this
        | ret => exact this
    | succ m ih =>
      intro x hx hv ρ a w hp hr
      obtain ⟨t, e1, e2, e3⟩ := step x hv
      obtain ⟨_, hbody⟩ := hb _ _ e1 e2
      rw [rounds_succ]
      refine hbody K w0 ρ a w _ hr fun ρ' a' w' hp' hr' => ?_
      rcases e3 with ⟨e3, y, hy, hlt, wk⟩ | ⟨e3, wk⟩
      · obtain ⟨ρ2, hp2, hr2⟩ := wk K w0 ρ0 ρ' a' w' hl (hp.trans hp') hr'
        rw [e3]
        exact ih y (by omega) hy ρ2 a' w' hp2 hr2
      · obtain ⟨ρ2, hp2, hr2⟩ := wk K w0 ρ0 ρ' a' w' hl (hp.trans hp') hr'
        have := hQ ρ2 a' w' hp2 hr2
        rw [e3]
        cases ex with
        | normal => exact absurd rfl hex
        | exit id => exact this
        | ret => exact this
  intro x hv ρ a w hp hr
  exact wp_loop_rounds (μ x + 1) (key (μ x) x (Nat.le_refl _) hv ρ a w hp hr)

/-- A contract that says less of the objects. -/
theorem fn_weak {P : Program} {k : Nat} {D C : CF T.R} (hD : Sound P T k D) (hC : ∀ args h t, C args h = some t → t.ok → ∃ u, D args h = some u ∧ u.ok ∧ u.get.1 = t.get.1 ∧ HOws u.get.2.1 t.get.2.1 ∧ h.length ≤ t.get.2.1.length ∧
    ∀ n, n < h.length → n ∉ t.get.2.2 → t.get.2.1[n]? = h[n]?) : Sound P T k C := by
  intro args h t e hok
  obtain ⟨u, h1, h2, h3, h4, h5, h6⟩ := hC args h t e hok
  obtain ⟨a, _, _⟩ := hD args h u h1 h2
  refine ⟨fun K w0 ρ w vargs I hr => (a K w0 ρ w vargs I hr).mono ?_, h5, h6⟩
  rintro x w' ⟨ρ', cv, rfl, hp, I', hv⟩
  exact ⟨ρ', cv, rfl, hp, I'.weak h4, by rw [← h3]; exact hv⟩
theorem scpL_rowEl {n len sz : Nat} {xs : List SV} (h : scpL n xs = true) (i : Nat) : scpL n (rowEl len sz xs i) = true := by
  unfold rowEl
  split
  · exact h
  · split
    · dsimp only
      split
      · rename_i v hv
        unfold selU at hv
        split at hv
        · split at hv
          · cases hv; rfl
          · cases hv
        · split at hv
          · cases hv; rfl
          · cases hv
        · split at hv
          · cases hv; rfl
          · cases hv
        · cases hv
      · exact scpL_chunk h
    · exact scpL_chunk h
theorem scpL_rowSet {n : Nat} {c : Bool} {xs ys : List SV} (h : scpL n xs = true) (k : scpL n ys = true) : scpL n (rowSet c xs ys) = true := by
  rw [rowSet_eq]; cases c
  · exact k
  · exact h
end
end Go.Sx
namespace Go.Sx
open Go.RowKit

/-! ### Small regions whose objects may be made in any order: each order walked, the names put right at its end -/
def namesAt {R : Type} (st : St R) : List Nat → List Nat
  | [] => []
  | t :: l => (match st.slots[t]? with
    | some (some (.ptr n _)) => n
    | _ => 0) :: namesAt st l
/-- What is asked on the way, and the states at the ends. -/
abbrev Ans (T : Theory) := Option (Option Prop × List (List (Option SV) × List (HO T.R)))
def allN {T : Theory} (f : Nat → Ans T) : List Nat → Ans T
  | [] => some (none, [])
  | i :: l => match f i, allN f l with
    | some (p, a), some (q, b) => some (andN p q, a ++ b)
    | _, _ => none
theorem allN_spec {T : Theory} {f : Nat → Ans T} : ∀ {l : List Nat} {p : Option Prop} {a : List (List (Option SV) × List (HO T.R))}, allN f l = some (p, a) → Nd p → ∀ i, i ∈ l → ∃ q b, f i = some (q, b) ∧ Nd q ∧ ∀ x, x ∈ b → x ∈ a
  | [], _, _, _, _, i, hi => by cases hi
  | j :: l, p, a, h, hn, i, hi => by
    simp only [allN] at h
    split at h
    · rename_i p1 a1 p2 a2 h1 h2
      cases h
      obtain ⟨n1, n2⟩ := andN_iff.1 hn
      rcases List.mem_cons.1 hi with rfl | hi
      · exact ⟨p1, a1, h1, n1, fun x hx => List.mem_append_left _ hx⟩
      · obtain ⟨q, b, e1, e2, e3⟩ := allN_spec h2 n2 i hi
        exact ⟨q, b, e1, e2, fun x hx => List.mem_append_right _ (e3 x hx)⟩
    · cases h
def finAny {T : Theory} (n0 : Nat) (sl : List Nat) (st : St T.R) : Ans T :=
  match gcSt n0 (namesAt st sl) st with
  | some (nd, s) => some (nd, [(s.slots, s.heap)])
  | none => none
def evAny (T : Theory) (P : Program) (tbl : Nat → Option (CF T.R)) (ops : Array Oper) (n0 : Nat) (sl : List Nat) : Nat → Array Bool → St T.R → Ans T
  | 0, listed, st => match Region.ready .any ops listed with
    | [] => finAny n0 sl st
    | _ => none
  | n + 1, listed, st => match Region.ready .any ops listed with
    | [] => finAny n0 sl st
    | r :: rs => allN (fun i => match ops[i]? with
      | some o => match o.guard with
        | none => match evOps T P tbl (fun _ => false) ops [o] [] st with
          | some t => match t.single with
            | some (p, st1) => match evAny T P tbl ops n0 sl n (listed.setIfInBounds i true) st1 with
              | some (q, a) => some (andN p q, a)
              | none => none
            | none => none
          | none => none
        | some _ => none
      | none => none) (r :: rs)
section
variable {P : Program} {T : Theory}
theorem finAny_sound {n0 : Nat} {sl : List Nat} {F st : St T.R} {need : Option Prop} {l : List (List (Option SV) × List (HO T.R))} (h : finAny n0 sl st = some (need, l)) (hn : Nd need) (hF : ∀ x, x ∈ l → x = (F.slots, F.heap)) : WkB T n0 st F := by
  unfold finAny at h
  split at h
  · rename_i nd s hs
    cases h
    have e := hF _ (List.mem_singleton.2 rfl)
    simp only [Prod.mk.injEq] at e
    obtain ⟨h1, h2⟩ := e
    refine (WkB.gc hs hn).trans fun K w0 ρ0 ρ a w _ hp r => ⟨ρ, hp, ⟨by rw [r.size, h1], r.defers, fun t v hv => r.slots t v (by rw [h1]; exact hv), by rw [← h2]; exact r.inv⟩⟩
  · cases h
theorem evAny_sound {tbl : Nat → Option (CF T.R)} (hT : ∀ k C, tbl k = some C → Sound P T k C) {ops : Array Oper} {n0 : Nat} {sl : List Nat} {F : St T.R}
    {K : Nat → Prop} {w0 : World} {ρ0 : Env} (hl : ρ0.length = n0) {Q : Exit → Act → World → Prop} (hQ : ∀ ρ' a' w', Pre ρ0 ρ' → StRel T K w0 ρ' F a' w' → Q .normal a' w') :
    ∀ (n : Nat) (listed : Array Bool) (st : St T.R) (need : Option Prop) (l : List (List (Option SV) × List (HO T.R))), evAny T P tbl ops n0 sl n listed st = some (need, l) → Nd need → (∀ x, x ∈ l → x = (F.slots, F.heap)) →
      ∀ ρ a w, Pre ρ0 ρ → StRel T K w0 ρ st a w → wpAny P .any ops Q n listed a w
  | 0, listed, st, need, l, h, hn, hF, ρ, a, w, hp, r => by
    simp only [evAny] at h
    split at h
    · rename_i hr
      obtain ⟨ρ', p', r'⟩ := finAny_sound h hn hF K w0 ρ0 ρ a w hl hp r
      exact ⟨hr, hQ ρ' a w p' r'⟩
    · cases h
  | n + 1, listed, st, need, l, h, hn, hF, ρ, a, w, hp, r => by
    simp only [evAny] at h
    split at h
    · rename_i hr
      obtain ⟨ρ', p', r'⟩ := finAny_sound h hn hF K w0 ρ0 ρ a w hl hp r
      refine ⟨fun _ => hQ ρ' a w p' r', fun i hi => ?_⟩
      rw [hr] at hi
      cases hi
    · rename_i r0 rs hr
      refine ⟨(fun e => by rw [hr] at e; cases e), fun i hi => ?_⟩
      rw [hr] at hi
      obtain ⟨q, b, hq, nq, hb⟩ := allN_spec h hn i hi
      split at hq
      · rename_i o ho
        split at hq
        · rename_i hg
          split at hq
          · rename_i t ht
            split at hq
            · rename_i p st1 hs
              split at hq
              · rename_i q' a' hq'
                cases hq
                obtain ⟨np, nq'⟩ := andN_iff.1 nq
                obtain ⟨s1, s2⟩ := Tr.single_spec hs
                obtain ⟨_, run⟩ := evOps_sound hT _ _ _ _ ht (s1 np)
                rw [s2] at run
                have ih := evAny_sound hT hl hQ n (listed.setIfInBounds i true) st1 q' _ hq' nq' (fun x hx => hF x (hb x hx))
                have hw := run K w0 ρ a w (fun e a w => match e with
                  | .normal => wpAny P .any ops Q n (listed.setIfInBounds i true) a w
                  | e => Q e a w) ⟨r.size, r.slots, fun t x hx => by cases hx⟩ r.defers r.inv (fun ρ' a' w' hp' r' => ih ρ' a' w' (hp.trans hp') r')
                have hyes : Region.wanted o (yielded ops a.tmps) = true := by simp [Region.wanted, hg]
                simp only [wpList, hyes, if_true] at hw
                simp only [wpOp, ho, hyes, if_true]
                rcases hw with hw | ⟨h1, h2⟩
                · exact .inl hw
                · exact .inr ⟨h1, h2⟩
              · cases hq
            · cases hq
          · cases hq
        · cases hq
      · cases hq
/-- Such a region, at a state. 'sl': the slots of its objects, in the order of the text. -/
theorem anyReg_at {tbl : Nat → Option (CF T.R)} (hT : ∀ k C, tbl k = some C → Sound P T k C) {id : Nat} {ops : Array Oper} {sl : List Nat} {st F : St T.R} {p q : Option Prop} {l : List (List (Option SV) × List (HO T.R))}
    (hm : P.follows .mixedOrders = true) {t : Tr (St T.R)} (h1 : evOps T P tbl (fun _ => false) ops ops.toList [] st = some t) (h2 : t.single = some (p, F)) (np : Nd p)
    (h3 : evAny T P tbl ops st.heap.length sl ops.size (Array.replicate ops.size false) st = some (q, l)) (nq : Nd q) (h4 : l = List.replicate l.length (F.slots, F.heap)) :
    Grow st F ∧ ∀ K w0 ρ a w (Q : Exit → Act → World → Prop), StRel T K w0 ρ st a w → (∀ ρ' a' w', Pre ρ ρ' → StRel T K w0 ρ' F a' w' → Q .normal a' w') → (Code.region id ops true).wp P Q a w := by
  obtain ⟨s1, s2⟩ := Tr.single_spec h2
  obtain ⟨g, _⟩ := evOps_sound hT _ _ _ _ h1 (s1 np)
  rw [s2] at g
  refine ⟨g, fun K w0 ρ a w Q hr hQ => wp_region_any hm ?_⟩
  exact evAny_sound hT hr.inv.len hQ ops.size _ st q l h3 nq (fun x hx => by rw [h4] at hx; exact List.eq_of_mem_replicate hx) ρ a _ (Pre.refl _) ⟨hr.size, hr.defers, hr.slots, hr.inv.drew⟩
/-- Drawn regions of a function's code. -/
def regsL : Code → List (Nat × Array Oper)
  | .seq a b => regsL a ++ regsL b
  | .cond _ a b => regsL a ++ regsL b
  | .block _ b => regsL b
  | .loop b => regsL b
  | .region id ops true => [(id, ops)]
  | _ => []
def regNo (P : Program) (k j : Nat) : Nat × Array Oper := match (regsL (bodyOf P k))[j]? with
  | some x => x
  | none => (0, #[])
def onlyAt (id : Nat) : Nat → Nat → List (Nat × Array Oper) → Bool
  | _, _, [] => true
  | i, j, x :: l => match beqN x.1 id, beqN i j with
    | true, true => onlyAt id (i + 1) j l
    | false, false => onlyAt id (i + 1) j l
    | _, _ => false
theorem onlyAt_spec {id : Nat} : ∀ {i j : Nat} {l : List (Nat × Array Oper)}, onlyAt id i j l = true → ∀ (n : Nat) x, l[n]? = some x → x.1 = id → i + n = j
  | i, j, [], _, n, x, h, _ => by simp at h
  | i, j, y :: l, h, 0, x, hx, e => by
    simp at hx
    subst hx
    simp only [onlyAt] at h
    split at h
    · rename_i h2; exact beqN_iff.1 h2
    · rename_i h1 _; rw [beqN_iff.2 e] at h1; cases h1
    · cases h
  | i, j, y :: l, h, n + 1, x, hx, e => by
    simp at hx
    simp only [onlyAt] at h
    split at h
    · have := onlyAt_spec h n x hx e; omega
    · have := onlyAt_spec h n x hx e; omega
    · cases h
theorem LoopsOk_regs {H : Hints T} (h : ∀ n, H.loops n = none) : ∀ c, (∀ x, x ∈ regsL c → ∀ L, H.regs x.1 = some L → CodeSound T P (.region x.1 x.2 true) L) → LoopsOk T P H c
  | .seq a b, k => ⟨LoopsOk_regs h a fun x hx => k x (List.mem_append_left _ hx), LoopsOk_regs h b fun x hx => k x (List.mem_append_right _ hx)⟩
  | .cond _ a b, k => ⟨LoopsOk_regs h a fun x hx => k x (List.mem_append_left _ hx), LoopsOk_regs h b fun x hx => k x (List.mem_append_right _ hx)⟩
  | .block _ b, k => LoopsOk_regs h b k
  | .loop b, k => ⟨(fun L e => by rw [h] at e; cases e), LoopsOk_regs h b k⟩
  | .region id ops true, k => fun _ L e => k (id, ops) (List.mem_singleton.2 rfl) L e
  | .region id ops false, _ => fun e => by cases e
  | .skip, _ => trivial
  | .rangeFunc _ _ _ _, _ => trivial
  | .exit _, _ => trivial
  | .scope _, _ => trivial
  | .label _, _ => trivial
  | .goto _, _ => trivial
  | .ret, _ => trivial
  | .refuse _, _ => trivial
/-- Hints for one drawn region alone. -/
def oneReg {T : Theory} (id : Nat) (L : St T.R → Out T) (lits : Nat → Bool) : Hints T := Hints.mk (fun _ => none) (fun _ => none) lits (fun n => match beqN n id with
  | true => some L
  | false => none)
theorem oneReg_ok {k id j : Nat} {L : St T.R → Out T} {lits : Nat → Bool} (ho : onlyAt id 0 j (regsL (bodyOf P k)) = true) (hL : CodeSound T P (.region id (regNo P k j).2 true) L) :
    ∀ fn c, P.funcs[k]? = some fn → fn.body = some c → LoopsOk T P (oneReg id L lits) c := by
  intro fn c hf hb
  have e : bodyOf P k = c := by unfold bodyOf; rw [hf]; simp only [hb]
  rw [e] at ho
  refine LoopsOk_regs (fun _ => rfl) c fun x hx L' hL' => ?_
  simp only [oneReg] at hL'
  split at hL'
  · rename_i hid
    cases hL'
    have hid := beqN_iff.1 hid
    obtain ⟨n, hn⟩ := List.getElem?_of_mem hx
    have := onlyAt_spec ho n x hn hid
    rw [Nat.zero_add] at this
    subst this
    have hr : regNo P k n = x := by unfold regNo; rw [e, hn]
    rw [hr] at hL
    rw [hid]
    exact hL
  · cases hL'
end
end Go.Sx
