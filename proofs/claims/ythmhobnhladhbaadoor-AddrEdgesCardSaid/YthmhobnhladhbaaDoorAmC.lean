/- The abstract machine: a call that is handed live memory, in its caller's state. -/
import Derived.Test.YthmhobnhladhbaaDoorAmG
namespace Go.Proofs.YthmhobnhladhbaaDoor.AM
open Go Go.RowKit
set_option linter.unusedSimpArgs false
set_option linter.unusedVariables false

theorem mapI_get {α β : Type} (f : Nat → α → β) : ∀ (l : List α) (i j : Nat), (mapI f i l)[j]? = (l[j]?).map (f (i + j))
  | [], i, j => by simp [mapI]
  | x :: xs, i, 0 => by simp [mapI]
  | x :: xs, i, j + 1 => by
    simp only [mapI, List.getElem?_cons_succ, mapI_get f xs (i + 1) j]
    rw [show i + 1 + j = i + (j + 1) by omega]
theorem mapI_len {α β : Type} (f : Nat → α → β) : ∀ (l : List α) (i : Nat), (mapI f i l).length = l.length
  | [], i => rfl
  | x :: xs, i => by simp only [mapI, List.length_cons, mapI_len f xs]

theorem toQ_mem : ∀ {ps : List (Nat × Nat)} {r q : Nat}, toQ ps r = some q → (r, q) ∈ ps
  | [], r, q, h => by cases h
  | (a, b) :: ps, r, q, h => by
    simp only [toQ] at h
    cases hb : Nat.beq a r with
    | true => rw [hb, cnd_true] at h; cases h; simp [Nat.eq_of_beq_eq_true hb]
    | false => rw [hb, cnd_false] at h; exact List.mem_cons_of_mem _ (toQ_mem h)
theorem toR_mem : ∀ {ps : List (Nat × Nat)} {r q : Nat}, toR ps q = some r → (r, q) ∈ ps
  | [], r, q, h => by cases h
  | (a, b) :: ps, r, q, h => by
    simp only [toR] at h
    cases hb : Nat.beq b q with
    | true => rw [hb, cnd_true] at h; cases h; simp [Nat.eq_of_beq_eq_true hb]
    | false => rw [hb, cnd_false] at h; exact List.mem_cons_of_mem _ (toR_mem h)
/-- No row stands twice. -/
def Inj (ps : List (Nat × Nat)) : Prop := ∀ r q r' q', (r, q) ∈ ps → (r', q') ∈ ps → (r = r' ↔ q = q')
theorem toR_of : ∀ {ps : List (Nat × Nat)} {r q : Nat}, Inj ps → (r, q) ∈ ps → toR ps q = some r
  | [], r, q, _, h => by cases h
  | (a, b) :: ps, r, q, hi, h => by
    simp only [toR]
    cases hb : Nat.beq b q with
    | true =>
      have := Nat.eq_of_beq_eq_true hb
      subst this
      rw [cnd_true, (hi a b r b (by simp) h).2 rfl]
    | false =>
      have hne := Nat.ne_of_beq_eq_false hb
      rw [cnd_false]
      refine toR_of (fun r q r' q' h h' => hi r q r' q' (List.mem_cons_of_mem _ h) (List.mem_cons_of_mem _ h')) ?_
      rcases List.mem_cons.1 h with e | e
      · cases e; exact absurd rfl hne
      · exact e
theorem toQ_of : ∀ {ps : List (Nat × Nat)} {r q : Nat}, Inj ps → (r, q) ∈ ps → toQ ps r = some q
  | [], r, q, _, h => by cases h
  | (a, b) :: ps, r, q, hi, h => by
    simp only [toQ]
    cases hb : Nat.beq a r with
    | true =>
      have := Nat.eq_of_beq_eq_true hb
      subst this
      rw [cnd_true, (hi a b a q (by simp) h).1 rfl]
    | false =>
      have hne := Nat.ne_of_beq_eq_false hb
      rw [cnd_false]
      refine toQ_of (fun r q r' q' h h' => hi r q r' q' (List.mem_cons_of_mem _ h) (List.mem_cons_of_mem _ h')) ?_
      rcases List.mem_cons.1 h with e | e
      · cases e; exact absurd rfl hne
      · exact e
theorem freeP_ne : ∀ {ps : List (Nat × Nat)} {r q : Nat}, freeP ps r q = true → ∀ a b, (a, b) ∈ ps → a ≠ r ∧ b ≠ q
  | [], r, q, _, a, b, h => by cases h
  | (a0, b0) :: ps, r, q, h, a, b, hm => by
    simp only [freeP, Bool.and_eq_true, Bool.not_eq_true'] at h
    rcases List.mem_cons.1 hm with e | e
    · cases e; exact ⟨Nat.ne_of_beq_eq_false h.1.1, Nat.ne_of_beq_eq_false h.1.2⟩
    · exact freeP_ne h.2 a b e

section
variable {P : Program} {g : Glob} {B : Nat → Prop} {w0 : World} {I0 : Nat → Prop} {E E' : Env}

/-- What holds of a box that stays. -/
structure Pair (E E' : Env) (r q : Nat) : Prop where
  w : ∃ W W', E.H[r]? = some (some W) ∧ E'.H[q]? = some (some W') ∧ W.box = true ∧ W'.box = true ∧ W.k = W'.k ∧ W.t = W'.t ∧ 0 < W.k
  al : (E.m r).al = true
  al' : (E'.m q).al = true
  blk : (E'.m q).blk = (E.m r).blk

theorem pairs_ok : ∀ (xs ys : List AV) (vs : List Value) (ps : List (Nat × Nat)), E.L xs vs → E'.L ys vs → Inj ps → (∀ r q, (r, q) ∈ ps → Pair E E' r q) → Inj (pairsA E.H E'.H ps xs ys) ∧ ∀ r q, (r, q) ∈ pairsA E.H E'.H ps xs ys → Pair E E' r q
  | [], ys, vs, ps, _, _, hi, hp => by cases ys <;> exact ⟨hi, hp⟩
  | a :: xs, [], vs, ps, _, _, hi, hp => by cases a <;> exact ⟨hi, hp⟩
  | a :: xs, b :: ys, [], ps, h, _, _, _ => by simp [Env.L, LR] at h
  | a :: xs, b :: ys, v :: vs, ps, h, h', hi, hp => by
    simp only [Env.L, LR] at h h'
    have rest := pairs_ok xs ys vs ps h.2 h'.2 hi hp
    by_cases hc : ∃ r i j q i' j', a = .ptr r i j ∧ b = .ptr q i' j'
    · obtain ⟨r, i, j, q, i', j', rfl, rfl⟩ := hc
      simp only [pairsA]
      cases hb : Nat.beq i i' && Nat.beq j j' && okPair E.H E'.H r q && freeP ps r q with
      | false => exact rest
      | true =>
        rw [cnd_true]
        simp only [Bool.and_eq_true] at hb
        obtain ⟨⟨⟨h1, h2⟩, h3⟩, h4⟩ := hb
        have e1 := Nat.eq_of_beq_eq_true h1
        have e2 := Nat.eq_of_beq_eq_true h2
        subst e1 e2
        refine pairs_ok xs ys vs (ps ++ [(r, q)]) h.2 h'.2 (fun r1 q1 r2 q2 m1 m2 => ?_) (fun r1 q1 m1 => ?_)
        · rw [List.mem_append] at m1 m2
          rcases m1 with m1 | m1 <;> rcases m2 with m2 | m2
          · exact hi _ _ _ _ m1 m2
          · simp at m2
            obtain ⟨rfl, rfl⟩ := m2
            have := freeP_ne h4 _ _ m1
            exact ⟨fun e => absurd e this.1, fun e => absurd e this.2⟩
          · simp at m1
            obtain ⟨rfl, rfl⟩ := m1
            have := freeP_ne h4 _ _ m2
            exact ⟨fun e => absurd e.symm this.1, fun e => absurd e.symm this.2⟩
          · simp at m1 m2
            obtain ⟨rfl, rfl⟩ := m1
            obtain ⟨rfl, rfl⟩ := m2
            simp
        · rw [List.mem_append] at m1
          rcases m1 with m1 | m1
          · exact hp _ _ m1
          · simp at m1
            obtain ⟨rfl, rfl⟩ := m1
            have hv := h.1
            have hv' := h'.1
            simp only [VR] at hv hv'
            obtain ⟨k, n, hT, _, _, ha, hv⟩ := hv
            obtain ⟨k', n', hT', _, _, ha', hv'⟩ := hv'
            unfold okPair at h3
            split at h3
            · rename_i W W' hW hW'
              simp only [Bool.and_eq_true] at h3
              refine ⟨⟨W, W', rowAtH_some.1 hW, rowAtH_some.1 hW', h3.1.1.1.1, h3.1.1.1.2, Nat.eq_of_beq_eq_true h3.1.1.2, Nat.eq_of_beq_eq_true h3.1.2, by have := Nat.le_of_ble_eq_true h3.2; omega⟩, ha, ha', ?_⟩
              rw [hv] at hv'
              simp only [Value.pointer.injEq, Option.some.injEq, Addr.mk.injEq] at hv'
              exact hv'.1.symm
            · cases h3
    · have : pairsA E.H E'.H ps (a :: xs) (b :: ys) = pairsA E.H E'.H ps xs ys := by
        cases a <;> cases b <;> first
          | rfl
          | exact absurd ⟨_, _, _, _, _, _, rfl, rfl⟩ hc
      rw [this]
      exact rest

theorem backH_old {H H' : AHeap} {o : List Nat} {ps : List (Nat × Nat)} {r : Nat} (hr : r < H.length) : (backH H H' o ps)[r]? = some (match toQ ps r with
    | some q => (rowAtH H' q).map (renRow (backN ps H.length))
    | none => cnd (memN r o) none ((rowAtH H r).map (renRow (keepN o ps)))) := by
  unfold backH
  rw [List.getElem?_append_left (by rw [mapI_len]; exact hr), mapI_get, List.getElem?_eq_getElem hr, Nat.zero_add]
  simp only [Option.map_some, Option.some.injEq]
  have : rowAtH H r = H[r] := by unfold rowAtH; rw [List.getElem?_eq_getElem hr]
  rw [this]
  cases toQ ps r <;> rfl
theorem backH_new {H H' : AHeap} {o : List Nat} {ps : List (Nat × Nat)} {q : Nat} : (backH H H' o ps)[H.length + q]? = (H'[q]?).map fun W => match toR ps q with
    | some _ => none
    | none => W.map (renRow (backN ps H.length)) := by
  unfold backH
  rw [List.getElem?_append_right (by rw [mapI_len]; omega), mapI_len, mapI_get, Nat.zero_add, Nat.add_sub_cancel_left]
  cases toR ps q <;> rfl

/-- Where rows lie behind a call. -/
def backM (E E' : Env) : Nat → Info := fun r => if r < E.H.length then E.m r else E'.m (r - E.H.length)

/-- The caller's state behind a call that was handed live memory. -/
theorem St.back (h : St g B w0 I0 E) {o : List Nat} {ps : List (Nat × Nat)} (h' : St g (subB E o) E.w E.I E') (hi : Inj ps) (hp : ∀ r q, (r, q) ∈ ps → Pair E E' r q) :
    let E2 : Env := { w := E'.w, I := E'.I, m := backM E E', H := backH E.H E'.H o ps }
    St g B w0 I0 E2 ∧ Ext (keepD o ps) E E2 ∧ (∀ x v, E'.V x v → E2.V (ren (backN ps E.H.length) x) v) := by
  intro E2
  have hB : ∀ b, B b → subB E o b := fun b hb => ⟨h.base b hb, fun r W hr hW ha e => ((h.rows r W hW).mem ha).1 (e ▸ hb)⟩
  have hold : ∀ b, subB E o b → E'.w.heap[b]? = E.w.heap[b]? := fun b hb => h'.below.block b hb
  have hIB : ∀ b, E.I b → subB E o b := fun b hb => ⟨h.isz b hb, fun r W hr hW ha e => ((h.rows r W hW).mem ha).2.1 (e ▸ hb)⟩
  have hkeepB : ∀ r W, E.H[r]? = some (some W) → (E.m r).al = true → r ∉ o → subB E o (E.m r).blk := fun r W hW ha hr => ⟨h.lt hW ha, fun r' W' hr' hW' ha' e => hr (h.inj r r' W W' hW hW' ha ha' e ▸ hr')⟩
  have hmold : ∀ r, r < E.H.length → E2.m r = E.m r := fun r hr => by show backM E E' r = _; unfold backM; rw [if_pos hr]
  have hmnew : ∀ q, E2.m (E.H.length + q) = E'.m q := fun q => by show backM E E' _ = _; unfold backM; rw [if_neg (by omega), Nat.add_sub_cancel_left]
  have hlen : ∀ r W, E.H[r]? = some (some W) → r < E.H.length := fun r W hW => (List.getElem?_eq_some_iff.1 hW).1
  -- a pair's row behind the call
  have hpair : ∀ r q, (r, q) ∈ ps → ∃ W W', E.H[r]? = some (some W) ∧ E'.H[q]? = some (some W') ∧ W.k = W'.k ∧ W.n = W'.n ∧ 0 < W.k ∧ (E'.m q).Same (E.m r) ∧ E2.H[r]? = some (some (renRow (backN ps E.H.length) W')) := fun r q hm => by
    obtain ⟨⟨W, W', hW, hW', b1, b2, hk, ht, hk0⟩, ha, ha', hb⟩ := hp r q hm
    have n1 := (h.rows r W hW).bx b1
    have n2 := (h'.rows q W' hW').bx b2
    obtain ⟨_, _, _, arr, fz, k4, k5, _⟩ := (h.rows r W hW).mem ha
    obtain ⟨_, _, _, arr', fz', l4, l5, _⟩ := (h'.rows q W' hW').mem ha'
    obtain ⟨arr2, fz2, e1, e2⟩ := h'.below.szs _ _ _ _ k4
    rw [hb, e1] at l4
    have l4 := (Obj.cells.inj (Option.some.inj l4)).1
    subst l4
    refine ⟨W, W', hW, hW', hk, by omega, hk0, ⟨by rw [ha, ha'], hb, ?_⟩, ?_⟩
    · rw [e2, k5, ← hk] at l5
      exact (Nat.eq_of_mul_eq_mul_right hk0 l5).symm
    · show (backH E.H E'.H o ps)[r]? = _
      rw [backH_old (hlen r W hW), toQ_of hi hm]
      simp [rowAtH_some.2 hW']
  have hνb : ∀ q p r, tab E'.H q = some p → backN ps E.H.length q = some r → tab E2.H r = some p ∧ (E2.m r).Same (E'.m q) := fun q p r hT hr => by
    obtain ⟨W', hW', rfl⟩ := tab_row hT
    unfold backN at hr
    split at hr
    · rename_i r' hr'
      cases hr
      obtain ⟨W, W2, hW, hW2, hk, hn, _, hs, hH⟩ := hpair r q (toR_mem hr')
      rw [hW2] at hW'
      cases hW'
      refine ⟨by rw [tab_of hH]; rfl, ?_⟩
      rw [hmold r (hlen r W hW)]
      exact ⟨hs.al.symm, hs.blk.symm, hs.cap.symm⟩
    · rename_i hr'
      cases hr
      refine ⟨?_, by rw [hmnew]; exact .rfl' _⟩
      have : E2.H[E.H.length + q]? = some (some (renRow (backN ps E.H.length) W')) := by
        show (backH E.H E'.H o ps)[E.H.length + q]? = _
        rw [backH_new, hW']
        simp [hr']
      rw [tab_of this]; rfl
  have hνk : ∀ r p r', tab E.H r = some p → keepN o ps r = some r' → tab E2.H r' = some p ∧ E2.m r' = E.m r := fun r p r' hT hr => by
    obtain ⟨W, hW, rfl⟩ := tab_row hT
    unfold keepN at hr
    obtain ⟨hd, hr⟩ := cond_some hr
    cases hr
    refine ⟨?_, hmold r (hlen r W hW)⟩
    cases hq : toQ ps r with
    | some q =>
      obtain ⟨W1, W', hW1, hW', hk, hn, _, _, hH⟩ := hpair r q (toQ_mem hq)
      rw [hW] at hW1
      cases hW1
      rw [tab_of hH]
      show some (W'.k, W'.n) = _
      rw [hk, hn]
    | none =>
      have hno : memN r o = false := by
        unfold keepD at hd
        cases hm : memN r o with
        | false => rfl
        | true => rw [hm, hq] at hd; cases hd
      have : E2.H[r]? = some (some (renRow (keepN o ps) W)) := by
        show (backH E.H E'.H o ps)[r]? = _
        rw [backH_old (hlen r W hW), hq, hno]
        simp [rowAtH_some.2 hW]
      rw [tab_of this]; rfl
  -- what a row of the new heap is
  have cases_ : ∀ r V, E2.H[r]? = some (some V) → (∃ q W', (r, q) ∈ ps ∧ E'.H[q]? = some (some W') ∧ V = renRow (backN ps E.H.length) W') ∨ (∃ W, r ∉ o ∧ E.H[r]? = some (some W) ∧ V = renRow (keepN o ps) W) ∨
      (∃ q W', r = E.H.length + q ∧ toR ps q = none ∧ E'.H[q]? = some (some W') ∧ V = renRow (backN ps E.H.length) W') := fun r V hV => by
    have hV : (backH E.H E'.H o ps)[r]? = some (some V) := hV
    rcases Nat.lt_or_ge r E.H.length with hr | hr
    · rw [backH_old hr] at hV
      split at hV
      · rename_i q hq
        cases hw : rowAtH E'.H q with
        | none => rw [hw] at hV; simp at hV
        | some W' =>
          rw [hw] at hV
          simp only [Option.map_some, Option.some.injEq] at hV
          exact .inl ⟨q, W', toQ_mem hq, rowAtH_some.1 hw, hV.symm⟩
      · cases hm : memN r o with
        | true => rw [hm] at hV; simp at hV
        | false =>
          rw [hm, cnd_false] at hV
          cases hw : rowAtH E.H r with
          | none => rw [hw] at hV; simp at hV
          | some W =>
            rw [hw] at hV
            simp only [Option.map_some, Option.some.injEq] at hV
            exact .inr (.inl ⟨W, fun hmem => (by rw [memN_iff.2 hmem] at hm; cases hm), rowAtH_some.1 hw, hV.symm⟩)
    · obtain ⟨q, rfl⟩ : ∃ q, r = E.H.length + q := ⟨r - E.H.length, by omega⟩
      rw [backH_new] at hV
      cases hq : E'.H[q]? with
      | none => rw [hq] at hV; simp at hV
      | some o' =>
        rw [hq] at hV
        simp only [Option.map_some, Option.some.injEq] at hV
        cases hr' : toR ps q with
        | some r0 => rw [hr'] at hV; simp at hV
        | none =>
          rw [hr'] at hV
          cases o' with
          | none => simp at hV
          | some W' =>
            simp only [Option.map_some, Option.some.injEq] at hV
            exact .inr (.inr ⟨q, W', rfl, hr', hq, hV.symm⟩)
  have hI2 : ∀ b, E.I b → E'.I b ∧ E'.w.heap[b]? = E.w.heap[b]? := fun b hb => ⟨h'.imono b hb, hold b (hIB b hb)⟩
  have hx : Ext (keepD o ps) E E2 := ⟨hI2, fun r p hT hd => by
    exact hνk r p r hT (by unfold keepN; rw [hd]; rfl)⟩
  have hnB : ∀ q W', E'.H[q]? = some (some W') → (E'.m q).al = true → ¬ B (E'.m q).blk := fun q W' hW' ha hb => ((h'.rows q W' hW').mem ha).1 (hB _ hb)
  refine ⟨⟨h.below.trans (h'.below.weaken hB), h.hB, h.hn, h.gn, h'.glob, h'.isz, fun b hb => h'.imono b (h.imono b hb), fun b hb => ?_, fun r V hV => ?_, fun r r' V V' hV hV' ha ha' hb => ?_, fun r V hV hk hpf => ?_⟩, hx, fun x v hv => VR_ren (fun b hb => ⟨hb, rfl⟩) x _ _ v hνb hv⟩
  · rcases h'.ifresh b hb with h1 | h1
    · exact h.ifresh b h1
    · exact .inr fun h2 => h1 (hB b h2)
  · rcases cases_ r V hV with ⟨q, W', hm, hW', rfl⟩ | ⟨W, hr, hW, rfl⟩ | ⟨q, W', rfl, hq, hW', rfl⟩
    · obtain ⟨W, W2, hW, hW2, hk, hn, hk0, hs, hH⟩ := hpair r q hm
      rw [hW'] at hW2
      cases hW2
      have hmr : E2.m r = E.m r := hmold r (hlen r W hW)
      refine (h'.rows q W' hW').ren (by rw [hmr]; exact ⟨hs.al.symm, hs.blk.symm, hs.cap.symm⟩) (fun h0 => absurd h0 (by omega)) (fun ha => ?_) (hnB q W' hW') (fun ha => ((h'.rows q W' hW').mem ha).2.1) (fun b hb => ⟨hb, rfl⟩) (fun q p r hT hr => hνb q p r hT hr)
      obtain ⟨_, _, _, arr, fz, hh, _⟩ := (h'.rows q W' hW').mem ha
      exact ⟨arr, fz, hh, hh⟩
    · have hmr : E2.m r = E.m r := hmold r (hlen r W hW)
      refine (h.rows r W hW).ren (by rw [hmr]; exact .rfl' _) (fun _ => by rw [hmr]) (fun ha => ?_) (fun ha => ((h.rows r W hW).mem ha).1) (fun ha hI => ?_) hI2 (fun r p r' hT hr => by
        obtain ⟨e1, e2⟩ := hνk r p r' hT hr
        exact ⟨e1, by rw [e2]; exact .rfl' _⟩)
      · obtain ⟨_, _, _, arr, fz, hh, _⟩ := (h.rows r W hW).mem ha
        exact ⟨arr, fz, by show E'.w.heap[(E.m r).blk]? = _; rw [hold _ (hkeepB r W hW ha hr)]; exact hh, hh⟩
      · rcases h'.ifresh _ hI with h1 | h1
        · exact ((h.rows r W hW).mem ha).2.1 h1
        · exact h1 (hkeepB r W hW ha hr)
    · refine (h'.rows q W' hW').ren (by rw [hmnew]; exact .rfl' _) (fun _ => by rw [hmnew]) (fun ha => ?_) (hnB q W' hW') (fun ha => ((h'.rows q W' hW').mem ha).2.1) (fun b hb => ⟨hb, rfl⟩) (fun q p r hT hr => hνb q p r hT hr)
      obtain ⟨_, _, _, arr, fz, hh, _⟩ := (h'.rows q W' hW').mem ha
      exact ⟨arr, fz, hh, hh⟩
  · -- two rows never lie in one block
    have old : ∀ r V, E2.H[r]? = some (some V) → (E2.m r).al = true → (∃ W, E.H[r]? = some (some W) ∧ (E.m r).al = true ∧ E2.m r = E.m r ∧ (r ∉ o ∨ ∃ q W', (r, q) ∈ ps ∧ E'.H[q]? = some (some W') ∧ (E'.m q).al = true ∧ (E'.m q).blk = (E.m r).blk)) ∨
        ∃ q W', r = E.H.length + q ∧ toR ps q = none ∧ E'.H[q]? = some (some W') ∧ (E'.m q).al = true ∧ (E2.m r).blk = (E'.m q).blk := fun r V hV ha => by
      rcases cases_ r V hV with ⟨q, W', hm, hW', rfl⟩ | ⟨W, hr, hW, rfl⟩ | ⟨q, W', rfl, hq, hW', rfl⟩
      · obtain ⟨W, W2, hW, hW2, hk, hn, hk0, hs, hH⟩ := hpair r q hm
        have hmr := hmold r (hlen r W hW)
        rw [hmr] at ha
        exact .inl ⟨W, hW, ha, hmr, .inr ⟨q, W', hm, hW', by rw [hs.al]; exact ha, hs.blk⟩⟩
      · have hmr := hmold r (hlen r W hW)
        rw [hmr] at ha
        exact .inl ⟨W, hW, ha, hmr, .inl hr⟩
      · rw [hmnew] at ha
        exact .inr ⟨q, W', rfl, hq, hW', ha, by rw [hmnew]⟩
    have mix : ∀ r W, E.H[r]? = some (some W) → (E.m r).al = true → (r ∉ o ∨ ∃ q W', (r, q) ∈ ps ∧ E'.H[q]? = some (some W') ∧ (E'.m q).al = true ∧ (E'.m q).blk = (E.m r).blk) → ∀ q W', toR ps q = none → E'.H[q]? = some (some W') → (E'.m q).al = true → (E.m r).blk ≠ (E'.m q).blk := fun r W hW ha hor q W' hq hW' ha' e => by
      rcases hor with hr | ⟨q2, W2, hm, hW2, ha2, hb2⟩
      · exact ((h'.rows q W' hW').mem ha').1 (e ▸ hkeepB r W hW ha hr)
      · have := h'.inj q2 q W2 W' hW2 hW' ha2 ha' (hb2.trans e)
        subst this
        rw [toR_of hi hm] at hq
        cases hq
    rcases old r V hV ha with ⟨W, hW, a1, m1, o1⟩ | ⟨q, W', rfl, hq, hW', a1, b1⟩ <;> rcases old r' V' hV' ha' with ⟨W2, hW2, a2, m2, o2⟩ | ⟨q2, W2', rfl, hq2, hW2', a2, b2⟩
    · rw [m1, m2] at hb
      exact h.inj r r' W W2 hW hW2 a1 a2 hb
    · rw [m1, b2] at hb
      exact absurd hb (mix r W hW a1 o1 q2 W2' hq2 hW2' a2)
    · rw [b1, m2] at hb
      exact absurd hb.symm (mix r' W2 hW2 a2 o2 q W' hq hW' a1)
    · rw [b1, b2] at hb
      rw [h'.inj q q2 W' W2' hW' hW2' a1 a2 hb]
  · rcases cases_ r V hV with ⟨q, W', hm, hW', rfl⟩ | ⟨W, hr, hW, rfl⟩ | ⟨q, W', rfl, hq, hW', rfl⟩
    · obtain ⟨W, W2, hW, hW2, hk', hn, hk0, hs, hH⟩ := hpair r q hm
      rw [hW'] at hW2
      cases hW2
      have hk2 : W'.k = 0 := hk
      omega
    · rw [hmold r (hlen r W hW)]
      exact h.gse r W hW hk hpf
    · rw [hmnew]
      exact h'.gse q W' hW' hk hpf

variable {R : Type} {r : R}
/-- A call that is handed live memory. -/
theorem call_cs (hS : St g B w0 I0 E) {f : FuncId} {args : List AV} {vs : List Value} {out : OutS} (hargs : E.L args vs) (ha : AnsS P g f (rens (posN (order args E.H)) args) (subH (order args E.H) E.H) out)
    {k pn : AV → AHeap → Option (Nat → Bool) → Option R} (h : csB E.H (order args E.H) out (pairsA E.H out.H [] args out.ga) k pn = some r) :
    Calls P f vs.toArray E.w fun e w' => ∃ v av E2 D, E2.w = w' ∧ St g B w0 I0 E2 ∧ Ext (Option.getD D allD) E E2 ∧ E2.V av v ∧ (e = .returned v ∧ k av E2.H D = some r ∨ e = .panicked [{ v, recovered := false }] ∧ pn av E2.H D = some r) := by
  have hsub := hS.sub (order_nodup args E.H)
  refine (ha g.gs (subB E (order args E.H)) (subE E (order args E.H)) vs hsub rfl (subE_L hargs)).mono ?_
  rintro e w' ⟨v, E', rfl, rfl, h', hH, hga, hv⟩
  obtain ⟨hi, hp⟩ := pairs_ok (E := E) (E' := E') args out.ga vs [] hargs hga (fun _ _ _ _ hh => by cases hh) (fun _ _ hh => by cases hh)
  rw [hH] at hi hp
  obtain ⟨s1, s2, s3⟩ := hS.back (E' := E') (o := order args E.H) h' hi hp
  refine ⟨v, _, { w := E'.w, I := E'.I, m := backM E E', H := backH E.H E'.H (order args E.H) (pairsA E.H out.H [] args out.ga) }, some (keepD (order args E.H) (pairsA E.H out.H [] args out.ga)), rfl, s1, s2, s3 _ _ hv, ?_⟩
  unfold csB at h
  cases hpan : out.pan with
  | true =>
    rw [hpan, cnd_true] at h
    exact .inr ⟨rfl, by rw [hH]; exact h⟩
  | false =>
    rw [hpan, cnd_false] at h
    exact .inl ⟨rfl, by rw [hH]; exact h⟩
end
end Go.Proofs.YthmhobnhladhbaaDoor.AM
