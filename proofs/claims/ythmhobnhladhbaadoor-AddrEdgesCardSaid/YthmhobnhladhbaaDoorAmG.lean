/- The abstract machine: rows by other names; calls that are handed live memory. -/
import Derived.Test.YthmhobnhladhbaaDoorAmF
namespace Go.Proofs.YthmhobnhladhbaaDoor.AM
open Go Go.RowKit
set_option linter.unusedSimpArgs false
set_option linter.unusedVariables false

/-- Where a row lies, told twice. -/
structure Info.Same (a b : Info) : Prop where
  al : a.al = b.al
  blk : a.blk = b.blk
  cap : a.cap = b.cap
theorem Info.Same.rfl' (a : Info) : a.Same a := ⟨rfl, rfl, rfl⟩

section
variable {w w' : World} {I I' : Nat → Prop} {m m' : Nat → Info} {ν : Nat → Option Nat}
mutual
theorem VR_ren (hI : ∀ b, I b → I' b ∧ w'.heap[b]? = w.heap[b]?) : ∀ (x : AV) (T T' : Tab) (v : Value), (∀ r p q, T r = some p → ν r = some q → T' q = some p ∧ (m' q).Same (m r)) → VR w I m T x v → VR w' I' m' T' (ren ν x) v
  | .agg l, T, T', v, hT, h => by simp only [ren, VR] at h ⊢; obtain ⟨a, rfl, h⟩ := h; exact ⟨a, rfl, LR_ren hI l T T' _ hT h⟩
  | .tup l, T, T', v, hT, h => by simp only [ren, VR] at h ⊢; obtain ⟨a, rfl, h⟩ := h; exact ⟨a, rfl, LR_ren hI l T T' _ hT h⟩
  | .fn f l, T, T', v, hT, h => by simp only [ren, VR] at h ⊢; obtain ⟨a, rfl, h⟩ := h; exact ⟨a, rfl, LR_ren hI l T T' _ hT h⟩
  | .ifc t x, T, T', v, hT, h => by simp only [ren, VR] at h ⊢; obtain ⟨a, rfl, h⟩ := h; exact ⟨a, rfl, VR_ren hI x T T' _ hT h⟩
  | .sl r n, T, T', v, hT, h => by
    simp only [ren]
    split
    · rename_i q hq
      simp only [VR] at h ⊢
      obtain ⟨⟨k, hk⟩, h⟩ := h
      obtain ⟨h1, h2⟩ := hT r _ q hk hq
      exact ⟨⟨k, h1⟩, by rw [h2.al, h2.blk, h2.cap]; exact h⟩
    · simp [VR]
  | .ptr r i j, T, T', v, hT, h => by
    simp only [ren]
    split
    · rename_i q hq
      simp only [VR] at h ⊢
      obtain ⟨k, n, hk, hi, hj, ha, hv⟩ := h
      obtain ⟨h1, h2⟩ := hT r _ q hk hq
      exact ⟨k, n, h1, hi, hj, by rw [h2.al]; exact ha, by rw [h2.blk]; exact hv⟩
    · simp [VR]
  | .sp r n, T, T', v, hT, h => by
    simp only [ren]
    split
    · rename_i q hq
      simp only [VR] at h ⊢
      obtain ⟨⟨k, hk⟩, h⟩ := h
      obtain ⟨h1, h2⟩ := hT r _ q hk hq
      exact ⟨⟨k, h1⟩, by rw [h2.al, h2.blk]; exact h⟩
    · obtain ⟨_, p, hp, _⟩ : _ ∧ ∃ p, v = .pointer p ∧ _ := by simpa only [VR] using h
      simp [VR]
  | .b u, T, T', v, hT, h => by simpa only [ren, VR] using h
  | .top, T, T', v, hT, h => by simp [ren, VR]
  | .snap τ n xs, T, T', v, hT, h => by
    simp only [ren]
    exact VR.mono (fun _ => false) hI (.snap τ n xs) T T' v (fun _ _ _ hd => by cases hd) (.inr (by simp [rf])) h
  | .sptr l, T, T', v, hT, h => by
    simp only [ren]
    exact VR.mono (fun _ => false) hI (.sptr l) T T' v (fun _ _ _ hd => by cases hd) (.inr (by simp [rf])) h
theorem LR_ren (hI : ∀ b, I b → I' b ∧ w'.heap[b]? = w.heap[b]?) : ∀ (l : List AV) (T T' : Tab) (vs : List Value), (∀ r p q, T r = some p → ν r = some q → T' q = some p ∧ (m' q).Same (m r)) → LR w I m T l vs → LR w' I' m' T' (rens ν l) vs
  | [], T, T', [], _, _ => by simp [rens, LR]
  | [], T, T', _ :: _, _, h => by simp [LR] at h
  | _ :: _, T, T', [], _, h => by simp [LR] at h
  | x :: xs, T, T', v :: vs, hT, h => by
    simp only [rens, LR] at h ⊢
    exact ⟨VR_ren hI x T T' v hT h.1, LR_ren hI xs T T' vs hT h.2⟩
end
theorem rens_get (ν : Nat → Option Nat) : ∀ (l : List AV) (j : Nat), (rens ν l)[j]? = (l[j]?).map (ren ν)
  | [], j => by simp [rens]
  | x :: xs, 0 => by simp [rens]
  | x :: xs, j + 1 => by simp [rens, rens_get ν xs j]
theorem rens_len (ν : Nat → Option Nat) : ∀ l : List AV, (rens ν l).length = l.length
  | [] => by simp [rens]
  | x :: xs => by simp [rens, rens_len ν xs]
end

theorem renRow_els (ν : Nat → Option Nat) (W : Row) : (renRow ν W).els = cnd W.pf W.els (fun i => rens ν (W.els i)) := by
  unfold renRow Row.els
  cases W.pf with
  | true => rfl
  | false =>
    simp only [cnd_false]
    unfold renEx
    split
    · rename_i l he; rw [he]; rfl
    · rfl
theorem renRow_box {ν : Nat → Option Nat} {W : Row} {l : List AV} (hp : W.pf = false) (h : (renRow ν W).ex = .box l) : ∃ l0, W.ex = .box l0 ∧ l = rens ν l0 := by
  unfold renRow at h
  simp only [hp, cnd_false] at h
  unfold renEx at h
  split at h
  · rename_i l0 he
    cases h
    exact ⟨l0, he, rfl⟩
  · cases h

/-- A row told by another name. -/
theorem RowOk.ren {B B' : Nat → Prop} {E E' : Env} {r q : Nat} {W : Row} {ν : Nat → Option Nat} (h : RowOk B E r W) (hm : (E'.m q).Same (E.m r)) (hgv : W.k = 0 → (E'.m q).gv = (E.m r).gv)
    (hcap : (E.m r).al = true → ∃ arr fz, E'.w.heap[(E.m r).blk]? = some (.cells arr W.t fz) ∧ E.w.heap[(E.m r).blk]? = some (.cells arr W.t fz)) (hB : (E.m r).al = true → ¬ B' (E.m r).blk) (hnI : (E.m r).al = true → ¬ E'.I (E.m r).blk)
    (hI : ∀ b, E.I b → E'.I b ∧ E'.w.heap[b]? = E.w.heap[b]?) (hν : ∀ r p q, tab E.H r = some p → ν r = some q → tab E'.H q = some p ∧ (E'.m q).Same (E.m r)) : RowOk B' E' q (renRow ν W) := by
  have hT : ∀ {x : AV} {v : Value}, VR E.w E.I E.m (rowT W (tab E.H)) x v → VR E'.w E'.I E'.m (rowT W (tab E'.H)) (cnd W.pf x (AM.ren ν x)) v := fun {x v} hv => by
    unfold rowT at *
    cases hp : W.pf with
    | true =>
      simp only [hp, if_true, cnd_true] at hv ⊢
      exact VR.mono (fun _ => true) hI x noTab noTab v (fun r p hp => by simp [noTab] at hp) (.inl rfl) hv
    | false =>
      simp only [hp, Bool.false_eq_true, if_false, cnd_false] at hv ⊢
      exact VR_ren hI x _ _ v hν hv
  have hpf : (renRow ν W).pf = W.pf := rfl
  refine ⟨fun h1 => by rw [hm.al]; exact h.al h1, fun i hi => ?_, h.bx, fun l h0 hp hl => ?_, fun ha => ?_⟩
  · have := h.len i hi
    rw [renRow_els]
    show _ = W.k
    cases W.pf with
    | true => exact this
    | false => simpa [rens_len] using this
  · obtain ⟨l0, hl0, rfl⟩ := renRow_box (W := W) hp hl
    rw [hgv h0]
    exact LR_ren hI l0 _ _ _ hν (h.gh l0 h0 hp hl0)
  · rw [hm.al] at ha
    rw [hm.blk, hm.cap]
    obtain ⟨k1, k2, k3, arr, fz, k4, k5, k6, k6', k7⟩ := h.mem ha
    obtain ⟨arr', fz', e1, e2⟩ := hcap ha
    rw [k4] at e2
    cases e2
    refine ⟨hB ha, hnI ha, k3, arr, fz, e1, k5, k6, k6', fun i hi j x hx => ?_⟩
    show ∃ v, arr[i * W.k + j]? = some v ∧ VR E'.w E'.I E'.m (rowT W (tab E'.H)) x v ∧ _
    cases hp : W.pf with
    | true =>
      have hx'' : (W.els i)[j]? = some x := by simpa [renRow_els, hp] using hx
      obtain ⟨v, hv, hvr, h1⟩ := k7 i hi j x hx''
      have := hT hvr
      rw [hp, cnd_true] at this
      exact ⟨v, hv, this, h1⟩
    | false =>
      have hx'' : (rens ν (W.els i))[j]? = some x := by simpa [renRow_els, hp] using hx
      rw [rens_get] at hx''
      cases hy : (W.els i)[j]? with
      | none => rw [hy] at hx''; simp at hx''
      | some y =>
        rw [hy] at hx''
        simp at hx''
        obtain ⟨v, hv, hvr, h1⟩ := k7 i hi j y hy
        have := hT hvr
        rw [hp, cnd_false, hx''] at this
        exact ⟨v, hv, this, h1⟩

theorem posN_get : ∀ {o : List Nat} {r q : Nat}, posN o r = some q → o[q]? = some r
  | [], r, q, h => by simp [posN] at h
  | x :: xs, r, q, h => by
    simp only [posN] at h
    cases hb : Nat.beq x r with
    | true =>
      rw [hb, cnd_true] at h
      cases h
      simp [Nat.eq_of_beq_eq_true hb]
    | false =>
      rw [hb, cnd_false] at h
      split at h
      · rename_i q' hq'
        cases h
        simpa using posN_get hq'
      · cases h
theorem memN_iff {r : Nat} : ∀ {o : List Nat}, memN r o = true ↔ r ∈ o
  | [] => by simp [memN]
  | x :: xs => by
    simp only [memN]
    cases hb : Nat.beq x r with
    | true => simp [Nat.eq_of_beq_eq_true hb]
    | false =>
      have : x ≠ r := Nat.ne_of_beq_eq_false hb
      simp only [cnd_false, List.mem_cons, memN_iff (o := xs)]
      exact ⟨.inr, fun h => h.resolve_left (Ne.symm this)⟩
theorem addAll_nodup : ∀ {rs o : List Nat}, o.Nodup → (addAll o rs).Nodup
  | [], o, h => h
  | r :: rs, o, h => by
    simp only [addAll]
    cases hb : memN r o with
    | true => exact addAll_nodup h
    | false =>
      refine addAll_nodup ?_
      rw [List.nodup_append]
      refine ⟨h, by simp, fun a ha b hb' => ?_⟩
      simp at hb'
      subst hb'
      intro e
      subst e
      rw [memN_iff.2 ha] at hb
      cases hb
theorem reach_nodup {H : AHeap} : ∀ {f p : Nat} {o : List Nat}, o.Nodup → (reach H f p o).Nodup
  | 0, p, o, h => h
  | f + 1, p, o, h => by
    simp only [reach]
    split
    · exact reach_nodup (addAll_nodup h)
    · exact h
theorem order_nodup (l : List AV) (H : AHeap) : (order l H).Nodup := reach_nodup (addAll_nodup (by simp))
theorem nodup_inj : ∀ {o : List Nat} {r i j : Nat}, o.Nodup → o[i]? = some r → o[j]? = some r → i = j
  | [], r, i, j, _, h, _ => by simp at h
  | x :: xs, r, 0, 0, _, _, _ => rfl
  | x :: xs, r, 0, j + 1, hn, h, k => by
    simp at h k
    exact absurd (h ▸ List.mem_of_getElem? k) (List.nodup_cons.1 hn).1
  | x :: xs, r, i + 1, 0, hn, h, k => by
    simp at h k
    exact absurd (k ▸ List.mem_of_getElem? h) (List.nodup_cons.1 hn).1
  | x :: xs, r, i + 1, j + 1, hn, h, k => by
    simp at h k
    rw [nodup_inj (List.nodup_cons.1 hn).2 h k]
theorem subH_get (o : List Nat) (H : AHeap) (q : Nat) : (subH o H)[q]? = (o[q]?).map fun r => (rowAtH H r).map (renRow (posN o)) := by simp [subH]
theorem rowAtH_some {H : AHeap} {r : Nat} {W : Row} : rowAtH H r = some W ↔ H[r]? = some (some W) := by
  unfold rowAtH
  split
  · rename_i o ho; rw [ho]; simp
  · rename_i ho; rw [ho]; simp
theorem subH_some {o : List Nat} {H : AHeap} {q : Nat} {W' : Row} (h : (subH o H)[q]? = some (some W')) : ∃ r W, o[q]? = some r ∧ H[r]? = some (some W) ∧ W' = renRow (posN o) W := by
  rw [subH_get] at h
  cases ho : o[q]? with
  | none => rw [ho] at h; simp at h
  | some r =>
    rw [ho] at h
    simp only [Option.map_some, Option.some.injEq] at h
    cases hr : rowAtH H r with
    | none => rw [hr] at h; simp at h
    | some W =>
      rw [hr] at h
      simp only [Option.map_some, Option.some.injEq] at h
      exact ⟨r, W, rfl, rowAtH_some.1 hr, h.symm⟩
theorem tab_row {H : AHeap} {r : Nat} {p : Nat × Nat} (h : tab H r = some p) : ∃ W : Row, H[r]? = some (some W) ∧ p = (W.k, W.n) := by
  unfold tab at h
  split at h
  · rename_i W hW; cases h; exact ⟨W, hW, rfl⟩
  · cases h
theorem tab_of {H : AHeap} {r : Nat} {W : Row} (h : H[r]? = some (some W)) : tab H r = some (W.k, W.n) := by unfold tab; rw [h]

section
variable {P : Program} {g : Glob} {B : Nat → Prop} {w0 : World} {I0 : Nat → Prop} {E : Env}

/-- The blocks that a callee is to leave alone. -/
def subB (E : Env) (o : List Nat) : Nat → Prop := fun b => b < E.w.heap.size ∧ ∀ r W, r ∈ o → E.H[r]? = some (some W) → (E.m r).al = true → b ≠ (E.m r).blk
def subE (E : Env) (o : List Nat) : Env := { w := E.w, I := E.I, m := fun q => E.m (o.getD q 0), H := subH o E.H }
theorem subE_m {o : List Nat} {q r : Nat} (h : o[q]? = some r) : (subE E o).m q = E.m r := by
  simp only [subE, List.getD_eq_getElem?_getD, h, Option.getD_some]
theorem subE_tab {o : List Nat} {r q : Nat} {p : Nat × Nat} (hT : tab E.H r = some p) (h : posN o r = some q) : tab (subE E o).H q = some p ∧ ((subE E o).m q).Same (E.m r) := by
  obtain ⟨W, hW, rfl⟩ := tab_row hT
  have hq := posN_get h
  refine ⟨?_, by rw [subE_m hq]; exact .rfl' _⟩
  have : (subE E o).H[q]? = some (some (renRow (posN o) W)) := by
    show (subH o E.H)[q]? = _
    rw [subH_get, hq]
    simp [rowAtH_some.2 hW]
  rw [tab_of this]; rfl

theorem subE_rows (h : St g B w0 I0 E) {o : List Nat} {B' : Nat → Prop} (hB : ∀ r W, r ∈ o → E.H[r]? = some (some W) → (E.m r).al = true → ¬ B' (E.m r).blk) : Rows B' (subE E o) := fun q W' hW' => by
  obtain ⟨r, W, ho, hW, rfl⟩ := subH_some hW'
  have hm : (subE E o).m q = E.m r := subE_m ho
  refine (h.rows r W hW).ren (by rw [hm]; exact .rfl' _) (fun _ => by rw [hm]) (fun ha => ?_) (fun ha => hB r W (List.mem_of_getElem? ho) hW ha) (fun ha => ((h.rows r W hW).mem ha).2.1) (fun b hb => ⟨hb, rfl⟩) (fun r p q hT hq => subE_tab hT hq)
  obtain ⟨_, _, _, arr, fz, hh, _⟩ := (h.rows r W hW).mem ha
  exact ⟨arr, fz, hh, hh⟩
theorem subE_inj (h : St g B w0 I0 E) {o : List Nat} (hn : o.Nodup) : ∀ q q' W W', (subE E o).H[q]? = some (some W) → (subE E o).H[q']? = some (some W') → ((subE E o).m q).al = true → ((subE E o).m q').al = true → ((subE E o).m q).blk = ((subE E o).m q').blk → q = q' := fun q q' W W' hW hW' ha ha' hb => by
  obtain ⟨r, V, ho, hV, rfl⟩ := subH_some hW
  obtain ⟨r', V', ho', hV', rfl⟩ := subH_some hW'
  rw [subE_m ho] at ha hb
  rw [subE_m ho'] at ha' hb
  have := h.inj r r' V V' hV hV' ha ha' hb
  subst this
  exact nodup_inj hn ho ho'
theorem subE_gse (h : St g B w0 I0 E) {o : List Nat} : ∀ q W, (subE E o).H[q]? = some (some W) → W.k = 0 → W.pf = false → ((subE E o).m q).gv = g.gs := fun q W' hW' hk hp => by
  obtain ⟨r, V, ho, hV, rfl⟩ := subH_some hW'
  rw [subE_m ho]
  exact h.gse r V hV hk hp
/-- Rows that nothing names are let go; the others have other names. -/
theorem St.gc (h : St g B w0 I0 E) {o : List Nat} (hn : o.Nodup) : St g B w0 I0 (subE E o) :=
  ⟨h.below, h.hB, h.hn, h.gn, h.glob, h.isz, h.imono, h.ifresh, subE_rows h fun r W _ hW ha => ((h.rows r W hW).mem ha).1, subE_inj h hn, subE_gse h⟩
/-- The state that a callee is handed. -/
theorem St.sub (h : St g B w0 I0 E) {o : List Nat} (hn : o.Nodup) : St g (subB E o) E.w E.I (subE E o) := by
  exact ⟨Kept.refl _ _, fun k hk => hk.1, fun k hk => ⟨Nat.lt_of_lt_of_le hk h.gbase, fun r W hr hW ha e => ((h.rows r W hW).mem ha).1 (e ▸ h.hn k hk)⟩, h.gbase, h.glob, h.isz, fun b hb => hb, fun b hb => .inl hb,
    subE_rows h fun r W hr hW ha hs => hs.2 r W hr hW ha rfl, subE_inj h hn, subE_gse h⟩
theorem subE_L {o : List Nat} {l : List AV} {vs : List Value} (h : E.L l vs) : (subE E o).L (rens (posN o) l) vs :=
  LR_ren (fun b hb => ⟨hb, rfl⟩) l _ _ vs (fun r p q hT hq => subE_tab hT hq) h
end
end Go.Proofs.YthmhobnhladhbaaDoor.AM
