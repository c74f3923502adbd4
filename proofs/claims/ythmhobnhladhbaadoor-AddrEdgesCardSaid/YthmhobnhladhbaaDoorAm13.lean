/- The abstract machine, part 13: append. -/
import Derived.Test.YthmhobnhladhbaaDoorAm12
namespace Go.Proofs.YthmhobnhladhbaaDoor.AM
open Go Go.RowKit
set_option linter.unusedSimpArgs false
set_option linter.unusedVariables false

section
variable {P : Program} {L : Tys} {g : Glob} {B : Nat → Prop} {w0 : World} {I0 : Nat → Prop} {E : Env} {R : Type} {r : R}
variable {k : AV → AHeap → Option (Nat → Bool) → Option R}

/-- Cells one behind the other as one list. -/
theorem flat_vals {f : Nat → Option Value} {T : Tab} {kk : Nat} {els : Nat → List AV} : ∀ n : Nat, (∀ i, i < n → (els i).length = kk) → (∀ i, i < n → ∀ (j : Nat) (x : AV), (els i)[j]? = some x → ∃ v, f (i * kk + j) = some v ∧ VR E.w E.I E.m T x v ∧ v.oneCell' = true) →
    ∃ vs : List Value, vs.length = n * kk ∧ (∀ j v, vs[j]? = some v → f j = some v) ∧ (∀ v, v ∈ vs → v.oneCell' = true) ∧ ∀ i, i < n → ∀ (j : Nat) (x : AV), (els i)[j]? = some x → ∃ v, vs[i * kk + j]? = some v ∧ VR E.w E.I E.m T x v ∧ v.oneCell' = true
  | 0, _, _ => ⟨[], by simp, fun j v h => (by simp at h), fun v h => (by cases h), fun i hi => (by omega)⟩
  | n + 1, hl, h => by
    obtain ⟨vs, h1, h2, h3, h4⟩ := flat_vals n (fun i hi => hl i (by omega)) (fun i hi => h i (by omega))
    obtain ⟨us, hu1, hu2⟩ := vals_of (l := els n) (g := fun j => f (n * kk + j)) (w := E.w) (I := E.I) (m := E.m) (T := T) (fun j x hx => by
      obtain ⟨v, a, b, _⟩ := h n (by omega) j x hx; exact ⟨v, a, b⟩)
    have hul : us.length = kk := by rw [← LR_len hu1]; exact hl n (by omega)
    have hone : ∀ (j : Nat) (v : Value), us[j]? = some v → v.oneCell' = true := fun j v hv => by
      have hj : j < (els n).length := by rw [LR_len hu1]; exact (List.getElem?_eq_some_iff.1 hv).1
      obtain ⟨v', a, _, c⟩ := h n (by omega) j _ (List.getElem?_eq_getElem hj)
      have := hu2 j v hv
      rw [a] at this
      cases this; exact c
    refine ⟨vs ++ us, by rw [List.length_append, h1, hul, Nat.succ_mul], fun j v hv => ?_, fun v hv => ?_, fun i hi j x hx => ?_⟩
    · rcases Nat.lt_or_ge j vs.length with hj | hj
      · rw [List.getElem?_append_left hj] at hv; exact h2 j v hv
      · rw [List.getElem?_append_right hj] at hv
        have := hu2 _ v hv
        rwa [show n * kk + (j - vs.length) = j by omega] at this
    · rcases List.mem_append.1 hv with hv | hv
      · exact h3 v hv
      · obtain ⟨j, hj⟩ := List.getElem?_of_mem hv
        exact hone j v hj
    · rcases Nat.lt_or_ge i n with hin | hin
      · obtain ⟨v, a, b, c⟩ := h4 i hin j x hx
        have : i * kk + j < vs.length := (List.getElem?_eq_some_iff.1 a).1
        exact ⟨v, by rw [List.getElem?_append_left this]; exact a, b, c⟩
      · have hi' : i = n := by omega
        subst hi'
        obtain ⟨v, a, b⟩ := LR_get hu1 j x hx
        refine ⟨v, ?_, b, hone j v a⟩
        rw [List.getElem?_append_right (by omega), show i * kk + j - vs.length = j by omega]
        exact a

/-- A row gives way to a longer one, elsewhere or in its place. -/
theorem St.grown (h : St g B w0 I0 E) {r' : Nat} {W W' : Row} (hW : E.H[r']? = some (some W)) (ht : W'.t = W.t) (hk : W'.k = W.k) (hbx : W'.box = false) (hkp : W.k ≠ 0) {H' : AHeap}
    (hH1 : ∀ q, q ≠ r' → ∀ V', H'[q]? = some (some V') → ∃ V, E.H[q]? = some (some V) ∧ V' = kdRow (fun q => !(Nat.beq q r')) V)
    (hH2 : ∀ q V, q ≠ r' → E.H[q]? = some (some V) → H'[q]? = some (some (kdRow (fun q => !(Nat.beq q r')) V)))
    (hH3 : H'[r']? = some (some W')) {w' : World} {blk cap : Nat} {arr : Array Value}
    (hblk : blk = E.w.heap.size ∨ (E.m r').al = true ∧ blk = (E.m r').blk) (hw : ∀ b, b ≠ blk → b < E.w.heap.size → w'.heap[b]? = E.w.heap[b]?) (hsz : E.w.heap.size ≤ w'.heap.size) (hos : w'.os = E.w.os) (htp : w'.tape = E.w.tape) (hout : w'.output = E.w.output)
    (hold : ∀ (arr0 : Array Value) (t : TypeId) (fz : Nat × Nat), E.w.heap[blk]? = some (.cells arr0 t fz) → t = W'.t ∧ arr.size = arr0.size) (hnew : w'.heap[blk]? = some (.cells arr W'.t (0, 0))) (hlen : ∀ i, i < W'.n → (W'.els i).length = W'.k) (hn : W'.n ≤ cap) (has : arr.size = cap * W'.k)
    (hc : ∀ i, i < W'.n → ∀ (j : Nat) (x : AV), (W'.els i)[j]? = some x → ∃ v, arr[i * W'.k + j]? = some v ∧ (VR E.w E.I E.m (rowT W' (tab E.H)) x v ∧ (W'.pf = true ∨ rf (fun q => !(Nat.beq q r')) x = true)) ∧ v.oneCell' = true) :
    St g B w0 I0 { w := w', I := E.I, m := upd E.m r' ⟨blk, cap, true, []⟩, H := H' } ∧ Ext (fun q => !(Nat.beq q r')) E { w := w', I := E.I, m := upd E.m r' ⟨blk, cap, true, []⟩, H := H' } := by
  have hB : ¬ B blk := by
    rcases hblk with rfl | ⟨ha, rfl⟩
    · exact fun hb => absurd (h.base _ hb) (Nat.lt_irrefl _)
    · exact ((h.rows r' W hW).mem ha).1
  have hI : ¬ E.I blk := fun hb => by
    rcases hblk with rfl | ⟨ha, rfl⟩
    · exact Nat.lt_irrefl _ (h.isz _ hb)
    · exact ((h.rows r' W hW).mem ha).2.1 hb
  have hD : ∀ q, (!(Nat.beq q r')) = true ↔ q ≠ r' := fun q => by
    cases hb : Nat.beq q r' with
    | true => simp [Nat.eq_of_beq_eq_true hb]
    | false => simp [Nat.ne_of_beq_eq_false hb]
  have hx : Ext (fun q => !(Nat.beq q r')) E { w := w', I := E.I, m := upd E.m r' ⟨blk, cap, true, []⟩, H := H' } := ⟨fun b hb => ⟨hb, hw b (fun e => hI (e ▸ hb)) (h.isz b hb)⟩, fun q p hp hd => by
    have hq : q ≠ r' := (hD q).1 hd
    refine ⟨?_, upd_ne _ _ hq⟩
    unfold tab at hp ⊢
    split at hp
    · rename_i V hV
      simp only
      rw [hH2 q V hq hV]
      cases hp; rfl
    · cases hp⟩
  have hother : ∀ q V, q ≠ r' → E.H[q]? = some (some V) → (E.m q).al = true → (E.m q).blk ≠ blk := fun q V hq hV ha e => by
    rcases hblk with rfl | ⟨ha', rfl⟩
    · have := h.lt hV ha; omega
    · exact hq (h.inj q r' V W hV hW ha ha' e)
  refine ⟨⟨h.below.trans ⟨hos, htp, hout, hsz, fun b hb => hw b (fun e => hB (e ▸ hb)) (h.base b hb), fun b arr0 t fz hb => by
      by_cases e : b = blk
      · subst e
        obtain ⟨rfl, e2⟩ := hold arr0 t fz hb
        exact ⟨arr, _, hnew, e2⟩
      · exact ⟨arr0, fz, by rw [hw b e (Array.getElem?_eq_some_iff.1 hb).1]; exact hb, rfl⟩⟩, h.hB, h.hn, h.gn, g.stab E.w w' ⟨hos, htp, hout, hsz, fun b hb => hw b (fun e => hB (e ▸ h.hn b hb)) (by have := h.gbase; omega)⟩ h.glob,
    fun b hb => Nat.lt_of_lt_of_le (h.isz b hb) hsz, h.imono, h.ifresh, fun q V hV => ?_, fun q q' V V' hV hV' a1 a2 hb => ?_, fun q V hV hkq hpq => ?_⟩, hx⟩
  rotate_left
  rotate_left
  · by_cases hq : q = r'
    · subst hq
      have : H'[q]? = some (some V) := hV
      rw [hH3] at this
      have hV' : W' = V := by simpa using this
      exact absurd (hk ▸ hV' ▸ hkq) hkp
    · obtain ⟨V0, hV0, rfl⟩ := hH1 q hq V hV
      have hm : upd E.m r' ⟨blk, cap, true, []⟩ q = E.m q := upd_ne _ _ hq
      show (upd E.m r' ⟨blk, cap, true, []⟩ q).gv = g.gs
      rw [hm]; exact h.gse q V0 hV0 hkq hpq
  · by_cases hq : q = r'
    · subst hq
      have hV' : V = W' := by
        have : H'[q]? = some (some V) := hV
        rw [hH3] at this
        simpa using this.symm
      subst hV'
      refine ⟨fun _ => by simp only [upd_same], hlen, fun hb => (by rw [hbx] at hb; cases hb), fun l h0 => absurd (hk ▸ h0) hkp, fun _ => ?_⟩
      simp only [upd_same]
      refine ⟨hB, hI, hn, arr, (0, 0), hnew, has, .inr (Nat.le_refl _), fun _ => rfl, fun i hi j x hx' => ?_⟩
      obtain ⟨v, hv, ⟨hvr, hd⟩, h1⟩ := hc i hi j x hx'
      exact ⟨v, hv, VR_ext hx hd hvr, h1⟩
    · obtain ⟨V0, hV0, rfl⟩ := hH1 q hq V hV
      have hk0 := h.rows q V0 hV0
      have hm : upd E.m r' ⟨blk, cap, true, []⟩ q = E.m q := upd_ne _ _ hq
      refine ⟨fun h1 => by simp only [hm]; exact hk0.al h1, fun i hi => ?_, hk0.bx, fun l h0 hp hl => ?_, fun ha => ?_⟩
      rotate_left
      · obtain ⟨l0, hl0, rfl⟩ := kdRow_box (W := V0) hp hl
        simp only [hm]
        exact hx.L (rfs_kds l0) (LR_kds _ _ _ (hk0.gh l0 h0 hp hl0))
      rotate_left
      · have := hk0.len i hi
        rw [kdRow_els]
        show _ = V0.k
        cases V0.pf with
        | true => exact this
        | false => simpa [kds_len] using this
      · simp only [hm] at ha ⊢
        obtain ⟨k1, k2, k3, arr0, fz, k4, k5, k6, k6', k7⟩ := hk0.mem ha
        refine ⟨k1, k2, k3, arr0, fz, ?_, k5, k6, k6', fun i hi j x hx' => ?_⟩
        · rw [hw _ (hother q V0 hq hV0 ha) (h.lt hV0 ha)]; exact k4
        · cases hp : V0.pf with
          | true =>
            have hx'' : (V0.els i)[j]? = some x := by simpa [kdRow_els, hp] using hx'
            obtain ⟨v, hv, hvr, h1⟩ := k7 i hi j x hx''
            exact ⟨v, hv, VR_ext hx (.inl hp) hvr, h1⟩
          | false =>
            have hx'' : (kds (fun q => !(Nat.beq q r')) (V0.els i))[j]? = some x := by simpa [kdRow_els, hp] using hx'
            rw [kds_get] at hx''
            cases hy : (V0.els i)[j]? with
            | none => rw [hy] at hx''; simp at hx''
            | some y =>
              rw [hy] at hx''
              simp at hx''
              obtain ⟨v, hv, hvr, h1⟩ := k7 i hi j y hy
              refine ⟨v, hv, ?_, h1⟩
              rw [← hx'']
              exact VR_ext hx (.inr (rf_kd y)) (VR_kd y _ v hvr)
  · have key : ∀ q V, q ≠ r' → H'[q]? = some (some V) → (upd E.m r' ⟨blk, cap, true, []⟩ q).al = true → ∃ V0, E.H[q]? = some (some V0) ∧ (E.m q).al = true ∧ upd E.m r' ⟨blk, cap, true, []⟩ q = E.m q := fun q V hq hV ha => by
      obtain ⟨V0, hV0, _⟩ := hH1 q hq V hV
      have hm : upd E.m r' ⟨blk, cap, true, []⟩ q = E.m q := upd_ne _ _ hq
      exact ⟨V0, hV0, hm ▸ ha, hm⟩
    by_cases e1 : q = r' <;> by_cases e2 : q' = r'
    · rw [e1, e2]
    · obtain ⟨V0, hV0, ha, hm⟩ := key q' V' e2 hV' a2
      have hb' : (upd E.m r' ⟨blk, cap, true, []⟩ q).blk = (upd E.m r' ⟨blk, cap, true, []⟩ q').blk := hb
      rw [hm, e1, upd_same] at hb'
      exact absurd hb'.symm (hother q' V0 e2 hV0 ha)
    · obtain ⟨V0, hV0, ha, hm⟩ := key q V e1 hV a1
      have hb' : (upd E.m r' ⟨blk, cap, true, []⟩ q).blk = (upd E.m r' ⟨blk, cap, true, []⟩ q').blk := hb
      rw [hm, e2, upd_same] at hb'
      exact absurd hb' (hother q V0 e1 hV0 ha)
    · obtain ⟨V0, hV0, ha, hm⟩ := key q V e1 hV a1
      obtain ⟨V1, hV1, ha1, hm1⟩ := key q' V' e2 hV' a2
      have hb' : (upd E.m r' ⟨blk, cap, true, []⟩ q).blk = (upd E.m r' ⟨blk, cap, true, []⟩ q').blk := hb
      rw [hm, hm1] at hb'
      exact h.inj q q' V0 V1 hV0 hV1 ha ha1 hb'
end
end Go.Proofs.YthmhobnhladhbaaDoor.AM
