/- The abstract machine, part 14: append, the operation. -/
import Derived.Test.YthmhobnhladhbaaDoorAm13
namespace Go.Proofs.YthmhobnhladhbaaDoor.AM
open Go Go.RowKit
set_option linter.unusedSimpArgs false
set_option linter.unusedVariables false

section
variable {P : Program} {L : Tys} {g : Glob} {B : Nat → Prop} {w0 : World} {I0 : Nat → Prop} {E : Env} {R : Type} {r : R}
variable {k : AV → AHeap → Option (Nat → Bool) → Option R}

theorem ne_iff {q r' : Nat} : (!(Nat.beq q r')) = true ↔ q ≠ r' := by
  cases hb : Nat.beq q r' with
  | true => simp [Nat.eq_of_beq_eq_true hb]
  | false => simp [Nat.ne_of_beq_eq_false hb]

section
variable {w : World} {I : Nat → Prop} {m : Nat → Info} {D : Nat → Bool}
mutual
theorem rf_of_noTab : ∀ (x : AV) (v : Value), VR w I m noTab x v → rf D x = true
  | .agg l, v, h => by simp only [VR] at h; obtain ⟨a, rfl, h⟩ := h; simp only [rf]; exact rfs_of_noTab l _ h
  | .tup l, v, h => by simp only [VR] at h; obtain ⟨a, rfl, h⟩ := h; simp only [rf]; exact rfs_of_noTab l _ h
  | .fn f l, v, h => by simp only [VR] at h; obtain ⟨a, rfl, h⟩ := h; simp only [rf]; exact rfs_of_noTab l _ h
  | .ifc t x, v, h => by simp only [VR] at h; obtain ⟨y, rfl, h⟩ := h; simp only [rf]; exact rf_of_noTab x _ h
  | .sl r n, v, h => by simp only [VR] at h; obtain ⟨⟨k, hk⟩, _⟩ := h; simp [noTab] at hk
  | .ptr r i j, v, h => by simp only [VR] at h; obtain ⟨k, n, hk, _⟩ := h; simp [noTab] at hk
  | .b _, _, _ => by simp [rf]
  | .snap _ _ _, _, _ => by simp [rf]
  | .sptr _, _, _ => by simp [rf]
  | .sp r n, v, h => by simp only [VR] at h; obtain ⟨⟨k, hk⟩, _⟩ := h; simp [noTab] at hk
  | .top, _, _ => by simp [rf]
theorem rfs_of_noTab : ∀ (l : List AV) (vs : List Value), LR w I m noTab l vs → rfs D l = true
  | [], _, _ => by simp [rfs]
  | x :: xs, [], h => by simp [LR] at h
  | x :: xs, v :: vs, h => by simp only [LR] at h; simp only [rfs, rf_of_noTab x v h.1, rfs_of_noTab xs vs h.2]; rfl
end
end

/-- A row that is not there, told anew. -/
theorem St.reghost (h : St g B w0 I0 E) {r' : Nat} {W W' : Row} (hW : E.H[r']? = some (some W)) (hal : (E.m r').al = false) (hn : W'.n = 0) (hmn : W'.mn = true) (hb : W'.box = false) (hkp : W'.k ≠ 0) {H' : AHeap}
    (hH1 : ∀ q, q ≠ r' → ∀ V', H'[q]? = some (some V') → ∃ V, E.H[q]? = some (some V) ∧ V' = kdRow (fun q => !(Nat.beq q r')) V)
    (hH2 : ∀ q V, q ≠ r' → E.H[q]? = some (some V) → H'[q]? = some (some (kdRow (fun q => !(Nat.beq q r')) V)))
    (hH3 : H'[r']? = some (some W')) : St g B w0 I0 { E with H := H' } ∧ Ext (fun q => !(Nat.beq q r')) E { E with H := H' } := by
  obtain ⟨s1, s2⟩ := h.cut (D := fun q => !(Nat.beq q r')) (H' := H'.set r' none) (fun q V' hV => by
    by_cases hq : q = r'
    · subst hq
      have hl : q < H'.length := (List.getElem?_eq_some_iff.1 hH3).1
      rw [List.getElem?_set, if_pos rfl, if_pos hl] at hV
      cases hV
    · rw [List.getElem?_set, if_neg (Ne.symm hq)] at hV
      exact ⟨ne_iff.2 hq, hH1 q hq V' hV⟩) (fun q V hV hd => by
    have hq := ne_iff.1 hd
    rw [List.getElem?_set, if_neg (Ne.symm hq)]
    exact hH2 q V hq hV)
  have hget : ∀ q, q ≠ r' → (H'.set r' none)[q]? = H'[q]? := fun q hq => by rw [List.getElem?_set, if_neg (Ne.symm hq)]
  have hx : Ext (fun q => !(Nat.beq q r')) { E with H := H'.set r' none } { E with H := H' } := ⟨fun b hb => ⟨hb, rfl⟩, fun q p hp hd => by
    refine ⟨?_, rfl⟩
    have hq := ne_iff.1 hd
    unfold tab at hp ⊢
    simp only at hp ⊢
    rw [hget q hq] at hp
    exact hp⟩
  refine ⟨⟨s1.below, s1.hB, s1.hn, s1.gn, s1.glob, s1.isz, s1.imono, s1.ifresh, fun q V hV => ?_, fun q q' V V' hV hV' a1 a2 hb => ?_, fun q V hV hkq hpq => ?_⟩, s2.trans hx⟩
  rotate_left
  rotate_left
  · by_cases hq : q = r'
    · subst hq
      have : H'[q]? = some (some V) := hV
      rw [hH3] at this
      have hV' : W' = V := by simpa using this
      exact absurd (hV' ▸ hkq) hkp
    · exact s1.gse q V (by show (H'.set r' none)[q]? = _; rw [hget q hq]; exact hV) hkq hpq
  · by_cases hq : q = r'
    · subst hq
      have hV' : V = W' := by
        have : H'[q]? = some (some V) := hV
        rw [hH3] at this
        simpa using this.symm
      subst hV'
      exact ⟨fun h1 => absurd h1 (by rw [hmn, hn]; simp), fun i hi => (by omega), fun h1 => (by rw [hb] at h1; cases h1), fun l h0 => absurd h0 hkp, fun h1 => (by simp only [hal] at h1; cases h1)⟩
    · have hV2 : (H'.set r' none)[q]? = some (some V) := by rw [hget q hq]; exact hV
      obtain ⟨V0, hV0, hVe⟩ := hH1 q hq V hV
      by_cases ha : (E.m q).al = true
      · exact (s1.rows q V hV2).ext hx rfl rfl (fun h1 _ => h1) (by
          subst hVe
          cases hp : V0.pf with
          | true => exact .inl hp
          | false =>
            refine .inr fun i hi j x hx' => ?_
            have hx'' : (kds (fun q => !(Nat.beq q r')) (V0.els i))[j]? = some x := by simpa [kdRow_els, hp] using hx'
            rw [kds_get] at hx''
            cases hy : (V0.els i)[j]? with
            | none => rw [hy] at hx''; simp at hx''
            | some y => rw [hy] at hx''; simp at hx''; rw [← hx'']; exact rf_kd y) (fun l hp hl => by
          subst hVe
          obtain ⟨l0, _, rfl⟩ := kdRow_box (W := V0) hp hl
          exact rfs_kds l0)
      · exact ⟨fun h1 => absurd ((s1.rows q V hV2).al h1) ha, (s1.rows q V hV2).len, (s1.rows q V hV2).bx, fun l h0 hp hl => (by
          subst hVe
          obtain ⟨l0, hl0, rfl⟩ := kdRow_box (W := V0) hp hl
          exact hx.L (rfs_kds l0) ((s1.rows q _ hV2).gh _ h0 hp hl)), fun h1 => absurd h1 ha⟩
  · have n1 : q ≠ r' := fun e => by rw [e] at a1; simp only [hal] at a1; cases a1
    have n2 : q' ≠ r' := fun e => by rw [e] at a2; simp only [hal] at a2; cases a2
    exact s1.inj q q' V V' (by show (H'.set r' none)[q]? = _; rw [hget q n1]; exact hV) (by show (H'.set r' none)[q']? = _; rw [hget q' n2]; exact hV') a1 a2 hb

theorem e_append (hS : St g B w0 I0 E) {t e ty : TypeId} {ye : Ty} (hu : P.underlying t = some (.slice e)) (hye : TyOk P e ye) {r' n n2 : Nat} {W : Row} {e2 : Els} {p2 : Bool} {vs : Value} {A : Option Addr} {c2 : Nat}
    (hW : E.H[r']? = some (some W)) (hs : E.V (.sl r' n) vs)
    (hsrc : 0 < n2 → ∃ a, A = some a ∧ (∀ i, i < n2 → ((e2.at') i).length = W.k) ∧ ∀ i, i < n2 → ∀ (j : Nat) (x : AV), ((e2.at') i)[j]? = some x → ∃ v, E.w.cell? (a.add (i * W.k + j)) = some v ∧ VR E.w E.I E.m (cnd p2 noTab (tab E.H)) x v ∧ v.oneCell' = true)
    (ht : W.t = e) (hzc' : ye.zero.cells.size = ye.size) (h : appendA E.H r' W ye n n2 e2 p2 k = some r) : Nxt P g B w0 I0 E (do pure (Next.value (← Builtin.append_ #[t, t] ty #[vs, .slice A n2 c2]))) k r := by
  unfold appendA at h
  obtain ⟨hc, h⟩ := cond_some h
  simp only [Bool.and_eq_true, Bool.not_eq_true'] at hc
  obtain ⟨⟨⟨hc1, hc2⟩, hcv⟩, hbox⟩ := hc
  obtain ⟨hfits, h⟩ := if_some h
  unfold rowFits at hfits
  rw [Bool.and_eq_true] at hfits
  have hbytes := Nat.le_of_ble_eq_true hfits.1
  have h63 := Nat.le_of_ble_eq_true hfits.2
  have hsize : ye.size = W.k := Nat.eq_of_beq_eq_true hc1
  have hkp : 0 < W.k := by have := Nat.le_of_ble_eq_true hc2; omega
  have hk0 := hS.rows r' W hW
  have hrl : r' < E.H.length := (List.getElem?_eq_some_iff.1 hW).1
  have hs0 := hs
  simp only [Env.V, VR] at hs
  obtain ⟨⟨kk, hT⟩, hs⟩ := hs
  obtain ⟨rfl, rfl⟩ := row_of hW hT
  obtain ⟨it, hit, hz, hisz, hiby⟩ := hye.info
  have hzc : ye.zero.cells.size = W.k := by rw [hzc', hsize]
  -- the new heap
  generalize hH' : (kdHeap (fun q => !(Nat.beq q r')) E.H).set r' (some (newRowA r' W W.n n2 e2 p2)) = H'
  have hh : k (.sl r' (W.n + n2)) H' (some (fun q => !(Nat.beq q r'))) = some r := by rw [← hH']; exact h
  have hH1 : ∀ q, q ≠ r' → ∀ V', H'[q]? = some (some V') → ∃ V, E.H[q]? = some (some V) ∧ V' = kdRow (fun q => !(Nat.beq q r')) V := fun q hq V' hV => by
    rw [← hH', List.getElem?_set, if_neg (Ne.symm hq), kdHeap_get] at hV
    cases ho : E.H[q]? with
    | none => rw [ho] at hV; cases hV
    | some o => cases o with
      | none => rw [ho] at hV; cases hV
      | some V => rw [ho] at hV; exact ⟨V, rfl, by simpa using hV.symm⟩
  have hH2 : ∀ q V, q ≠ r' → E.H[q]? = some (some V) → H'[q]? = some (some (kdRow (fun q => !(Nat.beq q r')) V)) := fun q V hq hV => by
    rw [← hH', List.getElem?_set, if_neg (Ne.symm hq), kdHeap_get, hV]; rfl
  have hH3 : H'[r']? = some (some (newRowA r' W W.n n2 e2 p2)) := by
    rw [← hH', List.getElem?_set, if_pos rfl, if_pos (by simpa [kdHeap] using hrl)]
  have htab : tab H' r' = some (W.k, W.n + n2) := by unfold tab; rw [hH3]; rfl
  -- the elements
  obtain ⟨hels1, hels2⟩ := newRowA_els r' W W.n n2 e2 p2
  have hlen : ∀ i, i < (newRowA r' W W.n n2 e2 p2).n → ((newRowA r' W W.n n2 e2 p2).els i).length = W.k := fun i hi => by
    have hi' : i < W.n + n2 := hi
    rcases Nat.lt_or_ge i W.n with h1 | h1
    · rw [hels1 i h1]
      have := hk0.len i h1
      rw [kdRow_els]
      show _ = W.k
      cases W.pf with
      | true => exact this
      | false => simpa [kds_len] using this
    · obtain ⟨q, rfl⟩ : ∃ q, i = W.n + q := ⟨i - W.n, by omega⟩
      rw [hels2 q (by omega)]
      obtain ⟨a, _, hl, _⟩ := hsrc (by omega)
      cases p2 with
      | true => exact hl q (by omega)
      | false => simpa [kds_len] using hl q (by omega)
  -- what an old or a new element's cell becomes
  have hpfn : (newRowA r' W W.n n2 e2 p2).pf = (W.pf && p2) := rfl
  have conv1 : ∀ {y x : AV} {v : Value}, (W.pf = true ∧ x = y ∨ W.pf = false ∧ x = kd (fun q => !(Nat.beq q r')) y) → VR E.w E.I E.m (rowT W (tab E.H)) y v → VR E.w E.I E.m (rowT (newRowA r' W W.n n2 e2 p2) (tab E.H)) x v ∧ ((newRowA r' W W.n n2 e2 p2).pf = true ∨ rf (fun q => !(Nat.beq q r')) x = true) := fun {y x v} hxy hv => by
    rcases hxy with ⟨hp, rfl⟩ | ⟨hp, rfl⟩
    · unfold rowT at hv ⊢
      rw [if_pos hp] at hv
      rw [hpfn, hp]
      cases p2 with
      | true => exact ⟨hv, .inl rfl⟩
      | false => exact ⟨VR_noTab hv, .inr (rf_of_noTab x v hv)⟩
    · unfold rowT at hv ⊢
      rw [hp] at hv
      rw [hpfn, hp]
      simp only [Bool.false_and, Bool.false_eq_true, if_false] at hv ⊢
      exact ⟨VR_kd y _ v hv, .inr (rf_kd y)⟩
  have conv2 : ∀ {y x : AV} {v : Value}, (p2 = true ∧ x = y ∨ p2 = false ∧ x = kd (fun q => !(Nat.beq q r')) y) → VR E.w E.I E.m (cnd p2 noTab (tab E.H)) y v → VR E.w E.I E.m (rowT (newRowA r' W W.n n2 e2 p2) (tab E.H)) x v ∧ ((newRowA r' W W.n n2 e2 p2).pf = true ∨ rf (fun q => !(Nat.beq q r')) x = true) := fun {y x v} hxy hv => by
    rcases hxy with ⟨hp, rfl⟩ | ⟨hp, rfl⟩
    · rw [hp] at hv
      unfold rowT
      rw [hpfn, hp]
      cases hq : W.pf with
      | true => exact ⟨hv, .inl rfl⟩
      | false => exact ⟨VR_noTab hv, .inr (rf_of_noTab x v hv)⟩
    · rw [hp] at hv
      unfold rowT
      rw [hpfn, hp]
      simp only [Bool.and_false, Bool.false_eq_true, if_false, cnd_false] at hv ⊢
      exact ⟨VR_kd y _ v hv, .inr (rf_kd y)⟩
  have hWt : (newRowA r' W W.n n2 e2 p2).t = W.t := rfl
  have hWk : (newRowA r' W W.n n2 e2 p2).k = W.k := rfl
  have hWn : (newRowA r' W W.n n2 e2 p2).n = W.n + n2 := rfl
  have hWb : (newRowA r' W W.n n2 e2 p2).box = false := hbox
  have mkc : ∀ {news : List Value} {arr' : Array Value}, (∀ i, i < W.n → ∀ (j : Nat) (x : AV), (W.els i)[j]? = some x → ∃ v, arr'[i * W.k + j]? = some v ∧ VR E.w E.I E.m (rowT W (tab E.H)) x v ∧ v.oneCell' = true) →
      (∀ (j : Nat) (v : Value), news[j]? = some v → arr'[W.n * W.k + j]? = some v) →
      (∀ i, i < n2 → ∀ (j : Nat) (x : AV), ((e2.at') i)[j]? = some x → ∃ v, news[i * W.k + j]? = some v ∧ VR E.w E.I E.m (cnd p2 noTab (tab E.H)) x v ∧ v.oneCell' = true) →
      ∀ i, i < (newRowA r' W W.n n2 e2 p2).n → ∀ (j : Nat) (x : AV), ((newRowA r' W W.n n2 e2 p2).els i)[j]? = some x → ∃ v, arr'[i * (newRowA r' W W.n n2 e2 p2).k + j]? = some v ∧ (VR E.w E.I E.m (rowT (newRowA r' W W.n n2 e2 p2) (tab E.H)) x v ∧ ((newRowA r' W W.n n2 e2 p2).pf = true ∨ rf (fun q => !(Nat.beq q r')) x = true)) ∧ v.oneCell' = true := fun {news arr'} ho hn hnew i hi j x hx => by
    rw [hWn] at hi
    rw [hWk]
    rcases Nat.lt_or_ge i W.n with h1 | h1
    · rw [hels1 i h1] at hx
      cases hp : W.pf with
      | true =>
        have hx' : (W.els i)[j]? = some x := by simpa [kdRow_els, hp] using hx
        obtain ⟨v, a, b, c⟩ := ho i h1 j x hx'
        exact ⟨v, a, conv1 (.inl ⟨hp, rfl⟩) b, c⟩
      | false =>
        have hx' : (kds (fun q => !(Nat.beq q r')) (W.els i))[j]? = some x := by simpa [kdRow_els, hp] using hx
        rw [kds_get] at hx'
        cases hy : (W.els i)[j]? with
        | none => rw [hy] at hx'; simp at hx'
        | some y =>
          rw [hy] at hx'
          simp at hx'
          obtain ⟨v, a, b, c⟩ := ho i h1 j y hy
          exact ⟨v, a, conv1 (.inr ⟨hp, hx'.symm⟩) b, c⟩
    · obtain ⟨q, rfl⟩ : ∃ q, i = W.n + q := ⟨i - W.n, by omega⟩
      rw [hels2 q (by omega)] at hx
      have hadd : (W.n + q) * W.k + j = W.n * W.k + (q * W.k + j) := by rw [Nat.add_mul, Nat.add_assoc]
      rcases Bool.eq_false_or_eq_true p2 with hp | hp
      · have hx' : ((e2.at') q)[j]? = some x := by simpa [hp] using hx
        obtain ⟨v, a, b, c⟩ := hnew q (by omega) j x hx'
        exact ⟨v, by rw [hadd]; exact hn _ v a, conv2 (.inl ⟨hp, rfl⟩) b, c⟩
      · have hx' : (kds (fun q => !(Nat.beq q r')) ((e2.at') q))[j]? = some x := by simpa [hp] using hx
        rw [kds_get] at hx'
        cases hy : ((e2.at') q)[j]? with
        | none => rw [hy] at hx'; simp at hx'
        | some y =>
          rw [hy] at hx'
          simp at hx'
          obtain ⟨v, a, b, c⟩ := hnew q (by omega) j y hy
          exact ⟨v, by rw [hadd]; exact hn _ v a, conv2 (.inr ⟨hp, hx'.symm⟩) b, c⟩
  have fin : ∀ {w' : World} {blk cap : Nat} {v' : Value}, (St g B w0 I0 { w := w', I := E.I, m := upd E.m r' ⟨blk, cap, true, []⟩, H := H' } ∧ Ext (fun q => !(Nat.beq q r')) E { w := w', I := E.I, m := upd E.m r' ⟨blk, cap, true, []⟩, H := H' }) → (∃ c, v' = .slice (some ⟨blk, 0, none⟩) (W.n + n2) c ∧ W.n + n2 ≤ c ∧ c ≤ cap) →
      (Builtin.append_ #[t, t] ty #[vs, .slice A n2 c2]).run P E.w = .ok v' w' → Nxt P g B w0 I0 E (do pure (Next.value (← Builtin.append_ #[t, t] ty #[vs, .slice A n2 c2]))) k r := fun {w' blk cap v'} hst hv hrun => by
    obtain ⟨c, rfl, hv1, hv2⟩ := hv
    refine ⟨_, _, _, some (fun q => !(Nat.beq q r')), hst.1, hst.2, ?_, hh, .inl (run_val hrun)⟩
    simp only [Env.V, VR]
    refine ⟨⟨W.k, htab⟩, ?_⟩
    rw [upd_same]
    simp only [if_true]
    exact ⟨c, rfl, hv1, hv2⟩
  have same0 : n2 = 0 → ∀ (base : Option Addr) (sl sc : Nat), vs = .slice base sl sc → sl ≤ sc → (Builtin.append_ #[t, t] ty #[vs, .slice A n2 c2]).run P E.w = .ok vs E.w := fun h0 base sl sc hv hle => by
    subst h0 hv
    have hf : (Builtin.firstCells it.size 0 (.slice A 0 c2)).run P E.w = .ok #[] E.w := by
      cases A with
      | none => simp [Builtin.firstCells]
      | some a => simp [Builtin.firstCells, loadCells, loadCellsFrom]
    cases base with
    | none => simp [Builtin.append_, run_underlying hu, sizeOf, typeInfo, hit, Builtin.lenOf, hle, hf]
    | some a => simp [Builtin.append_, run_underlying hu, sizeOf, typeInfo, hit, Builtin.lenOf, hle, hf, storeCells]
  have hks : W.k = it.size := by rw [hisz, hsize]
  have newb : ∀ {news olds : List Value} {oc : Nat}, (Builtin.append_ #[t, t] ty #[vs, .slice A n2 c2]).run P E.w = .ok (.slice (some ⟨E.w.heap.size, 0, none⟩) (W.n + n2) (grownCap E.w (W.n + n2) oc e)) (E.w.drew.alloc (.cells (olds.toArray ++ news.toArray ++ Builtin.zeroCells ye.zero.cells (grownCap E.w (W.n + n2) oc e - (W.n + n2))) e)) →
      olds.length = W.n * W.k → (∀ i, i < W.n → ∀ (j : Nat) (x : AV), (W.els i)[j]? = some x → ∃ v, olds[i * W.k + j]? = some v ∧ VR E.w E.I E.m (rowT W (tab E.H)) x v ∧ v.oneCell' = true) → news.length = n2 * W.k →
      (∀ i, i < n2 → ∀ (j : Nat) (x : AV), ((e2.at') i)[j]? = some x → ∃ v, news[i * W.k + j]? = some v ∧ VR E.w E.I E.m (cnd p2 noTab (tab E.H)) x v ∧ v.oneCell' = true) →
      Nxt P g B w0 I0 E (do pure (Next.value (← Builtin.append_ #[t, t] ty #[vs, .slice A n2 c2]))) k r := fun {news olds oc} hrun hol ho hnl hnew => by
    have hge := grownCap_ge E.w (W.n + n2) oc e
    refine fin (blk := E.w.heap.size) (cap := grownCap E.w (W.n + n2) oc e) ?_ ⟨_, rfl, hge, Nat.le_refl _⟩ hrun
    refine hS.grown hW hWt hWk hWb (by omega) hH1 hH2 hH3 (arr := olds.toArray ++ news.toArray ++ Builtin.zeroCells ye.zero.cells (grownCap E.w (W.n + n2) oc e - (W.n + n2))) (.inl rfl) (fun b hb hlt => ?_) ?_ rfl rfl rfl (fun arr0 t fz hb => absurd (Array.getElem?_eq_some_iff.1 hb).1 (Nat.lt_irrefl _)) ?_ (by rw [hWk]; exact hlen) (by rw [hWn]; exact hge) ?_ ?_
    · exact heap_alloc_old E.w.drew _ b hlt
    · simp
    · rw [hWt, ht]; exact heap_alloc_new E.w.drew _
    · rw [hWk]
      simp only [Array.size_append, List.size_toArray, hol, hnl, size_zeroCells, hzc, ← Nat.add_mul]
      congr 1
      omega
    · refine mkc (news := news) (fun i hi j x hx => ?_) (fun j v hv => ?_) hnew
      · obtain ⟨v, b1, b2, b3⟩ := ho i hi j x hx
        refine ⟨v, ?_, b2, b3⟩
        have hlt : i * W.k + j < olds.length := (List.getElem?_eq_some_iff.1 b1).1
        rw [Array.append_assoc, Array.getElem?_append_left (by simpa using hlt), List.getElem?_toArray]
        exact b1
      · have hj : j < news.length := (List.getElem?_eq_some_iff.1 hv).1
        rw [Array.append_assoc, Array.getElem?_append_right (by simp; omega), Array.getElem?_append_left (by simp; omega), List.size_toArray, hol, show W.n * W.k + j - W.n * W.k = j by omega, List.getElem?_toArray]
        exact hv
  cases hal : (E.m r').al with
  | true =>
    obtain ⟨k1, k2, k3, arr, fz, k4, k5, k6, k6', k7⟩ := hk0.mem hal
    have hfz := k6' hcv
    subst hfz
    rw [if_pos hal] at hs
    obtain ⟨c, rfl, hnc, hcc⟩ := hs
    rcases Nat.eq_zero_or_pos n2 with h0 | h0
    · refine fin (w' := E.w) (blk := (E.m r').blk) (cap := (E.m r').cap) ?_ ⟨c, by rw [h0]; rfl, by omega, hcc⟩ (same0 h0 _ _ _ rfl hnc)
      refine hS.grown hW hWt hWk hWb (by omega) hH1 hH2 hH3 (arr := arr) (.inr ⟨hal, rfl⟩) (fun _ _ _ => rfl) (Nat.le_refl _) rfl rfl rfl (fun arr0 t fz hb => by rw [k4] at hb; cases hb; exact ⟨hWt.symm, rfl⟩) k4 (by rw [hWk]; exact hlen) (by rw [hWn]; omega) k5 ?_
      exact mkc (news := []) k7 (fun j v hv => by simp at hv) (fun i hi => by omega)
    · obtain ⟨a, rfl, hsl, hsc⟩ := hsrc h0
      obtain ⟨news, n1, n2', n3, n4⟩ := flat_vals (E := E) (f := fun j => E.w.cell? (a.add j)) (T := cnd p2 noTab (tab E.H)) (kk := W.k) (els := e2.at') n2 hsl hsc
      by_cases hroom : W.n + n2 ≤ c
      · have hfit : W.n * W.k + news.length ≤ arr.size := by
          rw [n1, k5, ← Nat.add_mul]; exact Nat.mul_le_mul_right _ (by omega)
        have hrun := run_append_room (P := P) E.w t ty e it hu hit (E.m r').blk W.n c arr (ht ▸ k4) a n2 c2 news (by rw [n1, hks]) n2' n3 hroom (by rw [← hks]; exact hfit)
        rw [← hks] at hrun
        refine fin (blk := (E.m r').blk) (cap := (E.m r').cap) ?_ ⟨c, rfl, hroom, hcc⟩ hrun
        refine hS.grown hW hWt hWk hWb (by omega) hH1 hH2 hH3 (arr := (arr.toList.take (W.n * W.k) ++ news ++ arr.toList.drop (W.n * W.k + news.length)).toArray) (.inr ⟨hal, rfl⟩) (fun b hb _ => setRow_other _ _ _ _ hb) ?_ rfl rfl rfl (fun arr0 t fz hb => by
          rw [k4] at hb
          cases hb
          refine ⟨hWt.symm, ?_⟩
          simp only [List.size_toArray, List.length_append, List.length_take, List.length_drop, Array.length_toList]
          omega) (setRow_heap _ _ arr _ _ _ k4) (by rw [hWk]; exact hlen) (by rw [hWn]; omega) ?_ ?_
        · show E.w.heap.size ≤ (E.w.setRow (E.m r').blk _).heap.size
          simp [World.setRow]
        · rw [hWk, ← k5]
          simp only [List.size_toArray, List.length_append, List.length_take, List.length_drop, Array.length_toList]
          omega
        · have htl : (arr.toList.take (W.n * W.k)).length = W.n * W.k := by rw [List.length_take, Array.length_toList]; omega
          refine mkc (news := news) (fun i hi j x hx => ?_) (fun j v hv => ?_) n4
          · obtain ⟨v, b1, b2, b3⟩ := k7 i hi j x hx
            refine ⟨v, ?_, b2, b3⟩
            have hj : j < W.k := by have := (List.getElem?_eq_some_iff.1 hx).1; rwa [hk0.len i hi] at this
            have hlt : i * W.k + j < W.n * W.k := by
              have := Nat.mul_le_mul_right W.k (show i + 1 ≤ W.n by omega)
              rw [Nat.succ_mul] at this; omega
            rw [List.getElem?_toArray, List.append_assoc, List.getElem?_append_left (by rw [htl]; exact hlt), List.getElem?_take, if_pos hlt, Array.getElem?_toList]
            exact b1
          · have hj : j < news.length := (List.getElem?_eq_some_iff.1 hv).1
            rw [List.getElem?_toArray, List.append_assoc, List.getElem?_append_right (by rw [htl]; omega), htl, show W.n * W.k + j - W.n * W.k = j by omega, List.getElem?_append_left hj]
            exact hv
      · -- a new row
        have hol : ∀ (j : Nat) (v : Value), (arr.toList.take (W.n * W.k))[j]? = some v → E.w.cell? ((⟨(E.m r').blk, 0, none⟩ : Addr).add j) = some v := fun j v hv => by
          rw [List.getElem?_take] at hv
          split at hv
          · rw [Array.getElem?_toList] at hv
            rw [addr_add, Nat.zero_add]
            simp [World.cell?, k4, hv]
          · cases hv
        have htl : (arr.toList.take (W.n * W.k)).length = W.n * W.k := by
          have := Nat.mul_le_mul_right W.k k3
          rw [List.length_take, Array.length_toList]; omega
        have hrun := run_append_grow (P := P) E.w t ty e it ye.zero hu hit hz ⟨(E.m r').blk, 0, none⟩ W.n c (arr.toList.take (W.n * W.k)) (by rw [htl, hks]) hol a n2 c2 news (by rw [n1, hks]) n2' (by omega) (by omega) (growslice_fits (by omega) (by rw [hiby]; exact hbytes))
        exact newb hrun htl (fun i hi j x hx => by
          obtain ⟨v, b1, b2, b3⟩ := k7 i hi j x hx
          refine ⟨v, ?_, b2, b3⟩
          have hj : j < W.k := by have := (List.getElem?_eq_some_iff.1 hx).1; rwa [hk0.len i hi] at this
          have hlt : i * W.k + j < W.n * W.k := by
            have := Nat.mul_le_mul_right W.k (show i + 1 ≤ W.n by omega)
            rw [Nat.succ_mul] at this; omega
          rw [List.getElem?_take, if_pos hlt, Array.getElem?_toList]
          exact b1) n1 n4
  | false =>
    rw [if_neg (by rw [hal]; simp)] at hs
    obtain ⟨rfl, hn0⟩ := hs
    have hmn : W.mn = true := by
      cases hq : W.mn with
      | true => rfl
      | false => have := hk0.al (.inr hq); rw [hal] at this; cases this
    rcases Nat.eq_zero_or_pos n2 with h0 | h0
    · obtain ⟨s1, s2⟩ := hS.reghost hW hal (by rw [hWn]; omega) (by exact hmn) hWb (show W.k ≠ 0 by omega) hH1 hH2 hH3
      refine ⟨_, _, _, some (fun q => !(Nat.beq q r')), s1, s2, ?_, hh, .inl (run_val (same0 h0 none 0 0 rfl (Nat.le_refl _)))⟩
      simp only [Env.V, VR]
      refine ⟨⟨W.k, htab⟩, ?_⟩
      rw [if_neg (by rw [hal]; simp)]
      first | exact ⟨rfl, by omega⟩ | exact ⟨trivial, by omega⟩
    · obtain ⟨a, rfl, hsl, hsc⟩ := hsrc h0
      obtain ⟨news, n1, n2', n3, n4⟩ := flat_vals (E := E) (f := fun j => E.w.cell? (a.add j)) (T := cnd p2 noTab (tab E.H)) (kk := W.k) (els := e2.at') n2 hsl hsc
      have hb' : n2 * it.bytes ≤ 140737488355328 := by rw [hiby]; rw [hn0, Nat.zero_add] at hbytes; exact hbytes
      have hrun := run_append_nil (P := P) E.w t ty e it ye.zero hu hit hz a n2 c2 news (by rw [n1, hks]) n2' h0 (by omega) (by omega)
      exact newb (olds := []) (oc := 0) (by rw [hn0, Nat.zero_add]; simpa using hrun) (by simp [hn0]) (fun i hi => by omega) n1 n4
end
end Go.Proofs.YthmhobnhladhbaaDoor.AM
