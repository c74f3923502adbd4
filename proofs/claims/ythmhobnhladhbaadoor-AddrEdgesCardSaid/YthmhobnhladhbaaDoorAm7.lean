/- The abstract machine, part 7: forgetting references; stores into a live row. -/
import Derived.Test.YthmhobnhladhbaaDoorAm6
namespace Go.Proofs.YthmhobnhladhbaaDoor.AM
open Go Go.RowKit
set_option linter.unusedSimpArgs false
set_option linter.unusedVariables false

mutual
/-- A value that forgets the references that do not satisfy D. -/
def kd (D : Nat → Bool) : AV → AV
  | .agg l => .agg (kds D l)
  | .tup l => .tup (kds D l)
  | .fn f l => .fn f (kds D l)
  | .ifc t x => .ifc t (kd D x)
  | .sl r n => cnd (D r) (.sl r n) .top
  | .ptr r i j => cnd (D r) (.ptr r i j) .top
  | .b v => .b v
  | .snap τ n e => .snap τ n e
  | .sptr l => .sptr l
  | .sp r n => cnd (D r) (.sp r n) .top
  | .top => .top
def kds (D : Nat → Bool) : List AV → List AV
  | [] => []
  | x :: xs => kd D x :: kds D xs
end

section
variable {D : Nat → Bool}
mutual
theorem rf_kd : ∀ x : AV, rf D (kd D x) = true
  | .agg l => by simp only [kd, rf]; exact rfs_kds l
  | .tup l => by simp only [kd, rf]; exact rfs_kds l
  | .fn _ l => by simp only [kd, rf]; exact rfs_kds l
  | .ifc _ x => by simp only [kd, rf]; exact rf_kd x
  | .sl r _ => by simp only [kd]; cases h : D r <;> simp [rf, h]
  | .ptr r _ _ => by simp only [kd]; cases h : D r <;> simp [rf, h]
  | .b _ => by simp [kd, rf]
  | .snap _ _ _ => by simp [kd, rf]
  | .sptr _ => by simp [kd, rf]
  | .sp r _ => by simp only [kd]; cases h : D r <;> simp [rf, h]
  | .top => by simp [kd, rf]
theorem rfs_kds : ∀ l : List AV, rfs D (kds D l) = true
  | [] => by simp [kds, rfs]
  | x :: xs => by simp only [kds, rfs, rf_kd x, rfs_kds xs]; rfl
end
theorem kds_get : ∀ (l : List AV) (j : Nat), (kds D l)[j]? = (l[j]?).map (kd D)
  | [], j => by simp [kds]
  | x :: xs, 0 => by simp [kds]
  | x :: xs, j + 1 => by simp [kds, kds_get xs j]
theorem kds_len : ∀ l : List AV, (kds D l).length = l.length
  | [] => by simp [kds]
  | x :: xs => by simp [kds, kds_len xs]
variable {w : World} {I : Nat → Prop} {m : Nat → Info}
mutual
theorem VR_kd : ∀ (x : AV) (T : Tab) (v : Value), VR w I m T x v → VR w I m T (kd D x) v
  | .agg l, T, v, h => by simp only [kd, VR] at h ⊢; obtain ⟨a, rfl, h⟩ := h; exact ⟨a, rfl, LR_kds l T _ h⟩
  | .tup l, T, v, h => by simp only [kd, VR] at h ⊢; obtain ⟨a, rfl, h⟩ := h; exact ⟨a, rfl, LR_kds l T _ h⟩
  | .fn f l, T, v, h => by simp only [kd, VR] at h ⊢; obtain ⟨a, rfl, h⟩ := h; exact ⟨a, rfl, LR_kds l T _ h⟩
  | .ifc t x, T, v, h => by simp only [kd, VR] at h ⊢; obtain ⟨a, rfl, h⟩ := h; exact ⟨a, rfl, VR_kd x T _ h⟩
  | .sl r n, T, v, h => by
    simp only [kd]
    cases D r
    · simp [VR]
    · exact h
  | .ptr r i j, T, v, h => by
    simp only [kd]
    cases D r
    · simp [VR]
    · exact h
  | .b _, T, v, h => h
  | .snap _ _ _, T, v, h => by simpa only [kd] using h
  | .sptr _, T, v, h => by simpa only [kd] using h
  | .sp r n, T, v, h => by
    simp only [kd]
    cases D r
    · simp [VR]
    · exact h
  | .top, T, v, h => h
theorem LR_kds : ∀ (l : List AV) (T : Tab) (vs : List Value), LR w I m T l vs → LR w I m T (kds D l) vs
  | [], _, vs, h => by simpa only [kds] using h
  | x :: xs, _, [], h => by simp [LR] at h
  | x :: xs, T, v :: vs, h => by simp only [kds, LR] at h ⊢; exact ⟨VR_kd x T v h.1, LR_kds xs T vs h.2⟩
end
end

def kdEx (D : Nat → Bool) : Els → Els
  | .box l => .box (kds D l)
  | e => .raw fun i => kds D (e.at' i)
def kdRow (D : Nat → Bool) (W : Row) : Row := { W with ex := cnd W.pf W.ex (kdEx D W.ex) }
theorem kdRow_els (D : Nat → Bool) (W : Row) : (kdRow D W).els = cnd W.pf W.els (fun i => kds D (W.els i)) := by
  unfold kdRow Row.els
  cases W.pf with
  | true => rfl
  | false =>
    simp only [cnd_false]
    unfold kdEx
    split
    · rename_i l he; rw [he]; rfl
    · rfl
def kdHeap (D : Nat → Bool) (H : AHeap) : AHeap := H.map (Option.map (kdRow D))

theorem kdHeap_get (D : Nat → Bool) (H : AHeap) (r : Nat) : (kdHeap D H)[r]? = (H[r]?).map (Option.map (kdRow D)) := by simp [kdHeap]

section
variable {g : Glob} {B : Nat → Prop} {w0 : World} {I0 : Nat → Prop} {E : Env} {D : Nat → Bool}

theorem kdRow_pf (W : Row) : (kdRow D W).pf = W.pf := rfl
theorem rowT_kd (W : Row) (T : Tab) : rowT (kdRow D W) T = rowT W T := rfl

theorem kdRow_box {W : Row} {l : List AV} (hp : W.pf = false) (h : (kdRow D W).ex = .box l) : ∃ l0, W.ex = .box l0 ∧ l = kds D l0 := by
  unfold kdRow at h
  simp only [hp, cnd_false] at h
  unfold kdEx at h
  split at h
  · rename_i l0 he
    cases h
    exact ⟨l0, he, rfl⟩
  · cases h
/-- Some rows are forgotten, and all references to them. -/
theorem St.cut (h : St g B w0 I0 E) {H' : AHeap} (h1 : ∀ r W', H'[r]? = some (some W') → D r = true ∧ ∃ W, E.H[r]? = some (some W) ∧ W' = kdRow D W) (h2 : ∀ r W, E.H[r]? = some (some W) → D r = true → H'[r]? = some (some (kdRow D W))) :
    St g B w0 I0 { E with H := H' } ∧ Ext D E { E with H := H' } := by
  have hx : Ext D E { E with H := H' } := ⟨fun b hb => ⟨hb, rfl⟩, fun r p hp hd => by
    refine ⟨?_, rfl⟩
    unfold tab at hp ⊢
    split at hp
    · rename_i W hW
      simp only
      rw [h2 r W hW hd]
      cases hp; rfl
    · cases hp⟩
  refine ⟨⟨h.below, h.hB, h.hn, h.gn, h.glob, h.isz, h.imono, h.ifresh, fun r W' hW' => ?_, fun r r' V V' hV hV' => ?_, fun r W' hW' hk hp => by obtain ⟨_, W, hW, rfl⟩ := h1 r W' hW'; exact h.gse r W hW hk hp⟩, hx⟩
  · obtain ⟨hd, W, hW, rfl⟩ := h1 r W' hW'
    have hk := h.rows r W hW
    refine ⟨hk.al, fun i hi => ?_, hk.bx, fun l h0 hp hl => ?_, fun ha => ?_⟩
    rotate_left
    · obtain ⟨l0, hl0, rfl⟩ := kdRow_box (W := W) hp hl
      exact hx.L (rfs_kds l0) (LR_kds _ _ _ (hk.gh l0 h0 hp hl0))
    rotate_left
    · have := hk.len i hi
      rw [kdRow_els]
      show _ = W.k
      cases W.pf with
      | true => exact this
      | false => simpa [kds_len] using this
    · obtain ⟨k1, k2, k3, arr, fz, k4, k5, k6, k6', k7⟩ := hk.mem ha
      refine ⟨k1, k2, k3, arr, fz, k4, k5, k6, k6', fun i hi j x hx' => ?_⟩
      cases hp : W.pf with
      | true =>
        have hx'' : (W.els i)[j]? = some x := by simpa [kdRow_els, hp] using hx'
        obtain ⟨v, hv, hvr, h1⟩ := k7 i hi j x hx''
        exact ⟨v, hv, VR_ext hx (.inl hp) hvr, h1⟩
      | false =>
        have hx'' : (kds D (W.els i))[j]? = some x := by simpa [kdRow_els, hp] using hx'
        rw [kds_get] at hx''
        cases hy : (W.els i)[j]? with
        | none => rw [hy] at hx''; simp at hx''
        | some y =>
          rw [hy] at hx''
          simp at hx''
          obtain ⟨v, hv, hvr, h1⟩ := k7 i hi j y hy
          refine ⟨v, hv, ?_, h1⟩
          rw [← hx'']
          exact VR_ext hx (.inr (rf_kd y)) (VR_kd y _ v hvr)
  · obtain ⟨_, W, hW, _⟩ := h1 r V hV
    obtain ⟨_, W', hW', _⟩ := h1 r' V' hV'
    exact h.inj r r' W W' hW hW'

/-- Only the first h rows are kept. -/
theorem St.take (h : St g B w0 I0 E) (n : Nat) : St g B w0 I0 { E with H := (kdHeap (fun r => Nat.blt r n) E.H).take n } ∧ Ext (fun r => Nat.blt r n) E { E with H := (kdHeap (fun r => Nat.blt r n) E.H).take n } := by
  refine h.cut (fun r W' hW' => ?_) (fun r W hW hd => ?_)
  · rw [List.getElem?_take] at hW'
    split at hW'
    · rename_i hr
      rw [kdHeap_get] at hW'
      refine ⟨Nat.ble_eq_true_of_le hr, ?_⟩
      cases hq : E.H[r]? with
      | none => rw [hq] at hW'; cases hW'
      | some o => cases o with
        | none => rw [hq] at hW'; cases hW'
        | some W => rw [hq] at hW'; exact ⟨W, rfl, by simpa using hW'.symm⟩
    · cases hW'
  · have hr : r < n := Nat.le_of_ble_eq_true hd
    rw [List.getElem?_take, if_pos hr, kdHeap_get, hW]
    rfl

/-- A live row's memory and contents change. -/
theorem St.set (h : St g B w0 I0 E) {r : Nat} {W W' : Row} (hW : E.H[r]? = some (some W)) (hal : (E.m r).al = true) (ht : W'.t = W.t) (hk : W'.k = W.k) (hn : W'.n = W.n) (hmn : W'.mn = W.mn) (hcv : W'.cv = W.cv) (hbx : W'.box = W.box) (hkp : W.k ≠ 0)
    (hlen : ∀ i, i < W'.n → (W'.els i).length = W'.k) {arr arr' : Array Value} {fz : Nat × Nat} (ha : E.w.heap[(E.m r).blk]? = some (.cells arr W.t fz)) (hsz : arr'.size = arr.size)
    (hc : ∀ i, i < W'.n → ∀ (j : Nat) (x : AV), (W'.els i)[j]? = some x → ∃ v, arr'[i * W'.k + j]? = some v ∧ VR E.w E.I E.m (rowT W' (tab E.H)) x v ∧ v.oneCell' = true) {w' : World} (hw : w'.heap = E.w.heap.setIfInBounds (E.m r).blk (.cells arr' W.t fz)) (hos : w'.os = E.w.os) (htp : w'.tape = E.w.tape) (hout : w'.output = E.w.output) :
    St g B w0 I0 { E with w := w', H := E.H.set r (some W') } ∧ Ext allD E { E with w := w', H := E.H.set r (some W') } := by
  have hk0 := h.rows r W hW
  obtain ⟨k1, k2, k3, arr0, fz0, k4, k5, k6, k6', k7⟩ := hk0.mem hal
  rw [ha] at k4
  obtain ⟨rfl, rfl⟩ : arr = arr0 ∧ fz = fz0 := by cases k4; exact ⟨rfl, rfl⟩
  have hlt := h.lt hW hal
  have hrl : r < E.H.length := (List.getElem?_eq_some_iff.1 hW).1
  have hother : ∀ b, b ≠ (E.m r).blk → w'.heap[b]? = E.w.heap[b]? := fun b hb => by rw [hw, Array.getElem?_setIfInBounds, if_neg (by omega)]
  have hsize : w'.heap.size = E.w.heap.size := by rw [hw]; simp
  have hx : Ext allD E { E with w := w', H := E.H.set r (some W') } := ⟨fun b hb => ⟨hb, hother b (fun e => k2 (e ▸ hb))⟩, fun q p hp _ => by
    refine ⟨?_, rfl⟩
    unfold tab at hp ⊢
    by_cases hq : q = r
    · subst hq
      rw [hW] at hp
      simp only [List.getElem?_set, if_true, hrl, hk, hn]
      exact hp
    · simp only [List.getElem?_set, if_neg (Ne.symm hq)]
      exact hp⟩
  have hbl : Kept B w0 w' := h.below.trans ⟨hos, htp, hout, by omega, fun k hk' => hother k (fun e => k1 (e ▸ hk')), fun k arr0 t0 fz0 hk' => by
    by_cases hb : k = (E.m r).blk
    · subst hb
      rw [ha] at hk'
      cases hk'
      exact ⟨arr', _, by rw [hw, Array.getElem?_setIfInBounds, if_pos rfl, if_pos hlt], hsz⟩
    · exact ⟨arr0, fz0, by rw [hother k hb]; exact hk', rfl⟩⟩
  refine ⟨⟨hbl, h.hB, h.hn, h.gn, g.stab E.w w' ⟨hos, htp, hout, by rw [hsize]; exact Nat.le_refl _, fun k hk' => hother k (fun e => k1 (e ▸ h.hn k hk'))⟩ h.glob, fun b hb => by show b < w'.heap.size; rw [hsize]; exact h.isz b hb, h.imono, h.ifresh, fun q V hV => ?_, fun q q' V V' hV hV' a1 a2 hb => ?_, fun q V hV hkq hpq => ?_⟩, hx⟩
  rotate_left
  rotate_left
  · have hV0 : (E.H.set r (some W'))[q]? = some (some V) := hV
    rw [List.getElem?_set] at hV0
    split at hV0
    · (try rw [if_pos (by omega)] at hV0)
      have : W' = V := by simpa using hV0
      exact absurd (hk ▸ this ▸ hkq) hkp
    · exact h.gse q V hV0 hkq hpq
  · by_cases hq : q = r
    · subst hq
      have hV' : V = W' := by
        have : (E.H.set q (some W'))[q]? = some (some V) := hV
        rw [List.getElem?_set, if_pos rfl, if_pos hrl] at this
        simpa using this.symm
      subst hV'
      refine ⟨fun _ => hal, hlen, fun hb => by rw [hn]; exact hk0.bx (hbx ▸ hb), fun l h0 => absurd (hk ▸ h0) hkp, fun _ => ⟨k1, k2, by rw [hn]; exact k3, arr', fz, ?_, by rw [hsz, hk]; exact k5, by rw [hsz]; exact k6, fun h1 => k6' (by rw [← hcv]; exact h1), fun i hi j x hx' => ?_⟩⟩
      · rw [ht]; simp only; rw [hw, Array.getElem?_setIfInBounds, if_pos rfl, if_pos hlt]
      · obtain ⟨v, hv, hvr, h1⟩ := hc i hi j x hx'
        exact ⟨v, hv, VR_ext hx (.inr (rf_all _)) hvr, h1⟩
    · have hV' : E.H[q]? = some (some V) := by
        have : (E.H.set r (some W'))[q]? = some (some V) := hV
        rwa [List.getElem?_set, if_neg (Ne.symm hq)] at this
      by_cases hal' : (E.m q).al = true
      · exact (h.rows q V hV').ext hx rfl (hother _ (fun e => hq (h.inj q r V W hV' hW hal' hal e))) (fun h1 _ => h1) (.inr fun _ _ _ _ _ => rf_all _) (fun _ _ _ => rfs_all _)
      · exact ⟨fun h1 => absurd ((h.rows q V hV').al h1) hal', (h.rows q V hV').len, (h.rows q V hV').bx, fun l h0 hp hl => hx.L (rfs_all l) ((h.rows q V hV').gh l h0 hp hl), fun h1 => absurd h1 hal'⟩
  · have key : ∀ q V, (E.H.set r (some W'))[q]? = some (some V) → ∃ V', E.H[q]? = some (some V') := fun q V hV => by
      by_cases hq : q = r
      · exact ⟨W, hq ▸ hW⟩
      · rw [List.getElem?_set, if_neg (Ne.symm hq)] at hV; exact ⟨V, hV⟩
    obtain ⟨U, hU⟩ := key q V hV
    obtain ⟨U', hU'⟩ := key q' V' hV'
    exact h.inj q q' U U' hU hU' a1 a2 hb
end

/-- Cells are stored one behind the other. -/
theorem run_storeCells' {P : Program} {g o : Nat} {t : TypeId} {fz : Nat × Nat} : ∀ (vs : List Value) (i : Nat) (w : World) (arr : Array Value), w.heap[g]? = some (.cells arr t fz) → o + i + vs.length ≤ arr.size → (arr.size ≤ fz.1 ∨ fz.2 ≤ fz.1) → (∀ v, v ∈ vs → v.oneCell' = true) →
    ∃ arr' w', (storeCells ⟨g, o, none⟩ vs i).run P w = .ok () w' ∧ w'.heap = w.heap.setIfInBounds g (.cells arr' t fz) ∧ w'.os = w.os ∧ w'.tape = w.tape ∧ w'.output = w.output ∧ arr'.size = arr.size ∧ ∀ q : Nat, arr'[q]? = if o + i ≤ q ∧ q < o + i + vs.length then vs[q - (o + i)]? else arr[q]?
  | [], i, w, arr, hg, _, _, _ => by
    refine ⟨arr, w, rfl, ?_, rfl, rfl, rfl, rfl, fun q => ?_⟩
    · apply Array.ext_getElem?
      intro q
      rw [Array.getElem?_setIfInBounds]
      split
      · rename_i h; subst h; rw [hg, if_pos (Array.getElem?_eq_some_iff.1 hg).1]
      · rfl
    · rw [if_neg (by simp)]
  | v :: vs, i, w, arr, hg, hfit, hfz, h1 => by
    simp only [List.length_cons] at hfit
    have hlt : o + i < arr.size := by omega
    have hc : w.cell? ⟨g, o + i, none⟩ = some arr[o + i] := by simp [World.cell?, hg, hlt]
    have hf : w.frozen? ⟨g, o + i, none⟩ = false := by
      simp only [World.frozen?, hg]
      rw [Bool.and_eq_false_iff, decide_eq_false_iff_not, decide_eq_false_iff_not]
      omega
    have hs : (store (⟨g, o + i, none⟩ : Addr) v).run P w = .ok () (w.setCell ⟨g, o + i, none⟩ v) := by
      rw [run_store P w _ v _ (h1 v (by simp)), hc]
      simp [hf]
    have hgl : g < w.heap.size := (Array.getElem?_eq_some_iff.1 hg).1
    have hset : (w.setCell ⟨g, o + i, none⟩ v).heap = w.heap.setIfInBounds g (.cells (arr.setIfInBounds (o + i) v) t fz) := by
      apply Array.ext_getElem?
      intro q
      simp only [World.setCell, Array.getElem?_modify, Array.getElem?_setIfInBounds]
      by_cases h : g = q
      · subst h
        have hg2 : w.heap[g]'hgl = .cells arr t fz := (Array.getElem?_eq_some_iff.1 hg).2
        simp [hgl, hg2]
      · simp [h]
    have hg' : (w.setCell ⟨g, o + i, none⟩ v).heap[g]? = some (.cells (arr.setIfInBounds (o + i) v) t fz) := by rw [hset, Array.getElem?_setIfInBounds, if_pos rfl, if_pos hgl]
    obtain ⟨arr', w', hr, hh, a1, a2, a3, hsz, hq⟩ := run_storeCells' (P := P) (o := o) vs (i + 1) _ _ hg' (by simp; omega) (by simpa using hfz) (fun u hu => h1 u (by simp [hu]))
    refine ⟨arr', w', ?_, ?_, a1, a2, a3, by rw [hsz]; simp, fun q => ?_⟩
    · simp only [storeCells, Sem.run_bind, addr_add, hs, Result.andThen_ok]
      exact hr
    · rw [hh, hset]
      apply Array.ext_getElem?
      intro q
      simp only [Array.getElem?_setIfInBounds, Array.size_setIfInBounds]
      split <;> rfl
    · rw [hq q]
      simp only [List.length_cons]
      by_cases hq1 : q = o + i
      · subst hq1
        rw [if_neg (by omega), if_pos (by omega), Array.getElem?_setIfInBounds, if_pos rfl, if_pos hlt]
        simp
      · by_cases hq2 : o + (i + 1) ≤ q ∧ q < o + (i + 1) + vs.length
        · rw [if_pos hq2, if_pos (by omega)]
          rw [show q - (o + i) = (q - (o + (i + 1))) + 1 by omega]
          simp
        · rw [if_neg hq2, if_neg (by omega), Array.getElem?_setIfInBounds, if_neg (by omega)]
end Go.Proofs.YthmhobnhladhbaaDoor.AM
