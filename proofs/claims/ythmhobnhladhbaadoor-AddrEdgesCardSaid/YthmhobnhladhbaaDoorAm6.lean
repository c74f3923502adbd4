/- The abstract machine, part 6: the state; new blocks; stores. -/
import Derived.Test.YthmhobnhladhbaaDoorAm5
namespace Go.Proofs.YthmhobnhladhbaaDoor.AM
open Go Go.RowKit
set_option linter.unusedSimpArgs false
set_option linter.unusedVariables false

/-- What is known of the world besides the values at hand; it hangs on blocks below n alone. -/
structure Glob where
  G : World → Prop
  n : Nat
  stab : ∀ w w', Below n w w' → G w → G w'
  gs : List Value := []

/-- The blocks of B are as they were; no block of cells has another length. -/
structure Kept (B : Nat → Prop) (w w' : World) : Prop where
  os : w'.os = w.os
  tape : w'.tape = w.tape
  output : w'.output = w.output
  size : w.heap.size ≤ w'.heap.size
  block : ∀ k, B k → w'.heap[k]? = w.heap[k]?
  szs : ∀ (k : Nat) (arr : Array Value) (t : TypeId) (fz : Nat × Nat), w.heap[k]? = some (.cells arr t fz) → ∃ (arr' : Array Value) (fz' : Nat × Nat), w'.heap[k]? = some (.cells arr' t fz') ∧ arr'.size = arr.size
theorem Kept.refl (B : Nat → Prop) (w : World) : Kept B w w := ⟨rfl, rfl, rfl, Nat.le_refl _, fun _ _ => rfl, fun _ _ _ _ h => ⟨_, _, h, rfl⟩⟩
theorem Kept.trans {B : Nat → Prop} {a b c : World} (h : Kept B a b) (k : Kept B b c) : Kept B a c :=
  ⟨k.os.trans h.os, k.tape.trans h.tape, k.output.trans h.output, Nat.le_trans h.size k.size, fun i hi => (k.block i hi).trans (h.block i hi), fun i arr t fz hi => by
    obtain ⟨a1, f1, h1, e1⟩ := h.szs i arr t fz hi
    obtain ⟨a2, f2, h2, e2⟩ := k.szs i a1 t f1 h1
    exact ⟨a2, f2, h2, e2.trans e1⟩⟩
theorem Kept.of_below {B : Nat → Prop} {w w' : World} (h : Below w.heap.size w w') (hB : ∀ k, B k → k < w.heap.size) : Kept B w w' :=
  ⟨h.os, h.tape, h.output, h.size, fun k hk => h.block k (hB k hk), fun k arr t fz hk => ⟨arr, fz, by rw [h.block k (Array.getElem?_eq_some_iff.1 hk).1]; exact hk, rfl⟩⟩
theorem Kept.below {B : Nat → Prop} {n : Nat} {w w' : World} (h : Kept B w w') (hn : ∀ k, k < n → B k) : Below n w w' := ⟨h.os, h.tape, h.output, h.size, fun k hk => h.block k (hn k hk)⟩
theorem Kept.weaken {B B' : Nat → Prop} {w w' : World} (h : Kept B w w') (hn : ∀ k, B' k → B k) : Kept B' w w' := ⟨h.os, h.tape, h.output, h.size, fun k hk => h.block k (hn k hk), h.szs⟩

structure St (g : Glob) (B : Nat → Prop) (w0 : World) (I0 : Nat → Prop) (E : Env) : Prop where
  below : Kept B w0 E.w
  hB : ∀ k, B k → k < w0.heap.size
  hn : ∀ k, k < g.n → B k
  gn : g.n ≤ w0.heap.size
  glob : g.G E.w
  isz : ∀ b, E.I b → b < E.w.heap.size
  imono : ∀ b, I0 b → E.I b
  ifresh : ∀ b, E.I b → I0 b ∨ ¬ B b
  rows : Rows B E
  inj : ∀ r r' W W', E.H[r]? = some (some W) → E.H[r']? = some (some W') → (E.m r).al = true → (E.m r').al = true → (E.m r).blk = (E.m r').blk → r = r'
  gse : ∀ r W, E.H[r]? = some (some W) → W.k = 0 → W.pf = false → (E.m r).gv = g.gs

structure Ext (D : Nat → Bool) (E E' : Env) : Prop where
  i : ∀ b, E.I b → E'.I b ∧ E'.w.heap[b]? = E.w.heap[b]?
  t : ∀ r p, tab E.H r = some p → D r = true → tab E'.H r = some p ∧ E'.m r = E.m r

def allD : Nat → Bool := fun _ => true
theorem Ext.V {D : Nat → Bool} {E E' : Env} (h : Ext D E E') {x : AV} {v : Value} (hd : rf D x = true) (hv : E.V x v) : E'.V x v := VR.mono D h.i x _ _ v h.t (.inr hd) hv
theorem Ext.L {D : Nat → Bool} {E E' : Env} (h : Ext D E E') {x : List AV} {v : List Value} (hd : rfs D x = true) (hv : E.L x v) : E'.L x v := LR.mono D h.i x _ _ v h.t (.inr hd) hv
mutual
theorem rf_all : ∀ x : AV, rf allD x = true
  | .agg l => by simp only [rf]; exact rfs_all l
  | .tup l => by simp only [rf]; exact rfs_all l
  | .fn _ l => by simp only [rf]; exact rfs_all l
  | .ifc _ x => by simp only [rf]; exact rf_all x
  | .sl _ _ => by simp [rf, allD]
  | .ptr _ _ _ => by simp [rf, allD]
  | .b _ => by simp [rf]
  | .snap _ _ _ => by simp [rf]
  | .sptr _ => by simp [rf]
  | .sp _ _ => by simp [rf, allD]
  | .top => by simp [rf]
theorem rfs_all : ∀ l : List AV, rfs allD l = true
  | [] => by simp [rfs]
  | x :: xs => by simp only [rfs, rf_all x, rfs_all xs]; rfl
end
theorem Ext.refl (D : Nat → Bool) (E : Env) : Ext D E E := ⟨fun _ h => ⟨h, rfl⟩, fun _ _ h _ => ⟨h, rfl⟩⟩
theorem Ext.trans {D : Nat → Bool} {E E' E'' : Env} (h : Ext D E E') (k : Ext D E' E'') : Ext D E E'' :=
  ⟨fun b hb => ⟨(k.i b (h.i b hb).1).1, (k.i b (h.i b hb).1).2.trans (h.i b hb).2⟩, fun r p hp hd => ⟨(k.t r p (h.t r p hp hd).1 hd).1, (k.t r p (h.t r p hp hd).1 hd).2.trans (h.t r p hp hd).2⟩⟩
theorem Ext.weaken {D D' : Nat → Bool} {E E' : Env} (h : Ext D E E') (hd : ∀ r, D' r = true → D r = true) : Ext D' E E' := ⟨h.i, fun r p hp hd' => h.t r p hp (hd r hd')⟩

theorem VR_ext {D : Nat → Bool} {E E' : Env} (h : Ext D E E') {W : Row} {x : AV} {v : Value} (hd : W.pf = true ∨ rf D x = true) (hv : VR E.w E.I E.m (rowT W (tab E.H)) x v) : VR E'.w E'.I E'.m (rowT W (tab E'.H)) x v := by
  unfold rowT at *
  split
  · rename_i hp
    rw [if_pos hp] at hv
    exact VR.mono D h.i x _ _ v (fun r p hp => by simp [noTab] at hp) (.inl rfl) hv
  · rename_i hp
    rw [if_neg hp] at hv
    exact VR.mono D h.i x _ _ v h.t (.inr (hd.resolve_left hp)) hv

/-- A row that nothing touched. -/
theorem RowOk.ext {D : Nat → Bool} {B : Nat → Prop} {E E' : Env} {r : Nat} {W : Row} (h : RowOk B E r W) (he : Ext D E E') (hm : E'.m r = E.m r) (hh : E'.w.heap[(E.m r).blk]? = E.w.heap[(E.m r).blk]?) (hI : ¬ E.I (E.m r).blk → (E.m r).blk < E.w.heap.size → ¬ E'.I (E.m r).blk)
    (hd : W.pf = true ∨ ∀ i, i < W.n → ∀ (j : Nat) (x : AV), (W.els i)[j]? = some x → rf D x = true) (hg : ∀ l, W.pf = false → W.ex = .box l → rfs D l = true) : RowOk B E' r W := by
  refine ⟨fun h1 => by rw [hm]; exact h.al h1, h.len, h.bx, fun l h0 hp hl => by rw [hm]; exact he.L (hg l hp hl) (h.gh l h0 hp hl), fun ha => ?_⟩
  rw [hm] at ha ⊢
  obtain ⟨h1, h2, h3, arr, fz, h4, h5, h6, h6', h7⟩ := h.mem ha
  refine ⟨h1, hI h2 (Array.getElem?_eq_some_iff.1 h4).1, h3, arr, fz, by rw [hh]; exact h4, h5, h6, h6', fun i hi j x hx => ?_⟩
  obtain ⟨v, hv, hx', h1⟩ := h7 i hi j x hx
  exact ⟨v, hv, VR_ext he (hd.imp_right fun h => h i hi j x hx) hx', h1⟩

theorem tab_append (H : AHeap) (o : Option Row) {r : Nat} {p : Nat × Nat} (h : tab H r = some p) : tab (H ++ [o]) r = some p := by
  unfold tab at *
  have hr : r < H.length := by
    rcases Nat.lt_or_ge r H.length with h' | h'
    · exact h'
    · rw [List.getElem?_eq_none h'] at h; cases h
  rw [List.getElem?_append_left hr]; exact h

theorem tab_lt {H : AHeap} {r : Nat} {p : Nat × Nat} (h : tab H r = some p) : r < H.length := by
  rcases Nat.lt_or_ge r H.length with h' | h'
  · exact h'
  · unfold tab at h; rw [List.getElem?_eq_none h'] at h; cases h

def upd (m : Nat → Info) (r : Nat) (x : Info) : Nat → Info := fun q => if q = r then x else m q
theorem upd_same (m : Nat → Info) (r : Nat) (x : Info) : upd m r x r = x := by simp [upd]
theorem upd_ne (m : Nat → Info) {r q : Nat} (x : Info) (h : q ≠ r) : upd m r x q = m q := by simp [upd, h]

section
variable {g : Glob} {B : Nat → Prop} {w0 : World} {I0 : Nat → Prop} {E : Env}

theorem St.lt (h : St g B w0 I0 E) {r : Nat} {W : Row} (hW : E.H[r]? = some (some W)) (ha : (E.m r).al = true) : (E.m r).blk < E.w.heap.size := by
  obtain ⟨_, _, _, arr, fz, hh, _⟩ := (h.rows r W hW).mem ha
  exact (Array.getElem?_eq_some_iff.1 hh).1

theorem St.base (h : St g B w0 I0 E) : ∀ k, B k → k < E.w.heap.size := fun k hk => Nat.lt_of_lt_of_le (h.hB k hk) h.below.size
theorem St.gbase (h : St g B w0 I0 E) : g.n ≤ E.w.heap.size := Nat.le_trans h.gn h.below.size

/-- The world grows; live rows stay; more may be known as fixed (new blocks alone). -/
theorem St.grow (h : St g B w0 I0 E) {w' : World} {I' : Nat → Prop} (hw : Below E.w.heap.size E.w w') (hi : ∀ b, E.I b → I' b) (hi2 : ∀ b, I' b → E.I b ∨ E.w.heap.size ≤ b) (hi3 : ∀ b, I' b → b < w'.heap.size) :
    St g B w0 I0 { E with w := w', I := I' } ∧ Ext allD E { E with w := w', I := I' } := by
  have hx : Ext allD E { E with w := w', I := I' } := ⟨fun b hb => ⟨hi b hb, hw.block b (h.isz b hb)⟩, fun r p hp _ => ⟨hp, rfl⟩⟩
  refine ⟨⟨h.below.trans (.of_below hw h.base), h.hB, h.hn, h.gn, g.stab _ _ (hw.mono h.gbase) h.glob, hi3, fun b hb => hi b (h.imono b hb), fun b hb => ?_, fun r W hW => ?_, h.inj, h.gse⟩, hx⟩
  · rcases hi2 b hb with h' | h'
    · exact h.ifresh b h'
    · exact .inr (fun hb' => by have := h.base _ hb'; omega)
  · by_cases ha : (E.m r).al = true
    · exact (h.rows r W hW).ext hx rfl (hw.block _ (h.lt hW ha)) (fun h1 h2 h3 => (hi2 _ h3).elim h1 (fun h4 => absurd h2 (by omega))) (.inr fun _ _ _ _ _ => rf_all _) (fun _ _ _ => rfs_all _)
    · exact ⟨fun h1 => absurd ((h.rows r W hW).al h1) ha, (h.rows r W hW).len, (h.rows r W hW).bx, fun l h0 hp hl => hx.L (rfs_all l) ((h.rows r W hW).gh l h0 hp hl), fun h1 => absurd h1 ha⟩

/-- A new block that is a live row. -/
theorem St.newRow (h : St g B w0 I0 E) {W : Row} {arr : Array Value} {fz : Nat × Nat} {cap : Nat} (hlen : ∀ i, i < W.n → (W.els i).length = W.k) (hbx : W.box = true → W.n = 1) (hk0 : W.k ≠ 0) (hn : W.n ≤ cap) (hsz : arr.size = cap * W.k) (hfz : arr.size ≤ fz.1 ∨ fz.2 ≤ fz.1) (hcv : W.cv = false → fz = (0, 0))
    (hc : ∀ i, i < W.n → ∀ (j : Nat) (x : AV), (W.els i)[j]? = some x → ∃ v, arr[i * W.k + j]? = some v ∧ VR E.w E.I E.m (rowT W (tab E.H)) x v ∧ v.oneCell' = true) {w' : World} (hw : w'.heap = E.w.heap.push (.cells arr W.t fz)) (hos : w'.os = E.w.os) (htp : w'.tape = E.w.tape) (hout : w'.output = E.w.output) :
    let E' : Env := { w := w', I := E.I, m := upd E.m E.H.length ⟨E.w.heap.size, cap, true, []⟩, H := E.H ++ [some W] }
    St g B w0 I0 E' ∧ Ext allD E E' := by
  intro E'
  have hbl : Below E.w.heap.size E.w w' := ⟨hos, htp, hout, by rw [hw]; simp, fun k hk => by rw [hw, Array.getElem?_push, if_neg (by omega)]⟩
  have hx : Ext allD E E' := ⟨fun b hb => ⟨hb, hbl.block b (h.isz b hb)⟩, fun r p hp _ => ⟨tab_append _ _ hp, upd_ne _ _ (by have := tab_lt hp; omega)⟩⟩
  have hnew : w'.heap[E.w.heap.size]? = some (.cells arr W.t fz) := by rw [hw]; simp
  refine ⟨⟨h.below.trans (.of_below hbl h.base), h.hB, h.hn, h.gn, g.stab _ _ (hbl.mono h.gbase) h.glob, fun b hb => Nat.lt_of_lt_of_le (h.isz b hb) hbl.size, h.imono, h.ifresh, fun r V hV => ?_, ?_, fun r V hV hk hp => ?_⟩, hx⟩
  rotate_left
  rotate_left
  · by_cases hr : r = E.H.length
    · subst hr
      have : (E.H ++ [some W])[E.H.length]? = some (some V) := hV
      rw [List.getElem?_append_right (Nat.le_refl _)] at this
      have hV' : V = W := by simpa using this.symm
      exact absurd (hV' ▸ hk) hk0
    · have hlt : r < E.H.length := by
        have := (List.getElem?_eq_some_iff.1 hV).1
        simp [E'] at this; omega
      have hV' : E.H[r]? = some (some V) := by rw [← List.getElem?_append_left (l₂ := [some W]) hlt]; exact hV
      have hm : E'.m r = E.m r := upd_ne _ _ hr
      rw [hm]; exact h.gse r V hV' hk hp
  · rcases Nat.lt_or_ge r E.H.length with hr | hr
    · have hV' : E.H[r]? = some (some V) := by rw [← List.getElem?_append_left (l₂ := [some W]) hr]; exact hV
      have hm : E'.m r = E.m r := upd_ne _ _ (by omega)
      by_cases ha : (E.m r).al = true
      · exact (h.rows r V hV').ext hx hm (hbl.block _ (h.lt hV' ha)) (fun h1 _ => h1) (.inr fun _ _ _ _ _ => rf_all _) (fun _ _ _ => rfs_all _)
      · exact ⟨fun h1 => absurd ((h.rows r V hV').al h1) ha, (h.rows r V hV').len, (h.rows r V hV').bx, fun l h0 hp hl => by rw [hm]; exact hx.L (rfs_all l) ((h.rows r V hV').gh l h0 hp hl), fun h1 => absurd (hm ▸ h1) ha⟩
    · have hr' : r = E.H.length := by
        have := (List.getElem?_eq_some_iff.1 hV).1
        simp [E'] at this; omega
      subst hr'
      have hV' : V = W := by
        have : (E.H ++ [some W])[E.H.length]? = some (some V) := hV
        rw [List.getElem?_append_right (Nat.le_refl _)] at this
        simpa using this.symm
      subst hV'
      have hm : E'.m E.H.length = ⟨E.w.heap.size, cap, true, []⟩ := upd_same _ _ _
      refine ⟨fun _ => by rw [hm], hlen, hbx, fun l h0 => absurd h0 hk0, fun _ => ?_⟩
      rw [hm]
      refine ⟨fun hb => absurd (h.base _ hb) (Nat.lt_irrefl _), fun hI => absurd (h.isz _ hI) (Nat.lt_irrefl _), hn, arr, fz, hnew, hsz, hfz, hcv, fun i hi j x hx' => ?_⟩
      obtain ⟨v, hv, hxv, h1⟩ := hc i hi j x hx'
      exact ⟨v, hv, VR_ext hx (.inr (rf_all _)) hxv, h1⟩
  · intro r r' V V' hV hV' ha ha' hb
    have key : ∀ q Q, E'.H[q]? = some (some Q) → (E'.m q).al = true → q ≠ E.H.length → E.H[q]? = some (some Q) ∧ (E.m q).al = true ∧ (E'.m q).blk = (E.m q).blk := fun q Q hQ ha hq => by
      have hlt : q < E.H.length := by
        have := (List.getElem?_eq_some_iff.1 hQ).1
        simp [E'] at this; omega
      have hm : E'.m q = E.m q := upd_ne _ _ hq
      exact ⟨by rw [← List.getElem?_append_left (l₂ := [some W]) hlt]; exact hQ, hm ▸ ha, by rw [hm]⟩
    by_cases h1 : r = E.H.length <;> by_cases h2 : r' = E.H.length
    · rw [h1, h2]
    · obtain ⟨k1, k2, k3⟩ := key r' V' hV' ha' h2
      have := h.lt k1 k2
      rw [k3, h1, show (E'.m E.H.length) = ⟨E.w.heap.size, cap, true, []⟩ from upd_same _ _ _] at hb
      simp only at hb; omega
    · obtain ⟨k1, k2, k3⟩ := key r V hV ha h1
      have := h.lt k1 k2
      rw [k3, h2, show (E'.m E.H.length) = ⟨E.w.heap.size, cap, true, []⟩ from upd_same _ _ _] at hb
      simp only at hb; omega
    · obtain ⟨k1, k2, k3⟩ := key r V hV ha h1
      obtain ⟨l1, l2, l3⟩ := key r' V' hV' ha' h2
      exact h.inj r r' V V' k1 l1 k2 l2 (by rw [← k3, ← l3]; exact hb)

/-- A row that is not there yet (nil). -/
theorem St.ghost (h : St g B w0 I0 E) {W : Row} (gv : List Value) (hn : W.n = 0) (hm : W.mn = true) (hb : W.box = false) (hgv : ∀ l, W.k = 0 → W.pf = false → W.ex = .box l → E.L l gv) (hgs : W.k = 0 → W.pf = false → gv = g.gs) :
    let E' : Env := { E with m := upd E.m E.H.length ⟨0, 0, false, gv⟩, H := E.H ++ [some W] }
    St g B w0 I0 E' ∧ Ext allD E E' := by
  intro E'
  have hx : Ext allD E E' := ⟨fun b hb => ⟨hb, rfl⟩, fun r p hp _ => ⟨tab_append _ _ hp, upd_ne _ _ (by have := tab_lt hp; omega)⟩⟩
  have key : ∀ q Q, E'.H[q]? = some (some Q) → q ≠ E.H.length → E.H[q]? = some (some Q) ∧ E'.m q = E.m q := fun q Q hQ hq => by
    have hlt : q < E.H.length := by
      have := (List.getElem?_eq_some_iff.1 hQ).1
      simp [E'] at this; omega
    exact ⟨by rw [← List.getElem?_append_left (l₂ := [some W]) hlt]; exact hQ, upd_ne _ _ hq⟩
  have hself : E'.m E.H.length = ⟨0, 0, false, gv⟩ := upd_same _ _ _
  refine ⟨⟨h.below, h.hB, h.hn, h.gn, h.glob, h.isz, h.imono, h.ifresh, fun r V hV => ?_, fun r r' V V' hV hV' ha ha' hb => ?_, fun r V hV hk hp => ?_⟩, hx⟩
  rotate_left
  rotate_left
  · by_cases hr : r = E.H.length
    · subst hr
      have : (E.H ++ [some W])[E.H.length]? = some (some V) := hV
      rw [List.getElem?_append_right (Nat.le_refl _)] at this
      have hV' : V = W := by simpa using this.symm
      rw [hself]; exact hgs (hV' ▸ hk) (hV' ▸ hp)
    · obtain ⟨k1, k2⟩ := key r V hV hr
      rw [k2]; exact h.gse r V k1 hk hp
  · by_cases hr : r = E.H.length
    · subst hr
      have hV' : V = W := by
        have : (E.H ++ [some W])[E.H.length]? = some (some V) := hV
        rw [List.getElem?_append_right (Nat.le_refl _)] at this
        simpa using this.symm
      subst hV'
      refine ⟨fun h1 => ?_, fun i hi => by omega, fun h1 => (by rw [hb] at h1; cases h1), fun l h0 hp hl => by rw [hself]; exact hx.L (rfs_all l) (hgv l h0 hp hl), fun ha => by rw [hself] at ha; cases ha⟩
      rcases h1 with h1 | h1
      · omega
      · rw [hm] at h1; cases h1
    · obtain ⟨k1, k2⟩ := key r V hV hr
      exact (h.rows r V k1).ext hx k2 rfl (fun h1 _ => h1) (.inr fun _ _ _ _ _ => rf_all _) (fun _ _ _ => rfs_all _)
  · have n1 : r ≠ E.H.length := fun e => by rw [e, hself] at ha; cases ha
    have n2 : r' ≠ E.H.length := fun e => by rw [e, hself] at ha'; cases ha'
    obtain ⟨k1, k2⟩ := key r V hV n1
    obtain ⟨l1, l2⟩ := key r' V' hV' n2
    rw [k2] at ha hb; rw [l2] at ha' hb
    exact h.inj r r' V V' k1 l1 ha ha' hb
end
end Go.Proofs.YthmhobnhladhbaaDoor.AM
