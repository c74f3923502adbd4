/- The abstract machine, part 2: that the operations that change no memory answer as the evaluator says. -/
import Derived.Test.YthmhobnhladhbaaDoorAm1
namespace Go.Proofs.YthmhobnhladhbaaDoor.AM
open Go Go.RowKit

theorem castEl_cel {σ τ : CTy} (h : σ = τ) (x : El σ) : cel τ (castEl h x) = cel σ x := by subst h; rfl
theorem dec1_ok {τ : CTy} {x : AV} {y : El τ} (h : dec1 τ x = some y) : cel τ y = [x] := by
  unfold dec1 at h
  split at h
  · cases h; rfl
  · rename_i k k' n
    cases hd : decide (k' = k) with
    | false => rw [hd] at h; cases h
    | true => rw [hd] at h; cases h; rw [of_decide_eq_true hd]; rfl
  · rename_i k k' n
    cases hd : decide (k' = k) with
    | false => rw [hd] at h; cases h
    | true => rw [hd] at h; cases h; rw [of_decide_eq_true hd]; rfl
  · cases h; rfl
  · split at h
    · rename_i h'
      subst h'
      cases h; rfl
    · cases h
  · cases h
theorem decC_ok : ∀ {τ : CTy} {l : List AV} {y : El τ}, decC τ l = some y → l = cel τ y
  | .unit, [], y, _ => rfl
  | .unit, _ :: _, y, h => by simp [decC] at h
  | .pair a b, l, y, h => by
    simp only [decC] at h
    split at h
    · rename_i x z hx hz
      cases h
      have h1 := decC_ok hx
      have h2 := decC_ok hz
      simp only [cel]
      rw [← h1, ← h2, List.take_append_drop]
    · cases h
  | .bool, [x], y, h => (dec1_ok (by simpa only [decC] using h)).symm
  | .int k, [x], y, h => (dec1_ok (by simpa only [decC] using h)).symm
  | .flt k, [x], y, h => (dec1_ok (by simpa only [decC] using h)).symm
  | .str, [x], y, h => (dec1_ok (by simpa only [decC] using h)).symm
  | .sl a, [x], y, h => (dec1_ok (by simpa only [decC] using h)).symm
  | .bool, [], y, h => by simp [decC] at h
  | .int k, [], y, h => by simp [decC] at h
  | .flt k, [], y, h => by simp [decC] at h
  | .str, [], y, h => by simp [decC] at h
  | .sl a, [], y, h => by simp [decC] at h
  | .bool, _ :: _ :: _, y, h => by simp [decC] at h
  | .int k, _ :: _ :: _, y, h => by simp [decC] at h
  | .flt k, _ :: _ :: _, y, h => by simp [decC] at h
  | .str, _ :: _ :: _, y, h => by simp [decC] at h
  | .sl a, _ :: _ :: _, y, h => by simp [decC] at h
theorem dec1_enc {τ : CTy} {x : AV} {y : El τ} (h : dec1 τ x = some y) : x = encV τ y := by
  have := dec1_ok h
  cases τ with
  | unit => simp [dec1] at h
  | pair a b => simp [dec1] at h
  | _ => simp only [cel, List.cons.injEq, and_true] at this; exact this.symm
theorem cel_one {τ : CTy} {y : El τ} {x : AV} (hp : flatC τ = true) (h : cel τ y = [x]) : encV τ y = x := by
  cases τ with
  | unit => simp [flatC] at hp
  | pair a b => simp [flatC] at hp
  | _ => simp only [cel, List.cons.injEq, and_true] at h; exact h
theorem decV_ok {τ : CTy} {x : AV} {y : El τ} (h : decV τ x = some y) : x = encV τ y := by
  unfold decV at h
  split at h
  · rw [decC_ok h]; rfl
  · rw [decC_ok h]; rfl
  · exact dec1_enc h
  · exact dec1_enc h
  · exact dec1_enc h
  · exact dec1_enc h
  · exact dec1_enc h
  · cases h
theorem decAll_ok {τ : CTy} : ∀ {ls : List (List AV)} {ys : List (El τ)}, decAll τ ls = some ys → ls = ys.map (cel τ)
  | [], ys, h => by simp only [decAll] at h; cases h; rfl
  | l :: ls, ys, h => by
    simp only [decAll] at h
    split at h
    · rename_i x xs hx hxs
      cases h
      rw [decC_ok hx, decAll_ok hxs, List.map_cons]
    · cases h

structure Env where
  w : World
  I : Nat → Prop
  m : Nat → Info
  H : AHeap
def tab (H : AHeap) : Tab := fun r => match H[r]? with
  | some (some W) => some (W.k, W.n)
  | _ => none
def Env.V (E : Env) : AV → Value → Prop := VR E.w E.I E.m (tab E.H)
def Env.L (E : Env) : List AV → List Value → Prop := LR E.w E.I E.m (tab E.H)
def rowT (W : Row) (T : Tab) : Tab := if W.pf = true then noTab else T

structure RowOk (B : Nat → Prop) (E : Env) (r : Nat) (W : Row) : Prop where
  al : (0 < W.n ∨ W.mn = false) → (E.m r).al = true
  len : ∀ i, i < W.n → (W.els i).length = W.k
  bx : W.box = true → W.n = 1
  gh : ∀ l, W.k = 0 → W.pf = false → W.ex = .box l → E.L l (E.m r).gv
  mem : (E.m r).al = true → ¬ B (E.m r).blk ∧ ¬ E.I (E.m r).blk ∧ W.n ≤ (E.m r).cap ∧ ∃ arr fz, E.w.heap[(E.m r).blk]? = some (.cells arr W.t fz) ∧ arr.size = (E.m r).cap * W.k ∧ (arr.size ≤ fz.1 ∨ fz.2 ≤ fz.1) ∧ (W.cv = false → fz = (0, 0)) ∧
    ∀ i, i < W.n → ∀ j x, (W.els i)[j]? = some x → ∃ v, arr[i * W.k + j]? = some v ∧ VR E.w E.I E.m (rowT W (tab E.H)) x v ∧ v.oneCell' = true

def Rows (B : Nat → Prop) (E : Env) : Prop := ∀ r W, E.H[r]? = some (some W) → RowOk B E r W

theorem addr_add (b o j : Nat) : (⟨b, o, none⟩ : Addr).add j = ⟨b, o + j, none⟩ := by unfold Addr.add; split <;> simp_all
theorem addr_add' {a : Addr} (h : a.spot = none) (j : Nat) : a.add j = ⟨a.block, a.off + j, none⟩ := by obtain ⟨b, o, s⟩ := a; cases h; exact addr_add b o j
theorem add_add {a : Addr} (h : a.spot = none) (i j : Nat) : (a.add i).add j = a.add (i + j) := by
  rw [addr_add' h, addr_add, addr_add' h]; congr 1; omega

section
variable {w : World} {I : Nat → Prop} {m : Nat → Info}
theorem LR_len {T : Tab} : ∀ {l : List AV} {vs : List Value}, LR w I m T l vs → l.length = vs.length
  | [], [], _ => rfl
  | [], _ :: _, h => by simp [LR] at h
  | _ :: _, [], h => by simp [LR] at h
  | _ :: xs, _ :: vs, h => by simp only [LR] at h; simp [LR_len h.2]
theorem LR_get {T : Tab} : ∀ {l : List AV} {vs : List Value}, LR w I m T l vs → ∀ (j : Nat) (x : AV), l[j]? = some x → ∃ v, vs[j]? = some v ∧ VR w I m T x v
  | [], _, _, j, x, hx => by simp at hx
  | y :: ys, [], h, _, _, _ => by simp [LR] at h
  | y :: ys, v :: vs, h, 0, x, hx => by simp only [LR] at h; simp at hx; exact ⟨v, rfl, hx ▸ h.1⟩
  | y :: ys, v :: vs, h, j + 1, x, hx => by simp only [LR] at h; simp at hx; simpa using LR_get h.2 j x hx
theorem LR_mk {T : Tab} : ∀ {l : List AV} {vs : List Value}, l.length = vs.length → (∀ (j : Nat) (x : AV) (v : Value), l[j]? = some x → vs[j]? = some v → VR w I m T x v) → LR w I m T l vs
  | [], [], _, _ => by simp [LR]
  | [], _ :: _, h, _ => by simp at h
  | _ :: _, [], h, _ => by simp at h
  | x :: xs, v :: vs, h, hh => by
    simp only [LR]
    exact ⟨hh 0 x v rfl rfl, LR_mk (by simpa using h) (fun j y u hy hu => hh (j + 1) y u (by simpa using hy) (by simpa using hu))⟩
theorem CR_get {a : Addr} : ∀ {l : List AV} {o : Nat}, CR w I m a o l → ∀ (j : Nat) (x : AV), l[j]? = some x → ∃ v, w.cell? (a.add (o + j)) = some v ∧ VR w I m noTab x v ∧ v.oneCell' = true
  | [], _, _, j, x, hx => by simp at hx
  | y :: ys, o, h, 0, x, hx => by simp only [CR] at h; simp at hx; exact hx ▸ h.1
  | y :: ys, o, h, j + 1, x, hx => by
    simp only [CR] at h; simp at hx
    have := CR_get h.2 j x hx
    rwa [show o + (j + 1) = o + 1 + j by omega]
theorem CR_mk {a : Addr} : ∀ {l : List AV} {o : Nat}, (∀ (j : Nat) (x : AV), l[j]? = some x → ∃ v, w.cell? (a.add (o + j)) = some v ∧ VR w I m noTab x v ∧ v.oneCell' = true) → CR w I m a o l
  | [], _, _ => by simp [CR]
  | y :: ys, o, h => by
    simp only [CR]
    exact ⟨h 0 y rfl, CR_mk fun j x hx => by have := h (j + 1) x (by simpa using hx); rwa [show o + (j + 1) = o + 1 + j by omega] at this⟩
/-- Values for a list of abstract ones. -/
theorem vals_of {T : Tab} : ∀ {l : List AV} {g : Nat → Option Value}, (∀ (j : Nat) (x : AV), l[j]? = some x → ∃ v, g j = some v ∧ VR w I m T x v) → ∃ vs, LR w I m T l vs ∧ ∀ (j : Nat) (v : Value), vs[j]? = some v → g j = some v
  | [], _, _ => ⟨[], by simp [LR], fun j v h => by simp at h⟩
  | x :: xs, g, h => by
    obtain ⟨v, hv, hx⟩ := h 0 x rfl
    obtain ⟨vs, hvs, hg⟩ := vals_of (l := xs) (g := fun j => g (j + 1)) (fun j y hy => h (j + 1) y (by simpa using hy))
    refine ⟨v :: vs, by simp only [LR]; exact ⟨hx, hvs⟩, fun j u hu => ?_⟩
    cases j with
    | zero => simp at hu; exact hu ▸ hv
    | succ j => simp at hu; exact hg j u hu
theorem VR_noTab {T : Tab} : ∀ {x : AV} {v : Value}, VR w I m noTab x v → VR w I m T x v := fun {x v} h =>
  VR.mono (fun _ => true) (fun _ h => ⟨h, rfl⟩) x noTab T v (fun r p hp => by simp [noTab] at hp) (.inl rfl) h
theorem VR_rowT {W : Row} {T : Tab} {x : AV} {v : Value} (h : VR w I m (rowT W T) x v) : VR w I m T x v := by
  unfold rowT at h; split at h
  · exact VR_noTab h
  · exact h
theorem LR_bs {T : Tab} : ∀ (l : List Value), LR w I m T (l.map .b) l
  | [] => by simp [LR]
  | v :: vs => by simp only [List.map_cons, LR, VR]; exact ⟨trivial, LR_bs vs⟩
theorem VR_cst {T : Tab} (v : Value) : VR w I m T (cst v) v := by
  cases v <;> simp only [cst, VR]
  · exact ⟨_, rfl, LR_bs _⟩
  · exact ⟨_, rfl, LR_bs _⟩
end

section
variable {P : Program}
theorem run_isAgg {t : TypeId} {y : Ty} (h : TyOk P t y) (w : World) : (isAgg t).run P w = .ok (isAggU y.u) w := by
  unfold isAgg
  rw [Sem.run_bind, run_underlying h.und]
  simp only [Result.andThen_ok]
  cases y.u <;> rfl
theorem run_typeInfo {t : TypeId} {i : TypeInfo} (h : P.info? t = some i) (w : World) : (typeInfo t).run P w = .ok i w := by simp [typeInfo, h]
theorem run_sizeOf' {t : TypeId} {y : Ty} (h : TyOk P t y) (w : World) : (sizeOf t).run P w = .ok y.size w := by
  obtain ⟨i, hi, _, hs, _⟩ := h.info
  simp [sizeOf, run_typeInfo hi, hs]
theorem run_zeroValue {t : TypeId} {y : Ty} (h : TyOk P t y) (w : World) : (zeroValue t).run P w = .ok y.zero w := by
  obtain ⟨i, hi, hz, _⟩ := h.info
  simp [zeroValue, run_typeInfo hi, hz]

/-- A load, out of memory that holds what the evaluator says. -/
theorem run_loadAt_part {R : Type} {k : AV → Option R} {r : R} {t : TypeId} {y : Ty} (hy : TyOk P t y) {l : List AV} {off : Nat} {a : Addr} (hs : a.spot = none) {E : Env} {T : Tab}
    (hT : ∀ {x v}, VR E.w E.I E.m T x v → E.V x v)
    (hc : ∀ j x, l[j]? = some x → ∃ v, E.w.cell? ⟨a.block, a.off + j, none⟩ = some v ∧ VR E.w E.I E.m T x v) (hb : a.block < E.w.heap.size)
    (h : partA y l off k = some r) : ∃ av v, k av = some r ∧ E.V av v ∧ ∀ w', Below E.w.heap.size E.w w' → (Instr.loadAt t (.pointer (some ⟨a.block, a.off + off, none⟩))).run P w' = .ok v w' := by
  unfold partA at h
  cases hu : isAggU y.u with
  | true =>
    rw [hu] at h
    simp only [cnd_true] at h
    cases hl : Nat.ble (off + y.size) l.length with
    | false => rw [hl] at h; simp at h
    | true =>
      rw [hl] at h
      simp only [cnd_true] at h
      have hl' : off + y.size ≤ l.length := Nat.le_of_ble_eq_true hl
      obtain ⟨vs, hvs, hg⟩ := vals_of (l := (l.drop off).take y.size) (g := fun j => E.w.cell? ⟨a.block, a.off + off + j, none⟩) (w := E.w) (I := E.I) (m := E.m) (T := T) (fun j x hx => by
        have hj : j < y.size := by
          rcases Nat.lt_or_ge j y.size with h' | h'
          · exact h'
          · rw [List.getElem?_take, if_neg (by omega)] at hx; cases hx
        rw [List.getElem?_take, if_pos hj, List.getElem?_drop] at hx
        have := hc (off + j) x hx
        rwa [show a.off + (off + j) = a.off + off + j by omega] at this)
      refine ⟨_, .agg vs.toArray, h, ?_, fun w' hw => ?_⟩
      · simp only [Env.V, VR]
        exact ⟨_, rfl, by
          have hl2 := LR_len hvs
          refine LR_mk hl2 fun j x v hx hv => ?_
          obtain ⟨v', hv', hx'⟩ := LR_get hvs j x hx
          simp only [List.toList_toArray] at hv
          rw [hv] at hv'
          cases hv'
          exact hT hx'⟩
      · have hlen : vs.length = y.size := by rw [← LR_len hvs]; simp; omega
        have hcells : (loadCells ⟨a.block, a.off + off, none⟩ y.size).run P w' = .ok vs.toArray w' := by
          rw [← hlen]
          exact run_loadCells_list w' ⟨a.block, a.off + off, none⟩ vs (fun j v hv => by
            rw [addr_add, cell_same (w := E.w) (w' := w') (a := ⟨a.block, a.off + off + j, none⟩) (hw.block _ hb)]
            exact hg j v hv)
        unfold Instr.loadAt
        simp [Instr.sureAddr, loadVar, run_isAgg hy, hu, run_sizeOf' hy, hcells]
  | false =>
    rw [hu] at h
    simp only [cnd_false] at h
    cases hl : Nat.blt off l.length with
    | false => rw [hl] at h; simp at h
    | true =>
      rw [hl] at h
      simp only [cnd_true] at h
      have hl' : off < l.length := by have := Nat.le_of_ble_eq_true hl; omega
      obtain ⟨v, hv, hx⟩ := hc off (l.getD off .top) (by simp [List.getD, List.getElem?_eq_getElem hl'])
      refine ⟨_, v, h, hT hx, fun w' hw => ?_⟩
      have hv' : w'.cell? ⟨a.block, a.off + off, none⟩ = some v := by
        rw [cell_same (w := E.w) (w' := w') (a := ⟨a.block, a.off + off, none⟩) (hw.block _ hb)]; exact hv
      unfold Instr.loadAt
      simp [Instr.sureAddr, loadVar, run_isAgg hy, hu, hv']

/-- A part of a value. -/
theorem run_part {R : Type} {k : AV → Option R} {r : R} {t : TypeId} {y : Ty} (hy : TyOk P t y) {l : List AV} {off : Nat} {cs : Array Value} {E : Env}
    (hc : E.L l cs.toList) (h : partA y l off k = some r) : ∃ av v, k av = some r ∧ E.V av v ∧ ∀ w', (part t cs off).run P w' = .ok v w' := by
  unfold partA at h
  have hlen := LR_len hc
  cases hu : isAggU y.u with
  | true =>
    rw [hu] at h
    simp only [cnd_true] at h
    cases hl : Nat.ble (off + y.size) l.length with
    | false => rw [hl] at h; simp at h
    | true =>
      rw [hl] at h
      simp only [cnd_true] at h
      have hl' : off + y.size ≤ l.length := Nat.le_of_ble_eq_true hl
      refine ⟨_, .agg (cs.extract off (off + y.size)), h, ?_, fun w' => ?_⟩
      · simp only [Env.V, VR]
        refine ⟨_, rfl, LR_mk (by simp at hlen ⊢; omega) fun j x v hx hv => ?_⟩
        have hj : j < y.size := by
          rcases Nat.lt_or_ge j y.size with h' | h'
          · exact h'
          · rw [List.getElem?_take, if_neg (by omega)] at hx; cases hx
        rw [List.getElem?_take, if_pos hj, List.getElem?_drop] at hx
        obtain ⟨v', hv', hx'⟩ := LR_get hc (off + j) x hx
        have : cs[off + j]? = some v := by
          rw [Array.getElem?_toList, Array.getElem?_extract] at hv
          split at hv
          · exact hv
          · cases hv
        rw [Array.getElem?_toList, this] at hv'
        cases hv'
        exact hx'
      · unfold part
        simp [run_isAgg hy, hu, run_sizeOf' hy]
  | false =>
    rw [hu] at h
    simp only [cnd_false] at h
    cases hl : Nat.blt off l.length with
    | false => rw [hl] at h; simp at h
    | true =>
      rw [hl] at h
      simp only [cnd_true] at h
      have hl' : off < l.length := by have := Nat.le_of_ble_eq_true hl; omega
      obtain ⟨v, hv, hx⟩ := LR_get hc off (l.getD off .top) (by simp [List.getD, List.getElem?_eq_getElem hl'])
      refine ⟨_, v, h, hx, fun w' => ?_⟩
      unfold part
      rw [Array.getElem?_toList] at hv
      simp [run_isAgg hy, hu, hv]
end
end Go.Proofs.YthmhobnhladhbaaDoor.AM
