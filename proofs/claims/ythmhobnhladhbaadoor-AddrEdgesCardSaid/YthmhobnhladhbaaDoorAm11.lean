/- The abstract machine, part 11: struct and slice literals; bytes of a string. -/
import Derived.Test.YthmhobnhladhbaaDoorAm10
namespace Go.Proofs.YthmhobnhladhbaaDoor.AM
open Go Go.RowKit
set_option linter.unusedSimpArgs false
set_option linter.unusedVariables false

theorem foldl_put (off : Nat) : ∀ (l : List Value) (s : Nat) (arr : Array Value), off + s + l.length ≤ arr.size →
    ((l.zipIdx s).foldl (fun cs (x : Value × Nat) => cs.setIfInBounds (off + x.2) x.1) arr).size = arr.size ∧
    ∀ q : Nat, ((l.zipIdx s).foldl (fun cs (x : Value × Nat) => cs.setIfInBounds (off + x.2) x.1) arr)[q]? = if off + s ≤ q ∧ q < off + s + l.length then l[q - (off + s)]? else arr[q]?
  | [], s, arr, _ => by
    refine ⟨rfl, fun q => ?_⟩
    rw [if_neg (by simp)]; rfl
  | v :: vs, s, arr, h => by
    simp only [List.length_cons] at h
    obtain ⟨h1, h2⟩ := foldl_put off vs (s + 1) (arr.setIfInBounds (off + s) v) (by simp; omega)
    simp only [List.zipIdx_cons, List.foldl_cons]
    refine ⟨by rw [h1]; simp, fun q => ?_⟩
    rw [h2 q]
    simp only [List.length_cons]
    by_cases hq : q = off + s
    · subst hq
      rw [if_neg (by omega), if_pos (by omega), Array.getElem?_setIfInBounds, if_pos rfl, if_pos (by omega)]
      simp
    · by_cases hq2 : off + (s + 1) ≤ q ∧ q < off + (s + 1) + vs.length
      · rw [if_pos hq2, if_pos (by omega), show q - (off + s) = (q - (off + (s + 1))) + 1 by omega]
        simp
      · rw [if_neg hq2, if_neg (by omega), Array.getElem?_setIfInBounds, if_neg (by omega)]

theorem fold_arr (off : Nat) (vs arr : Array Value) (h : off + vs.size ≤ arr.size) :
    (vs.zipIdx.foldl (fun cs (x : Value × Nat) => cs.setIfInBounds (off + x.2) x.1) arr).size = arr.size ∧
    ∀ q : Nat, (vs.zipIdx.foldl (fun cs (x : Value × Nat) => cs.setIfInBounds (off + x.2) x.1) arr)[q]? = if off ≤ q ∧ q < off + vs.size then vs[q - off]? else arr[q]? := by
  rw [← Array.foldl_toList, Array.toList_zipIdx]
  have := foldl_put off vs.toList 0 arr (by simpa using h)
  simpa using this

section
variable {P : Program} {L : Tys} {g : Glob} {B : Nat → Prop} {w0 : World} {I0 : Nat → Prop} {E : Env} {R : Type} {r : R}
variable {k : AV → AHeap → Option (Nat → Bool) → Option R}

theorem LR_size {T : Tab} {w : World} {I : Nat → Prop} {m : Nat → Info} {l : List AV} {a : Array Value} (h : LR w I m T l a.toList) : l.length = a.size := (LR_len h).trans Array.length_toList

theorem fill_ok {place place' : Nat → Option (Nat × Nat)} (hpl : ∀ i p, place i = some p → place' i = some p) {ev : Operand → AV} {ρ : Operand → Value} (hρ : ∀ x, E.V (ev x) (ρ x)) : ∀ (ps : List (Nat × Operand)) (cells l : List AV) (arr : Array Value), E.L cells arr.toList →
    fillA place cells (ps.map fun p => (p.1, ev p.2)) = some l → ∃ arr', Instr.fill place' arr (ps.map fun p => (p.1, ρ p.2)) = some arr' ∧ E.L l arr'.toList
  | [], cells, l, arr, hc, h => by
    simp only [List.map_nil, fillA] at h
    cases h
    exact ⟨arr, rfl, hc⟩
  | (i, x) :: ps, cells, l, arr, hc, h => by
    simp only [List.map_cons, fillA] at h
    split at h
    · rename_i off size hp
      obtain ⟨hcond, h⟩ := cond_some h
      simp only [Bool.and_eq_true] at hcond
      have h1 : (cellsOf (ev x)).length = size := Nat.eq_of_beq_eq_true hcond.1.1
      have h2 : off + size ≤ cells.length := Nat.le_of_ble_eq_true hcond.2
      obtain ⟨hcs, _⟩ := cells_ok hcond.1.2 (hρ x)
      have hl1 := LR_size hcs
      have hl2 := LR_size hc
      obtain ⟨f1, f2⟩ := fold_arr off (ρ x).cells arr (by omega)
      have hc' : E.L (putA cells off (cellsOf (ev x))) ((ρ x).cells.zipIdx.foldl (fun cs (z : Value × Nat) => cs.setIfInBounds (off + z.2) z.1) arr).toList := by
        refine LR_mk (by rw [putA_len (by omega), hl2, ← f1]; exact (Array.length_toList).symm) fun j z v hz hv => ?_
        rw [Array.getElem?_toList, f2] at hv
        rw [putA_get (by omega)] at hz
        by_cases hj : off ≤ j ∧ j < off + (cellsOf (ev x)).length
        · rw [if_pos hj] at hz
          rw [if_pos (by omega)] at hv
          obtain ⟨v', hv', hr⟩ := LR_get hcs _ z hz
          rw [Array.getElem?_toList, hv] at hv'
          cases hv'; exact hr
        · rw [if_neg hj] at hz
          rw [if_neg (by omega)] at hv
          obtain ⟨v', hv', hr⟩ := LR_get hc _ z hz
          rw [Array.getElem?_toList, hv] at hv'
          cases hv'; exact hr
      obtain ⟨arr', ha, hla⟩ := fill_ok hpl hρ ps _ l _ hc' h
      refine ⟨arr', ?_, hla⟩
      simp only [List.map_cons, Instr.fill, hpl i _ hp]
      rw [if_neg]
      · exact ha
      · simp only [Bool.or_eq_true, bne_iff_ne, ne_eq, decide_eq_true_eq, not_or]
        exact ⟨by omega, by omega⟩
    · exact none_ne h

theorem LR_noTab {T : Tab} {w : World} {I : Nat → Prop} {m : Nat → Info} {l : List AV} {vs : List Value} (h : LR w I m noTab l vs) : LR w I m T l vs :=
  LR_mk (LR_len h) fun j x v hx hv => by
    obtain ⟨v', hv', hr⟩ := LR_get h j x hx
    rw [hv] at hv'; cases hv'; exact VR_noTab hr

theorem run_mapM_sizes {tys : Tys} (hL : TysOk P tys) : ∀ (fs : List Field) (w : World), (∀ f, f ∈ fs → ∃ y, TyOk P f.type y) → ∃ ps : List (Nat × Nat), (fs.mapM (m := Sem) fun f => do pure (f.offset, ← sizeOf f.type)).run P w = .ok ps w ∧ ps.length = fs.length ∧ ∀ (i : Nat) (f : Field) (y : Ty), fs[i]? = some f → TyOk P f.type y → ps[i]? = some (f.offset, y.size)
  | [], w, _ => ⟨[], rfl, rfl, fun i f y h => by simp at h⟩
  | f :: fs, w, h => by
    obtain ⟨y, hy⟩ := h f (by simp)
    obtain ⟨ps, h1, h2, h3⟩ := run_mapM_sizes hL fs w (fun f' hf => h f' (by simp [hf]))
    refine ⟨(f.offset, y.size) :: ps, ?_, by simp [h2], fun i f' y' hf hy' => ?_⟩
    · simp only [List.mapM_cons, Sem.run_bind, run_sizeOf' hy, Result.andThen_ok, Sem.run_pure, h1]
    · cases i with
      | zero =>
        simp at hf
        subst hf
        obtain ⟨i1, a1, _, b1, _⟩ := hy.info
        obtain ⟨i2, a2, _, b2, _⟩ := hy'.info
        rw [a1] at a2
        cases a2
        simp [← b1, ← b2]
      | succ i => simp at hf ⊢; exact h3 i f' y' hf hy'

theorem e_build (hS : St g B w0 I0 E) (hL : TysOk P L) {ev : Operand → AV} {ρ : Operand → Value} (hρ : ∀ x, E.V (ev x) (ρ x)) {t : TypeId} {parts : Array (Nat × Operand)} (h : (match tyAt L t with
    | some y => match y.u with
      | .struct fs => cnd (fieldsOk L fs) (match fillA (fun i => match fs[i]? with
          | some f => (tyAt L f.type).map fun yf => (f.offset, yf.size)
          | none => none) (zeroCells y) (parts.toList.map fun p => (p.1, ev p.2)) with
        | some l => k (.agg l) E.H none
        | none => none) none
      | .array _ e => match tyAt L e with
        | some ye => match fillA (fun i => some (i * ye.size, ye.size)) (zeroCells y) (parts.toList.map fun p => (p.1, ev p.2)) with
          | some l => k (.agg l) E.H none
          | none => none
        | none => none
      | _ => none
    | none => none) = some r) : Nxt P g B w0 I0 E (do pure (Next.value (← Instr.build t (parts.map fun (i, x) => (i, ρ x))))) k r := by
  have hmap : (parts.map fun (p : Nat × Operand) => (p.1, ρ p.2)).toList = parts.toList.map fun p => (p.1, ρ p.2) := by simp
  split at h
  · rename_i y hy
    have hz := LR_noTab (T := tab E.H) (zero_ok (E := E) (y := y))
    split at h
    · rename_i fs hu
      obtain ⟨hf, h⟩ := cond_some h
      have hu' : P.underlying t = some (.struct fs) := by rw [(hL t y hy).und, hu]
      split at h
      · rename_i l hl
        obtain ⟨ps, hps, hpl, hpg⟩ := run_mapM_sizes hL fs.toList E.w (fun f hf' => by
          have := List.all_eq_true.1 hf f hf'
          obtain ⟨yf, hyf⟩ := Option.isSome_iff_exists.1 this
          exact ⟨yf, hL _ yf hyf⟩)
        obtain ⟨arr', ha, hla⟩ := fill_ok (place' := fun i => ps.toArray[i]?) (fun i p hp => by
          split at hp
          · rename_i f hfi
            cases hyf : tyAt L f.type with
            | none => rw [hyf] at hp; cases hp
            | some yf =>
              rw [hyf] at hp
              simp only [Option.map_some, Option.some.injEq] at hp
              rw [← hp]
              simp only [List.getElem?_toArray]
              exact hpg i f yf (by rw [Array.getElem?_toList]; exact hfi) (hL _ yf hyf)
          · cases hp) hρ parts.toList _ l y.zero.cells hz hl
        refine ⟨_, .agg arr', E, none, hS, Ext.refl _ _, by simp only [Env.V, VR]; exact ⟨_, rfl, hla⟩, h, .inl (run_val ?_)⟩
        have hps' : (fs.mapM (m := Sem) fun f => do pure (f.offset, ← sizeOf f.type)).run P E.w = .ok ps.toArray E.w := by
          rw [Array.mapM_eq_mapM_toList, Sem.run_map, hps]; rfl
        unfold Instr.build
        simp only [Sem.run_bind, run_zeroValue (hL t y hy), Result.andThen_ok, run_underlying hu', hps']
        rw [hmap, ha]
        rfl
      · exact none_ne h
    · rename_i n e hu
      have hu' : P.underlying t = some (.array n e) := by rw [(hL t y hy).und, hu]
      split at h
      · rename_i ye hye
        split at h
        · rename_i l hl
          obtain ⟨arr', ha, hla⟩ := fill_ok (place' := fun i => some (i * ye.size, ye.size)) (fun i p hp => hp) hρ parts.toList _ l y.zero.cells hz hl
          refine ⟨_, .agg arr', E, none, hS, Ext.refl _ _, by simp only [Env.V, VR]; exact ⟨_, rfl, hla⟩, h, .inl (run_val ?_)⟩
          unfold Instr.build
          simp only [Sem.run_bind, run_zeroValue (hL t y hy), Result.andThen_ok, run_underlying hu', run_sizeOf' (hL _ ye hye)]
          rw [hmap, ha]
          rfl
        · exact none_ne h
      · exact none_ne h
    · exact none_ne h
  · exact none_ne h
end
end Go.Proofs.YthmhobnhladhbaaDoor.AM
