/- The abstract machine, part 12: slice literals; bytes of a string. -/
import Derived.Test.YthmhobnhladhbaaDoorAm11
import Derived.Laws.MakeOwn
namespace Go.Proofs.YthmhobnhladhbaaDoor.AM
open Go Go.RowKit
set_option linter.unusedSimpArgs false
set_option linter.unusedVariables false

section
variable {P : Program} {L : Tys} {g : Glob} {B : Nat → Prop} {w0 : World} {I0 : Nat → Prop} {E : Env} {R : Type} {r : R}
variable {k : AV → AHeap → Option (Nat → Bool) → Option R}

/-- Elements of one size lie one behind the other. -/
structure Lies (E : Env) (T : Tab) (size : Nat) (els : List (List AV)) (arr : Array Value) : Prop where
  sz : arr.size = els.length * size
  len : ∀ (i : Nat) (e : List AV), els[i]? = some e → e.length = size
  at_ : ∀ (i : Nat) (e : List AV), els[i]? = some e → ∀ (j : Nat) (x : AV), e[j]? = some x → ∃ v, arr[i * size + j]? = some v ∧ VR E.w E.I E.m T x v ∧ v.oneCell' = true

theorem fillS_ok {size : Nat} {ev : Operand → AV} {ρ : Operand → Value} (hρ : ∀ x, E.V (ev x) (ρ x)) : ∀ (ps : List (Nat × Operand)) (els els' : List (List AV)) (arr : Array Value), Lies E (tab E.H) size els arr →
    fillS size els (ps.map fun p => (p.1, ev p.2)) = some els' → ∃ arr', Instr.fill (fun i => some (i * size, size)) arr (ps.map fun p => (p.1, ρ p.2)) = some arr' ∧ Lies E (tab E.H) size els' arr' ∧ els'.length = els.length
  | [], els, els', arr, hc, h => by
    simp only [List.map_nil, fillS] at h
    cases h
    exact ⟨arr, rfl, hc, rfl⟩
  | (i, x) :: ps, els, els', arr, hc, h => by
    simp only [List.map_cons, fillS] at h
    obtain ⟨hcond, h⟩ := cond_some h
    simp only [Bool.and_eq_true] at hcond
    have h1 : (cellsOf (ev x)).length = size := Nat.eq_of_beq_eq_true hcond.1.1
    have h2 : i < els.length := by have := Nat.le_of_ble_eq_true hcond.2; omega
    obtain ⟨hcs, hone⟩ := cells_ok hcond.1.2 (hρ x)
    have hl1 := LR_size hcs
    have hfit : i * size + size ≤ arr.size := by
      rw [hc.sz]
      have := Nat.mul_le_mul_right size h2
      rwa [Nat.succ_mul] at this
    obtain ⟨f1, f2⟩ := fold_arr (i * size) (ρ x).cells arr (by omega)
    have hc' : Lies E (tab E.H) size (els.set i (cellsOf (ev x))) ((ρ x).cells.zipIdx.foldl (fun cs (z : Value × Nat) => cs.setIfInBounds (i * size + z.2) z.1) arr) := by
      refine ⟨by rw [f1, hc.sz]; simp, fun q e he => ?_, fun q e he j z hz => ?_⟩
      · rw [List.getElem?_set] at he
        split at he
        · (try rw [if_pos h2] at he); cases he; exact h1
        · exact hc.len q e he
      · rw [f2]
        rw [List.getElem?_set] at he
        split at he
        · rename_i hq
          subst hq
          (try rw [if_pos h2] at he)
          cases he
          have hj : j < size := by have := (List.getElem?_eq_some_iff.1 hz).1; omega
          rw [if_pos (by omega), show i * size + j - i * size = j by omega]
          obtain ⟨v, hv, hzv⟩ := LR_get hcs j z hz
          exact ⟨v, by rw [← Array.getElem?_toList]; exact hv, hzv, hone v (List.mem_of_getElem? hv)⟩
        · rename_i hq
          have hj : j < size := by have := (List.getElem?_eq_some_iff.1 hz).1; rwa [hc.len q e he] at this
          rw [if_neg]
          · exact hc.at_ q e he j z hz
          · intro hh
            rcases Nat.lt_or_ge q i with hlt | hge
            · have := Nat.mul_le_mul_right size (show q + 1 ≤ i by omega)
              rw [Nat.succ_mul] at this
              omega
            · have := Nat.mul_le_mul_right size (show i + 1 ≤ q by omega)
              rw [Nat.succ_mul] at this
              omega
    obtain ⟨arr', ha, hla, hlen⟩ := fillS_ok hρ ps _ els' _ hc' h
    refine ⟨arr', ?_, hla, by rw [hlen]; simp⟩
    simp only [List.map_cons, Instr.fill]
    rw [if_neg]
    · exact ha
    · simp only [Bool.or_eq_true, bne_iff_ne, ne_eq, decide_eq_true_eq, not_or]
      exact ⟨by omega, by omega⟩

theorem e_buildSlice (hS : St g B w0 I0 E) (hL : TysOk P L) {ev : Operand → AV} {ρ : Operand → Value} (hρ : ∀ x, E.V (ev x) (ρ x)) {t : TypeId} {len : Nat} {parts : Array (Nat × Operand)} (h : (match tyAt L t with
    | some y => match y.u with
      | .slice e => match tyAt L e with
        | some ye => cnd (Nat.beq (zeroCells ye).length ye.size && Nat.blt 0 ye.size && Nat.ble (len * ye.size) 16777216 && onesA (zeroCells ye)) (match fillS ye.size (List.replicate len (zeroCells ye)) (parts.toList.map fun p => (p.1, nrmT L e (ev p.2))) with
          | some els => k (.sl E.H.length len) (E.H ++ [some ⟨e, ye.size, len, listEx L e ye els, false, els.all puresA, false, false⟩]) none
          | none => none) none
        | none => none
      | _ => none
    | none => none) = some r) : Nxt P g B w0 I0 E (do pure (Next.value (← Instr.buildSlice t len (parts.map fun (i, x) => (i, ρ x))))) k r := by
  have hmap : (parts.map fun (p : Nat × Operand) => (p.1, ρ p.2)).toList = parts.toList.map fun p => (p.1, ρ p.2) := by simp
  split at h
  · rename_i y hy
    split at h
    · rename_i e hu
      have hu' : P.underlying t = some (.slice e) := by rw [(hL t y hy).und, hu]
      split at h
      · rename_i ye hye
        obtain ⟨hcond, h⟩ := cond_some h
        simp only [Bool.and_eq_true] at hcond
        have h1 : (zeroCells ye).length = ye.size := Nat.eq_of_beq_eq_true hcond.1.1.1
        have h2 : 0 < ye.size := by have := Nat.le_of_ble_eq_true hcond.1.1.2; omega
        have h3 : len * ye.size ≤ 16777216 := Nat.le_of_ble_eq_true hcond.1.2
        have h4 := LR_ones hcond.2 (zero_ok (E := E) (y := ye))
        have hz := LR_noTab (T := tab E.H) (zero_ok (E := E) (y := ye))
        have hzs : ye.zero.cells.size = ye.size := by have := LR_size hz; omega
        split at h
        · rename_i els hels
          have h0 : Lies E (tab E.H) ye.size (List.replicate len (zeroCells ye)) ((Array.range (len * ye.size)).map (ye.zero.cells[· % ye.zero.cells.size]!)) := by
            refine ⟨by simp, fun i e he => ?_, fun i e he j x hx => ?_⟩
            · rw [List.getElem?_replicate] at he
              split at he
              · cases he; exact h1
              · cases he
            · rw [List.getElem?_replicate] at he
              split at he
              · rename_i hi
                cases he
                have hj : j < ye.size := by have := (List.getElem?_eq_some_iff.1 hx).1; omega
                obtain ⟨v, hv, hxv⟩ := LR_get hz j x hx
                refine ⟨v, ?_, hxv, h4 v (List.mem_of_getElem? hv)⟩
                have hlt : i * ye.size + j < len * ye.size := by
                  have := Nat.mul_le_mul_right ye.size hi
                  rw [Nat.succ_mul] at this
                  omega
                have hmod : (i * ye.size + j) % ye.zero.cells.size = j := by
                  rw [hzs, Nat.mul_comm, Nat.mul_add_mod, Nat.mod_eq_of_lt hj]
                rw [Array.getElem?_toList] at hv
                simp only [Array.getElem?_map, Array.getElem?_range, hlt, if_true, Option.map_some, hmod]
                rw [getElem!_def, hv]
              · cases he
          obtain ⟨arr', ha, hla, hlen⟩ := fillS_ok (ev := fun x => nrmT L e (ev x)) (fun x => nrmT_ok (hρ x)) parts.toList _ els _ h0 hels
          rw [List.length_replicate] at hlen
          obtain ⟨s1, s2⟩ := hS.newRow (W := ⟨e, ye.size, len, listEx L e ye els, false, els.all puresA, false, false⟩) (arr := arr') (fz := (0, 0)) (cap := len) (fun i hi => by
              have hi' : i < els.length := by rw [hlen]; exact hi
              show ((listEx L e ye els).at' i).length = _
              rw [listEx_at hi']
              simp only [List.getD_eq_getElem?_getD, List.getElem?_eq_getElem hi', Option.getD_some]
              exact hla.len i _ (List.getElem?_eq_getElem hi')) (fun hb => by cases hb) (show ye.size ≠ 0 by omega) (Nat.le_refl _) (by rw [hla.sz, hlen]) (.inr (Nat.le_refl _)) (fun _ => rfl) (fun i hi j x hx => by
              have hi' : i < els.length := by rw [hlen]; exact hi
              replace hx : ((listEx L e ye els).at' i)[j]? = some x := hx
              rw [listEx_at hi'] at hx
              simp only [List.getD_eq_getElem?_getD, List.getElem?_eq_getElem hi', Option.getD_some] at hx
              obtain ⟨v, hv, hxv, hx1⟩ := hla.at_ i _ (List.getElem?_eq_getElem hi') j x hx
              refine ⟨v, hv, ?_, hx1⟩
              unfold rowT
              simp only
              split
              · rename_i hp
                have := List.all_eq_true.1 hp els[i] (List.getElem_mem hi')
                exact VR_pure (puresA_get this x (List.mem_of_getElem? hx)) hxv
              · exact hxv) (w' := { E.w with heap := E.w.heap.push (.cells arr' e) }) rfl rfl rfl rfl
          refine ⟨_, .slice (some ⟨E.w.heap.size, 0, none⟩) len len, _, none, s1, s2, ?_, h, .inl (run_val ?_)⟩
          · simp only [Env.V, VR]
            refine ⟨⟨ye.size, by simp [tab]⟩, ?_⟩
            rw [upd_same]
            simp only [if_true]
            exact ⟨len, rfl, Nat.le_refl _, Nat.le_refl _⟩
          · unfold Instr.buildSlice
            simp only [Sem.run_bind, run_underlying hu', Result.andThen_ok, run_sizeOf' (hL _ ye hye)]
            rw [if_neg (by omega)]
            by_cases hl0 : len * ye.size = 0
            · have hr0 : ∀ f : Nat → Value, (Array.range 0).map f = #[] := fun f => by simp
              rw [hl0, hr0] at ha
              simp only [hl0, if_true, pure_bind, hr0]
              rw [hmap, ha]
              simp [newRow]
            · simp only [hl0, if_false, Sem.run_bind, run_zeroValue (hL _ ye hye), Result.andThen_ok, Sem.run_pure]
              rw [hmap, ha]
              simp [newRow]
        · exact none_ne h
      · exact none_ne h
    · exact none_ne h
  · exact none_ne h

theorem makeEx_ok {e : TypeId} {ye : Ty} : ∃ cs, (∀ i, (makeEx L e ye).at' i = cs) ∧ LR E.w E.I E.m noTab cs ye.zero.cells.toList := by
  unfold makeEx
  split
  · split
    · rename_i τ _ z hz
      exact ⟨_, fun _ => rfl, by rw [← decC_ok hz]; exact nrmL_ok (zero_ok (E := E) (y := ye))⟩
    · exact ⟨_, fun _ => rfl, zero_ok (E := E) (y := ye)⟩
  · exact ⟨_, fun _ => rfl, zero_ok (E := E) (y := ye)⟩
theorem e_make (hS : St g B w0 I0 E) (hL : TysOk P L) {t : TypeId} {xa xb : AV} {va vb : Value} (h : (match tyAt L t, xa, xb with
    | some y, .b (.int _ l), .b (.int _ c) => match y.u with
      | .slice e => match tyAt L e with
        | some ye => cnd (Nat.beq (zeroCells ye).length ye.size && Nat.blt 0 ye.size && onesA (zeroCells ye)) (if 0 ≤ l ∧ l ≤ c then
            if rowFits c.toNat ye.bytes = true then k (.sl E.H.length l.toNat) (E.H ++ [some ⟨e, ye.size, l.toNat, makeEx L e ye, false, true, false, false⟩]) none else none else none) none
        | none => none
      | _ => none
    | _, _, _ => none) = some r) (ha : E.V xa va) (hb : E.V xb vb) : Nxt P g B w0 I0 E (do pure (Next.value (← Instr.makeSlice t va vb))) k r := by
  revert ha hb
  split at h
  · rename_i y kl l kc c hy
    intro ha hb
    rw [V_b] at ha hb
    subst ha hb
    split at h
    · rename_i e hu
      have hu' : P.underlying t = some (.slice e) := by rw [(hL t y hy).und, hu]
      split at h
      · rename_i ye hye
        obtain ⟨hcond, h⟩ := cond_some h
        simp only [Bool.and_eq_true] at hcond
        obtain ⟨⟨h0, hlc⟩, h⟩ := if_some h
        obtain ⟨hfits, h⟩ := if_some h
        unfold rowFits at hfits
        rw [Bool.and_eq_true] at hfits
        have hby := Nat.le_of_ble_eq_true hfits.1
        have h63 := Nat.le_of_ble_eq_true hfits.2
        have h1 : (zeroCells ye).length = ye.size := Nat.eq_of_beq_eq_true hcond.1.1
        have h2 : 0 < ye.size := by have := Nat.le_of_ble_eq_true hcond.1.2; omega
        have h4 := LR_ones hcond.2 (zero_ok (E := E) (y := ye))
        obtain ⟨i, hi, hz, hisz, hiby⟩ := (hL e ye hye).info
        have hzs : ye.zero.cells.size = ye.size := by have := LR_size (zero_ok (E := E) (y := ye)); omega
        obtain ⟨cs, hcs, hcl⟩ := makeEx_ok (L := L) (E := E) (e := e) (ye := ye)
        have hcsl : cs.length = ye.size := by rw [LR_len hcl, Array.length_toList]; exact hzs
        have hlc' : l.toNat ≤ c.toNat := by omega
        have hrun := run_make (P := P) E.w t e i ye.zero hu' hi hz kl kc l c h0 hlc (by
          rw [hiby]
          have h5 : ((c.toNat * ye.bytes : Nat) : Int) ≤ ((140737488355328 : Nat) : Int) := Int.ofNat_le.2 hby
          rw [Int.natCast_mul, Int.toNat_of_nonneg (Int.le_trans h0 hlc), Int.mul_comm] at h5
          exact Int.le_trans h5 (by decide)) (by omega)
        rw [hisz] at hrun
        obtain ⟨s1, s2⟩ := hS.newRow (W := ⟨e, ye.size, l.toNat, makeEx L e ye, false, true, false, false⟩) (arr := madeCells ye.zero.cells (c.toNat * ye.size)) (fz := (0, 0)) (cap := c.toNat) (fun q hq => by
            show ((makeEx L e ye).at' q).length = _
            rw [hcs]; exact hcsl) (fun hb => by cases hb) (show ye.size ≠ 0 by omega) hlc' (size_madeCells _ _) (.inr (Nat.le_refl _)) (fun _ => rfl) (fun q hq j x hx => by
            replace hx : ((makeEx L e ye).at' q)[j]? = some x := hx
            rw [hcs] at hx
            have hj : j < ye.size := by have := (List.getElem?_eq_some_iff.1 hx).1; omega
            obtain ⟨v, hv, hxv⟩ := LR_get hcl j x hx
            refine ⟨v, ?_, by simpa only [rowT, if_true] using hxv, h4 v (List.mem_of_getElem? hv)⟩
            have hq' : q < c.toNat := Nat.lt_of_lt_of_le hq hlc'
            have hlt : q * ye.size + j < c.toNat * ye.size := by
              have := Nat.mul_le_mul_right ye.size hq'
              rw [Nat.succ_mul] at this
              omega
            have hmod : (q * ye.size + j) % ye.zero.cells.size = j := by
              rw [hzs, Nat.mul_comm, Nat.mul_add_mod, Nat.mod_eq_of_lt hj]
            rw [Array.getElem?_toList] at hv
            simp only [madeCells, Array.getElem?_map, Array.getElem?_range, hlt, if_true, Option.map_some, hmod]
            rw [getElem!_def, hv]) (w' := E.w.alloc (.cells (madeCells ye.zero.cells (c.toNat * ye.size)) e)) rfl rfl rfl rfl
        refine ⟨_, _, _, none, s1, s2, ?_, h, .inl (run_val hrun)⟩
        simp only [Env.V, VR]
        refine ⟨⟨ye.size, by simp [tab]⟩, ?_⟩
        rw [upd_same]
        simp only [if_true]
        exact ⟨c.toNat, rfl, hlc', Nat.le_refl _⟩
      · exact none_ne h
    · exact none_ne h
  · exact none_ne h

theorem e_bytes (hS : St g B w0 I0 E) (hL : TysOk P L) {s d e : TypeId} {a : ByteArray} {us : Ty} (hs : tyAt L s = some us) (hd : P.underlying d = some (.slice e)) (he : P.underlying e = some (.int .u8))
    (h : k (.sl E.H.length a.size) (E.H ++ [some ⟨e, 1, a.size, byteEx a, false, true, false, true⟩]) none = some r) :
    Nxt P g B w0 I0 E (do pure (Next.value (← convert s d (.string a)))) k r := by
  have hrun := Lib.run_convert_string_bytes (P := P) E.w s d e a (hL s us hs).und hd he
  have hge : a.size ≤ grownCap E.w a.size 0 e := grownCap_ge _ _ _ _
  have hsz : (Lib.bytesCells E.w e a).size = grownCap E.w a.size 0 e := by
    simp only [Lib.bytesCells, Array.size_append, Array.size_map, Array.size_replicate]
    show a.size + _ = _
    omega
  have hheap : (Lib.bytesWorld E.w e a).heap = E.w.heap.push (.cells (Lib.bytesCells E.w e a) e ((Lib.bytesCells E.w e a).size, (Lib.bytesCells E.w e a).size + 1)) := by
    apply Array.ext_getElem?
    intro q
    rw [Array.getElem?_push]
    split
    · rename_i hq; subst hq; exact Lib.bytesWorld_at_new _ _ _
    · rename_i hq
      rcases Nat.lt_or_ge q E.w.heap.size with hlt | hge
      · exact Lib.bytesWorld_at_old _ _ _ q hlt
      · rw [Array.getElem?_eq_none hge, Array.getElem?_eq_none (by rw [Lib.bytesWorld_size]; omega)]
  obtain ⟨s1, s2⟩ := hS.newRow (W := ⟨e, 1, a.size, byteEx a, false, true, false, true⟩) (arr := Lib.bytesCells E.w e a) (fz := ((Lib.bytesCells E.w e a).size, (Lib.bytesCells E.w e a).size + 1)) (cap := grownCap E.w a.size 0 e)
    (fun i _ => rfl) (fun hb => by cases hb) (show (1 : Nat) ≠ 0 by omega) hge (by rw [hsz, Nat.mul_one]) (.inl (Nat.le_refl _)) (fun hb => by cases hb) (fun i hi j x hx => by
      replace hx : ([.b (.int .u8 (bt a i))] : List AV)[j]? = some x := hx
      have hj : j = 0 := by
        have := (List.getElem?_eq_some_iff.1 hx).1
        simp at this; exact this
      subst hj
      simp at hx
      subst hx
      refine ⟨.int .u8 (bt a i), ?_, by simp only [VR], rfl⟩
      have hi' : i < a.size := hi
      have hi2 : i < a.data.size := hi'
      simp only [Nat.mul_one, Nat.add_zero, Lib.bytesCells]
      rw [Array.getElem?_append_left (by simpa using hi2), Array.getElem?_map, Array.getElem?_eq_getElem hi2]
      simp only [Option.map_some, bt, Int.toNat_natCast, hi', dif_pos]
      rfl) (w' := Lib.bytesWorld E.w e a) hheap rfl rfl rfl
  refine ⟨_, _, _, none, s1, s2, ?_, h, .inl (run_val hrun)⟩
  simp only [Env.V, VR]
  refine ⟨⟨1, by simp [tab]⟩, ?_⟩
  rw [upd_same]
  simp only [if_true]
  exact ⟨_, rfl, hge, Nat.le_refl _⟩
end
end Go.Proofs.YthmhobnhladhbaaDoor.AM
