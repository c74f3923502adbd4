/- The abstract machine, part 10: variables, stores, structs, slices' literals, conversions. -/
import Derived.Test.YthmhobnhladhbaaDoorAm9
namespace Go.Proofs.YthmhobnhladhbaaDoor.AM
open Go Go.RowKit
set_option linter.unusedSimpArgs false
set_option linter.unusedVariables false

section
variable {P : Program} {L : Tys} {g : Glob} {B : Nat → Prop} {w0 : World} {I0 : Nat → Prop} {E : Env} {R : Type} {r : R}
variable {k : AV → AHeap → Option (Nat → Bool) → Option R}

theorem e_alloc (hS : St g B w0 I0 E) (hL : TysOk P L) {t : TypeId} (h : (match tyAt L t with
    | some y => cnd (Nat.beq (zeroCells y).length y.size && Nat.blt 0 y.size && onesA (zeroCells y)) (k (.ptr E.H.length 0 0) (E.H ++ [some ⟨t, y.size, 1, .box (zeroCells y), false, true, true, false⟩]) none) none
    | none => none) = some r) : Nxt P g B w0 I0 E (do pure (Next.value (← Instr.alloc t true (.tuple #[])))) k r := by
  split at h
  · rename_i y hy
    obtain ⟨hc, h⟩ := cond_some h
    simp only [Bool.and_eq_true] at hc
    have h1 : (zeroCells y).length = y.size := Nat.eq_of_beq_eq_true hc.1.1
    have h2 : 0 < y.size := by have := Nat.le_of_ble_eq_true hc.1.2; omega
    obtain ⟨E', hS', hx, hH, hw, hv⟩ := st_newVar hS (t := t) (W := ⟨t, y.size, 1, .box (zeroCells y), false, true, true, false⟩) (v := y.zero) (cs := zeroCells y) rfl rfl rfl h1.symm h2 (by simpa [rowT] using zero_ok (E := E) (y := y)) (LR_ones hc.2 (zero_ok (E := E) (y := y)))
    refine ⟨_, _, E', none, hS', hx, hv, by rw [hH]; exact h, .inl (run_val ?_)⟩
    unfold Instr.alloc
    rw [Sem.run_bind, run_zeroValue (hL t y hy)]
    simp only [Result.andThen_ok, Sem.run_bind, run_newVar, Sem.run_pure, hw]
  · exact none_ne h

theorem e_box (hS : St g B w0 I0 E) (hL : TysOk P L) {t : TypeId} {x : AV} {vx : Value} (h : (match tyAt L t with
    | some y => cnd (Nat.beq (cellsOf x).length y.size && Nat.blt 0 y.size && okA x) (k (.ptr E.H.length 0 0) (E.H ++ [some ⟨t, y.size, 1, .box (cellsOf x), false, puresA (cellsOf x), true, false⟩]) none) none
    | none => none) = some r) (hx : E.V x vx) : Nxt P g B w0 I0 E (do pure (Next.value (← Instr.box t vx))) k r := by
  split at h
  · rename_i y hy
    obtain ⟨hc, h⟩ := cond_some h
    simp only [Bool.and_eq_true] at hc
    have h1 : (cellsOf x).length = y.size := Nat.eq_of_beq_eq_true hc.1.1
    have h2 : 0 < y.size := by have := Nat.le_of_ble_eq_true hc.1.2; omega
    obtain ⟨hcs, hone⟩ := cells_ok hc.2 hx
    obtain ⟨E', hS', hxt, hH, hw, hv⟩ := st_newVar hS (t := t) (W := ⟨t, y.size, 1, .box (cellsOf x), false, puresA (cellsOf x), true, false⟩) (v := vx) (cs := cellsOf x) rfl rfl rfl h1.symm h2 (by
      unfold rowT
      simp only
      split
      · rename_i hp
        refine LR_mk (LR_len hcs) fun j u v hu hv => ?_
        obtain ⟨v', hv', hr⟩ := LR_get hcs j u hu
        rw [hv] at hv'; cases hv'
        exact VR_pure (puresA_get hp u (List.mem_of_getElem? hu)) hr
      · exact hcs) hone
    refine ⟨_, _, E', none, hS', hxt, hv, by rw [hH]; exact h, .inl (run_val ?_)⟩
    simp only [Instr.box, Sem.run_bind, run_newVar, Result.andThen_ok, Sem.run_pure, hw]
  · exact none_ne h

theorem e_ghost (hS : St g B w0 I0 E) {ye : Ty} {e : TypeId} (h : k (.sl E.H.length 0) (E.H ++ [some ⟨e, ye.size, 0, zeroEx L e ye, true, true, false, false⟩]) none = some r) :
    Nxt P g B w0 I0 E (pure (Next.value (.slice none 0 0))) k r := by
  obtain ⟨h1, h2⟩ := hS.ghost (W := ⟨e, ye.size, 0, zeroEx L e ye, true, true, false, false⟩) [] rfl rfl rfl (fun l _ hp => (by cases hp)) (fun _ hp => (by cases hp))
  refine ⟨_, .slice none 0 0, _, none, h1, h2, ?_, h, .inl rfl⟩
  simp only [Env.V, VR]
  refine ⟨⟨ye.size, by simp [tab]⟩, ?_⟩
  rw [upd_same]
  simp

theorem putA_len {l xs : List AV} {j : Nat} (h : j + xs.length ≤ l.length) : (putA l j xs).length = l.length := by simp [putA]; omega
theorem putA_get {l xs : List AV} {j : Nat} (h : j + xs.length ≤ l.length) (q : Nat) : (putA l j xs)[q]? = if j ≤ q ∧ q < j + xs.length then xs[q - j]? else l[q]? := by
  unfold putA
  by_cases h1 : q < j
  · rw [if_neg (by omega), List.append_assoc, List.getElem?_append_left (by simp; omega), List.getElem?_take, if_pos h1]
  · rw [List.append_assoc, List.getElem?_append_right (by simp; omega)]
    simp only [List.length_take, Nat.min_eq_left (by omega : j ≤ l.length)]
    by_cases h2 : q < j + xs.length
    · rw [if_pos ⟨by omega, h2⟩, List.getElem?_append_left (by omega)]
    · rw [if_neg (by omega), List.getElem?_append_right (by omega), List.getElem?_drop]
      congr 1; omega

theorem e_store (hS : St g B w0 I0 E) (hL : TysOk P L) {t : TypeId} {x y : AV} {vx vy : Value} (h : (match tyAt L t with
    | some ty => match x with
      | .ptr r' i j => match E.H[r']? with
        | some (some W) => cnd (Nat.beq (cellsOf y).length ty.size && okA y && Nat.ble (j + (cellsOf y).length) W.k) (k (.b undef) (E.H.set r' (some (storeRow W i j (cellsOf y)))) none) none
        | _ => none
      | _ => none
    | none => none) = some r) (hx : E.V x vx) (hy : E.V y vy) : Nxt P g B w0 I0 E (do Instr.storeAt t vx vy; pure Next.skip) k r := by
  revert hx
  split at h
  · rename_i ty hty
    split at h
    · rename_i r' i j
      intro hx
      split at h
      · rename_i W hW
        obtain ⟨hc, h⟩ := cond_some h
        simp only [Bool.and_eq_true] at hc
        have h1 : (cellsOf y).length = ty.size := Nat.eq_of_beq_eq_true hc.1.1
        have h2 : j + (cellsOf y).length ≤ W.k := Nat.le_of_ble_eq_true hc.2
        simp only [Env.V, VR] at hx
        obtain ⟨kk, n, hT, hi, hj, hal, rfl⟩ := hx
        obtain ⟨rfl, rfl⟩ := row_of hW hT
        obtain ⟨hcs, hone⟩ := cells_ok hc.1.2 hy
        have hlen : (cellsOf y).length = vy.cells.toList.length := LR_len hcs
        have hk0 := hS.rows r' W hW
        obtain ⟨k1, k2, k3, arr, fz, k4, k5, k6, k6', k7⟩ := hk0.mem hal
        have hcap : i * W.k + W.k ≤ arr.size := by
          rw [k5]
          have := Nat.mul_le_mul_right W.k (show i + 1 ≤ (E.m r').cap by omega)
          rwa [Nat.succ_mul] at this
        obtain ⟨arr', w', hrun, hw', ho1, ho2, ho3, hsz, hget⟩ := run_storeCells' (P := P) (o := i * W.k + j) vy.cells.toList 0 E.w arr k4 (by omega) k6 hone
        have hels : ∀ q, q < W.n → (storeRow W i j (cellsOf y)).els q = if q = i then putA (W.els i) j (cellsOf y) else W.els q := fun q hq => by
          rw [storeRow_els]
          cases hb : W.box with
          | false =>
            simp only [cnd_false]
            by_cases hqi : q = i
            · rw [if_pos ⟨hqi, hq⟩, if_pos hqi]
            · rw [if_neg (fun hh => hqi hh.1), if_neg hqi]
          | true =>
            simp only [cnd_true]
            by_cases hqi : q = i
            · rw [if_pos hqi]
            · have := hk0.bx hb; omega
        have hpf : ∀ {x : AV} {v : Value}, x ∈ cellsOf y → E.V x v → VR E.w E.I E.m (rowT (storeRow W i j (cellsOf y)) (tab E.H)) x v := fun {x v} hm hv => by
          unfold rowT storeRow
          simp only
          split
          · rename_i hp
            rw [Bool.and_eq_true] at hp
            exact VR_pure (puresA_get hp.2 x hm) hv
          · exact hv
        have hold : ∀ {x : AV} {v : Value}, VR E.w E.I E.m (rowT W (tab E.H)) x v → VR E.w E.I E.m (rowT (storeRow W i j (cellsOf y)) (tab E.H)) x v := fun {x v} hv => by
          unfold rowT storeRow at *
          simp only
          split
          · rename_i hp
            rw [Bool.and_eq_true] at hp
            rw [if_pos hp.1] at hv
            exact hv
          · split at hv
            · exact VR_noTab hv
            · exact hv
        obtain ⟨s1, s2⟩ := hS.set hW hal (W' := storeRow W i j (cellsOf y)) rfl rfl rfl rfl rfl rfl (by omega) (fun q hq => by
          rw [hels q hq]
          split
          · rw [putA_len (by rw [hk0.len i hi]; exact h2)]; exact hk0.len i hi
          · exact hk0.len q hq) k4 hsz (fun q hq c z hz => by
          have hq' : q < W.n := hq
          show ∃ v, arr'[q * W.k + c]? = some v ∧ _
          rw [hels q hq'] at hz
          by_cases hqi : q = i
          · subst hqi
            rw [if_pos rfl, putA_get (by rw [hk0.len q hi]; exact h2)] at hz
            split at hz
            · rename_i hr
              obtain ⟨v, hv, hzv⟩ := LR_get hcs _ z hz
              refine ⟨v, ?_, hpf (List.mem_of_getElem? hz) hzv, hone v (List.mem_of_getElem? hv)⟩
              rw [hget, if_pos (by omega), ← hv]
              congr 1; omega
            · rename_i hr
              obtain ⟨v, hv, hzv, hz1⟩ := k7 q hq' c z hz
              refine ⟨v, ?_, hold hzv, hz1⟩
              rw [hget, if_neg (by omega)]
              exact hv
          · rw [if_neg hqi] at hz
            obtain ⟨v, hv, hzv, hz1⟩ := k7 q hq' c z hz
            refine ⟨v, ?_, hold hzv, hz1⟩
            have hc : c < W.k := by
              have := (List.getElem?_eq_some_iff.1 hz).1
              rwa [hk0.len q hq'] at this
            rw [hget, if_neg ?_]
            · exact hv
            · intro hh
              rcases Nat.lt_or_ge q i with hlt | hge
              · have := Nat.mul_le_mul_right W.k (show q + 1 ≤ i by omega)
                rw [Nat.succ_mul] at this
                omega
              · have := Nat.mul_le_mul_right W.k (show i + 1 ≤ q by omega)
                rw [Nat.succ_mul] at this
                omega) hw' ho1 ho2 ho3
        refine ⟨.b undef, undef, _, none, s1, s2, V_b.2 rfl, h, .inr ⟨rfl, ?_⟩⟩
        have hsize : vy.cells.size = ty.size := by rw [← Array.length_toList, ← hlen, h1]
        simp only [Instr.storeAt, Instr.sureAddr, storeVar, Sem.run_bind, Sem.run_pure, Result.andThen_ok, run_sizeOf' (hL t ty hty)]
        simp only [hsize, ne_eq, not_true_eq_false, if_false, hrun, Result.andThen_ok, Sem.run_pure]
      · exact none_ne h
    · intros; contradiction
  · exact none_ne h
end
end Go.Proofs.YthmhobnhladhbaaDoor.AM
