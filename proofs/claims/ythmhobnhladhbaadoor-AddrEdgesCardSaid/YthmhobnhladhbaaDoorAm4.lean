/- The abstract machine, part 4: addresses, parts, slices, lengths; and all operations that change no memory in one statement. -/
import Derived.Test.YthmhobnhladhbaaDoorAm3
namespace Go.Proofs.YthmhobnhladhbaaDoor.AM
open Go Go.RowKit
set_option linter.unusedSimpArgs false
set_option linter.unusedVariables false

section
variable {P : Program} {L : Tys} {B : Nat → Prop} {E : Env} {C : World → Prop} {R : Type} {k : AV → Option R} {r : R}

theorem cond_some {c : Bool} {x : Option R} (h : cnd c x none = some r) : c = true ∧ x = some r := by
  cases c
  · cases h
  · exact ⟨rfl, h⟩
theorem if_some {c : Prop} [Decidable c] {x : Option R} (h : (if c then x else none) = some r) : c ∧ x = some r := by
  split at h
  · exact ⟨‹_›, h⟩
  · cases h

theorem row_of {r' kk n : Nat} {W : Row} (hW : E.H[r']? = some (some W)) (hT : tab E.H r' = some (kk, n)) : kk = W.k ∧ n = W.n := by
  simp only [tab, hW] at hT; cases hT; exact ⟨rfl, rfl⟩

theorem run_fieldPlace {t : TypeId} {yf : Ty} (hy : TyOk P t yf) (hs : 0 < yf.size) (a : Addr) (fd : Field) (hf : fd.type = t) (w : World) : (fieldPlace a fd).run P w = .ok (a.add fd.offset) w := by
  unfold fieldPlace
  rw [hf, Sem.run_bind, run_sizeOf' hy]
  simp [Nat.ne_of_gt hs]

theorem y_fieldAddr (hL : TysOk P L) {ev : Operand → AV} {ρ : Operand → Value} (hρ : ∀ x, E.V (ev x) (ρ x)) {s : TypeId} {x : Operand} {f : Nat}
    (h : opP L E.H ev (.fieldAddr s x f) k = some r) : Yields P E C k r (Instr.fieldAt s (ρ x) f) := by
  simp only [opP] at h
  have hx := hρ x
  split at h
  · rename_i y hy
    split at h
    · rename_i fs hu
      split at h
      · rename_i fd hfd
        split at h
        · rename_i yf hyf
          obtain ⟨hsz, h⟩ := cond_some h
          have hsz' : 0 < yf.size := by have := Nat.le_of_ble_eq_true hsz; omega
          have hu' : P.underlying s = some (.struct fs) := by rw [(hL s y hy).und, hu]
          split at h
          · rename_i r' i j he
            rw [he] at hx
            simp only [Env.V, VR] at hx
            obtain ⟨kk, n, hT, hi, hj, hal, hv⟩ := hx
            split at h
            · rename_i W hW
              obtain ⟨rfl, rfl⟩ := row_of hW hT
              obtain ⟨hk, h⟩ := cond_some h
              have hk' : j + fd.offset < W.k := by have := Nat.le_of_ble_eq_true hk; omega
              refine .now h (v := .pointer (some ⟨(E.m r').blk, i * W.k + (j + fd.offset), none⟩)) ?_ fun w => ?_
              · simp only [Env.V, VR]; exact ⟨_, _, hT, hi, hk', hal, rfl⟩
              · unfold Instr.fieldAt
                simp only [Sem.run_bind, run_underlying hu', Result.andThen_ok, hfd, hv, Instr.sureAddr, Sem.run_pure, run_fieldPlace (hL _ yf hyf) hsz' _ fd rfl, addr_add]
                rw [Nat.add_assoc]
            · exact none_ne h
          · rename_i l he
            rw [he] at hx
            simp only [Env.V, VR] at hx
            obtain ⟨a, hv, hs, hb, hc⟩ := hx
            refine .now h (v := .pointer (some (a.add fd.offset))) ?_ fun w => ?_
            · simp only [Env.V, VR]
              refine ⟨a.add fd.offset, rfl, by rw [addr_add' hs], by rw [addr_add' hs]; exact hb, CR_mk fun j x hx => ?_⟩
              rw [List.getElem?_drop] at hx
              have := CR_get hc _ x hx
              rw [add_add hs]
              rwa [Nat.zero_add] at this ⊢
            · unfold Instr.fieldAt
              simp only [Sem.run_bind, run_underlying hu', Result.andThen_ok, hfd, hv, Instr.sureAddr, Sem.run_pure, run_fieldPlace (hL _ yf hyf) hsz' _ fd rfl]
          · exact none_ne h
        · exact none_ne h
      · exact none_ne h
    · exact none_ne h
  · exact none_ne h

theorem y_field (hL : TysOk P L) {ev : Operand → AV} {ρ : Operand → Value} (hρ : ∀ x, E.V (ev x) (ρ x)) {t : TypeId} {x : Operand} {f : Nat}
    (h : opP L E.H ev (.field t x f) k = some r) : Yields P E C k r (Instr.field t (ρ x) f) := by
  simp only [opP] at h
  have hx := hρ x
  split at h
  · rename_i y hy
    split at h
    · rename_i fs hu
      have hu' : P.underlying t = some (.struct fs) := by rw [(hL t y hy).und, hu]
      split at h
      · rename_i fd hfd
        split at h
        · rename_i yf l hyf he
          rw [he] at hx
          simp only [Env.V, VR] at hx
          obtain ⟨a, hv, hl⟩ := hx
          obtain ⟨av, v, hk, hV, hrun⟩ := run_part (hL _ yf hyf) (E := E) hl h
          refine .now hk hV fun w => ?_
          unfold Instr.field
          simp only [Sem.run_bind, run_underlying hu', Result.andThen_ok, hfd, hv, asAgg, Sem.run_pure]
          exact hrun w
        · exact none_ne h
      · exact none_ne h
    · exact none_ne h
  · exact none_ne h

theorem y_indexAddr (hL : TysOk P L) (hR : Rows B E) (hI : ∀ b, E.I b → b < E.w.heap.size) {ev : Operand → AV} {ρ : Operand → Value} (hρ : ∀ x, E.V (ev x) (ρ x)) {t : TypeId} {x ix : Operand}
    (h : opP L E.H ev (.indexAddr t x ix) k = some r) : Yields P E C k r (Instr.indexAt t (ρ x) (ρ ix)) := by
  simp only [opP] at h
  have hx := hρ x
  have hix := hρ ix
  split at h
  · rename_i _ y ki i hy hei
    rw [hei, V_b] at hix
    split at h
    · rename_i e hu
      have hu' : P.underlying t = some (.slice e) := by rw [(hL t y hy).und, hu]
      split at h
      · rename_i ye hye
        split at h
        · rename_i r' n he
          rw [he] at hx
          simp only [Env.V, VR] at hx
          obtain ⟨⟨kk, hT⟩, hx⟩ := hx
          split at h
          · rename_i W hW
            obtain ⟨rfl, rfl⟩ := row_of hW hT
            obtain ⟨hc, h⟩ := cond_some h
            obtain ⟨⟨h0, hn⟩, h⟩ := if_some h
            rw [Bool.and_eq_true] at hc
            have hsz : ye.size = W.k := Nat.eq_of_beq_eq_true hc.1
            have hkp : 0 < W.k := by have := Nat.le_of_ble_eq_true hc.2; omega
            have hlt : i.toNat < W.n := by omega
            have hal := (hR r' W hW).al (.inl (by omega))
            rw [if_pos hal] at hx
            obtain ⟨c, hv, _, _⟩ := hx
            refine .now h (v := .pointer (some ⟨(E.m r').blk, i.toNat * W.k + 0, none⟩)) ?_ fun w => ?_
            · simp only [Env.V, VR]; exact ⟨_, _, hT, hlt, hkp, hal, rfl⟩
            · unfold Instr.indexAt
              simp [hix, hv, asIntOf, run_underlying hu', h0, hn, run_sizeOf' (hL _ ye hye), addr_add, hsz]
          · exact none_ne h
        · rename_i τ n els he
          rw [he] at hx
          rw [Env.V, VR_snap] at hx
          obtain ⟨A, c, hv, hnc, hx⟩ := hx
          obtain ⟨hc, h⟩ := cond_some h
          obtain ⟨⟨h0, hn⟩, h⟩ := if_some h
          have hsz : ye.size = τ.size := Nat.eq_of_beq_eq_true hc
          have hlt : i.toNat < n := by omega
          obtain ⟨a, rfl, hs, hb, hall⟩ := hx (by omega)
          refine .now h (v := .pointer (some (a.add (i.toNat * τ.size)))) ?_ fun w => ?_
          · simp only [Env.V, VR]
            refine ⟨a.add (i.toNat * τ.size), rfl, by rw [addr_add' hs], by rw [addr_add' hs]; exact hb, CR_mk fun j x hx => ?_⟩
            have := CR_get (hall _ hlt).2 j x hx
            rw [add_add hs, Nat.zero_add]
            exact this
          · unfold Instr.indexAt
            simp [hix, hv, asIntOf, run_underlying hu', h0, hn, run_sizeOf' (hL _ ye hye), hsz]
        · exact none_ne h
      · exact none_ne h
    · rename_i n e hu
      have hu' : P.underlying t = some (.array n e) := by rw [(hL t y hy).und, hu]
      split at h
      · rename_i ye hye
        split at h
        · rename_i r' q j he
          rw [he] at hx
          simp only [Env.V, VR] at hx
          obtain ⟨kk, nn, hT, hi, hj, hal, hv⟩ := hx
          split at h
          · rename_i W hW
            obtain ⟨rfl, rfl⟩ := row_of hW hT
            obtain ⟨hc, h⟩ := cond_some h
            obtain ⟨⟨h0, hn⟩, h⟩ := if_some h
            rw [Bool.and_eq_true] at hc
            have hle : j + n * ye.size ≤ W.k := Nat.le_of_ble_eq_true hc.1
            have hkp : 0 < ye.size := by have := Nat.le_of_ble_eq_true hc.2; omega
            have hlt : i.toNat < n := by omega
            have hlt2 : i.toNat * ye.size + ye.size ≤ n * ye.size := by
              have := Nat.mul_le_mul_right ye.size hlt
              rwa [Nat.succ_mul] at this
            refine .now h (v := .pointer (some ⟨(E.m r').blk, q * W.k + (j + i.toNat * ye.size), none⟩)) ?_ fun w => ?_
            · simp only [Env.V, VR]; exact ⟨_, _, hT, hi, by omega, hal, rfl⟩
            · unfold Instr.indexAt
              simp [hix, hv, asIntOf, run_underlying hu', h0, hn, run_sizeOf' (hL _ ye hye), addr_add, Instr.sureAddr, Nat.add_assoc]
          · exact none_ne h
        · rename_i l he
          rw [he] at hx
          simp only [Env.V, VR] at hx
          obtain ⟨a, hv, hs, hb, hc⟩ := hx
          obtain ⟨⟨h0, hn⟩, h⟩ := if_some h
          refine .now h (v := .pointer (some (a.add (i.toNat * ye.size)))) ?_ fun w => ?_
          · simp only [Env.V, VR]
            refine ⟨a.add (i.toNat * ye.size), rfl, by rw [addr_add' hs], by rw [addr_add' hs]; exact hb, CR_mk fun j x hx => ?_⟩
            rw [List.getElem?_drop] at hx
            have := CR_get hc _ x hx
            rw [add_add hs]
            rwa [Nat.zero_add] at this ⊢
          · unfold Instr.indexAt
            simp [hix, hv, asIntOf, run_underlying hu', h0, hn, run_sizeOf' (hL _ ye hye), Instr.sureAddr]
        · exact none_ne h
      · exact none_ne h
    · exact none_ne h
  · exact none_ne h

theorem y_index (hL : TysOk P L) {ev : Operand → AV} {ρ : Operand → Value} (hρ : ∀ x, E.V (ev x) (ρ x)) {t : TypeId} {x ix : Operand}
    (h : opP L E.H ev (.index t x ix) k = some r) : Yields P E C k r (Instr.index t (ρ x) (ρ ix)) := by
  simp only [opP] at h
  have hx := hρ x
  have hix := hρ ix
  split at h
  · rename_i _ _ y s ki i hy he hei
    rw [hei, V_b] at hix
    rw [he, V_b] at hx
    split at h
    · rename_i hu
      have hu' : P.underlying t = some .string := by rw [(hL t y hy).und, hu]
      obtain ⟨⟨h0, hn⟩, h⟩ := if_some h
      have hlt : i.toNat < s.size := by omega
      refine .now h (V_b.2 rfl) fun w => ?_
      unfold Instr.index
      simp [hix, hx, asIntOf, run_underlying hu', h0, bt, hlt]
    · exact none_ne h
  · rename_i _ _ y l ki i hy he hei
    rw [hei, V_b] at hix
    rw [he] at hx
    simp only [Env.V, VR] at hx
    obtain ⟨a, hv, hl⟩ := hx
    split at h
    · rename_i n e hu
      have hu' : P.underlying t = some (.array n e) := by rw [(hL t y hy).und, hu]
      split at h
      · rename_i ye hye
        obtain ⟨hc, h⟩ := cond_some h
        rw [Bool.and_eq_true] at hc
        have hlen : l.length = n * ye.size := Nat.eq_of_beq_eq_true hc.1
        have hkp : 0 < ye.size := by have := Nat.le_of_ble_eq_true hc.2; omega
        obtain ⟨⟨h0, hn⟩, h⟩ := if_some h
        have hlt : i.toNat < n := by omega
        have hlt2 : i.toNat * ye.size + ye.size ≤ n * ye.size := by
          have := Nat.mul_le_mul_right ye.size hlt
          rwa [Nat.succ_mul] at this
        have hp : partA ye l (i.toNat * ye.size) k = some r := by
          unfold partA
          cases hag : isAggU ye.u with
          | true =>
            rw [hag] at h
            simp only [cnd_true] at h ⊢
            rw [show Nat.ble (i.toNat * ye.size + ye.size) l.length = true from Nat.ble_eq_true_of_le (by omega)]
            exact h
          | false =>
            rw [hag] at h
            simp only [cnd_false] at h ⊢
            obtain ⟨h1, h⟩ := cond_some h
            have h1' : ye.size = 1 := Nat.eq_of_beq_eq_true h1
            rw [h1', Nat.mul_one] at hlt2 ⊢
            have hil : i.toNat < l.length := by rw [hlen, h1']; omega
            rw [show Nat.blt i.toNat l.length = true from Nat.ble_eq_true_of_le hil]
            simp only [cnd_true]
            split at h
            · rename_i τ _
              cases hfl : flatC τ with
              | false => rw [hfl] at h; exact h
              | true =>
              rw [hfl] at h
              simp only [cnd_true] at h
              split at h
              · rename_i ys hys
                have hd := decAll_ok hys
                have hlen2 : ys.length = l.length := by
                  have := congrArg List.length hd
                  simpa using this.symm
                have hget := congrArg (fun q => q[i.toNat]?) hd
                simp only [List.getElem?_map, List.getElem?_eq_getElem hil, List.getElem?_eq_getElem (show i.toNat < ys.length by omega), Option.map_some, Option.some.injEq] at hget
                have hlx : l.getD i.toNat .top = l[i.toNat] := by rw [List.getD_eq_getElem?_getD, List.getElem?_eq_getElem hil]; rfl
                have hyx : ys.getD i.toNat (zeroEl τ) = ys[i.toNat]'(by omega) := by rw [List.getD_eq_getElem?_getD, List.getElem?_eq_getElem (show i.toNat < ys.length by omega)]; rfl
                rw [hyx, cel_one hfl hget.symm] at h
                rw [hlx]
                exact h
              · exact h
            · exact h
        obtain ⟨av, v, hk, hV, hrun⟩ := run_part (hL _ ye hye) (E := E) hl hp
        refine .now hk hV fun w => ?_
        unfold Instr.index
        simp [hix, hv, asIntOf, run_underlying hu', h0, hn, run_sizeOf' (hL _ ye hye), hrun w]
      · exact none_ne h
    · exact none_ne h
  · exact none_ne h

/-- Slice bounds. -/
theorem run_bounds {n c : Nat} {lo hi : Option AV} {vlo vhi : Option Value} {kk : Int → Int → Option R} {b : Bool} (hnc : n ≤ c) (hb : b = true ∨ c = n)
    (hlo : ∀ x, lo = some x → ∃ v, vlo = some v ∧ E.V x v) (hlo' : lo = none → vlo = none) (hhi : ∀ x, hi = some x → ∃ v, vhi = some v ∧ E.V x v) (hhi' : hi = none → vhi = none)
    (h : bndA n lo hi kk = some r) : ∃ l q : Nat, l ≤ q ∧ q ≤ n ∧ kk l q = some r ∧ ∀ w, (Instr.sliceBounds b n c vlo vhi none).run P w = .ok (l, q, c) w := by
  unfold bndA at h
  have sb : ∀ (ki : IntKind) (i : Int) (y : Nat) (code : BoundsCode) (w : World), 0 ≤ i → i ≤ y → (Instr.sliceBound (.int ki i) y code).run P w = .ok i.toNat w := fun ki i y code w h0 h1 => by
    unfold Instr.sliceBound
    simp [asIntOf, h0, h1]
  split at h
  · rw [hlo' rfl, hhi' rfl]
    exact ⟨0, n, Nat.zero_le _, Nat.le_refl _, h, fun w => by simp [Instr.sliceBounds]⟩
  · rename_i ki i
    obtain ⟨⟨h0, h1⟩, h⟩ := if_some h
    rw [hlo' rfl]
    obtain ⟨v, rfl, hv⟩ := hhi _ rfl
    rw [V_b] at hv
    subst hv
    refine ⟨0, i.toNat, Nat.zero_le _, by omega, by rw [Int.toNat_of_nonneg h0]; exact h, fun w => ?_⟩
    simp [Instr.sliceBounds, sb ki i c _ w h0 (by omega)]
  · rename_i ki i
    obtain ⟨⟨h0, h1⟩, h⟩ := if_some h
    rw [hhi' rfl]
    obtain ⟨v, rfl, hv⟩ := hlo _ rfl
    rw [V_b] at hv
    subst hv
    refine ⟨i.toNat, n, by omega, Nat.le_refl _, by rw [Int.toNat_of_nonneg h0]; exact h, fun w => ?_⟩
    simp [Instr.sliceBounds, sb ki i n _ w h0 (by omega)]
  · rename_i ki i kj j
    obtain ⟨⟨h0, h1⟩, h⟩ := if_some h
    obtain ⟨⟨h2, h3⟩, h⟩ := if_some h
    obtain ⟨v, rfl, hv⟩ := hlo _ rfl
    rw [V_b] at hv
    subst hv
    obtain ⟨v, rfl, hv⟩ := hhi _ rfl
    rw [V_b] at hv
    subst hv
    refine ⟨i.toNat, j.toNat, by omega, by omega, by rw [Int.toNat_of_nonneg h0, Int.toNat_of_nonneg h2]; exact h, fun w => ?_⟩
    simp [Instr.sliceBounds, sb kj j c _ w h0 (by omega), sb ki i j.toNat _ w h2 (by omega)]
  · exact none_ne h

theorem opt_ev {ev : Operand → AV} {ρ : Operand → Value} (hρ : ∀ x, E.V (ev x) (ρ x)) (o : Option Operand) : (∀ x, o.map ev = some x → ∃ v, o.map ρ = some v ∧ E.V x v) ∧ (o.map ev = none → o.map ρ = none) := by
  cases o with
  | none => exact ⟨fun x h => (by cases h), fun _ => rfl⟩
  | some y => exact ⟨fun x h => ⟨ρ y, rfl, (by cases h; exact hρ y)⟩, fun h => (by cases h)⟩

theorem y_slice (hL : TysOk P L) {ev : Operand → AV} {ρ : Operand → Value} (hρ : ∀ x, E.V (ev x) (ρ x)) {t : TypeId} {x : Operand} {lo hi : Option Operand}
    (h : opP L E.H ev (.slice t x lo hi none) k = some r) : Yields P E C k r (Instr.sliceAt t (ρ x) (lo.map ρ) (hi.map ρ) none) := by
  simp only [opP] at h
  have hx := hρ x
  obtain ⟨hlo, hlo'⟩ := opt_ev hρ lo
  obtain ⟨hhi, hhi'⟩ := opt_ev hρ hi
  split at h
  · rename_i _ y s hy he
    rw [he, V_b] at hx
    split at h
    · rename_i hu
      have hu' : P.underlying t = some .string := by rw [(hL t y hy).und, hu]
      obtain ⟨l, q, hlq, hqn, h, hrun⟩ := run_bounds (P := P) (b := false) (Nat.le_refl s.size) (.inr rfl) hlo hlo' hhi hhi' h
      refine .now h (V_b.2 rfl) fun w => ?_
      unfold Instr.sliceAt
      simp only [Sem.run_bind, run_underlying hu', Result.andThen_ok, Instr.slice, hx, hrun w]
      simp [hrun w]
    · exact none_ne h
  · rename_i _ y τ n els hy he
    rw [he] at hx
    rw [Env.V, VR_snap] at hx
    obtain ⟨A, c, hv, hnc, hx⟩ := hx
    split at h
    · rename_i e hu
      have hu' : P.underlying t = some (.slice e) := by rw [(hL t y hy).und, hu]
      split at h
      · rename_i ye hye
        obtain ⟨hc, h⟩ := cond_some h
        rw [Bool.and_eq_true] at hc
        have hsz : ye.size = τ.size := Nat.eq_of_beq_eq_true hc.1
        obtain ⟨l, g, hlg, hgn, h, hrun⟩ := run_bounds (P := P) (b := true) hnc (.inl rfl) hlo hlo' hhi hhi' h
        simp only [Int.toNat_natCast] at h
        refine .now h (v := .slice (if c = l then A else A.map (·.add (l * τ.size))) (g - l) (c - l)) ?_ fun w => ?_
        · rw [Env.V, VR_snap]
          refine ⟨_, _, rfl, by omega, fun hp => ?_⟩
          obtain ⟨a, rfl, hs, hb, hall⟩ := hx (by omega)
          rw [if_neg (by omega)]
          refine ⟨a.add (l * τ.size), rfl, by rw [addr_add' hs], by rw [addr_add' hs]; exact hb, fun i hi => ?_⟩
          obtain ⟨h1, h2⟩ := hall (l + i) (by omega)
          refine ⟨h1, CR_mk fun j x hx => ?_⟩
          have := CR_get h2 j x hx
          rw [add_add hs]
          rwa [show l * τ.size + (i * τ.size + j) = (l + i) * τ.size + j by rw [Nat.add_mul, Nat.add_assoc]]
        · unfold Instr.sliceAt
          simp only [Sem.run_bind, run_underlying hu', Result.andThen_ok, Instr.slice, hv, hrun w]
          simp [run_sizeOf' (hL _ ye hye), hsz]
      · exact none_ne h
    · exact none_ne h
  · exact none_ne h

theorem y_len (hL : TysOk P L) {x : AV} {vx : Value} {t : TypeId} {ts : Array TypeId} {vs : Array Value} {ty : TypeId} (ht : ts[0]? = some t) (hvs : vs[0]? = some vx) (hx : E.V x vx)
    (h : (match tyAt L t, some x with
      | some y, some (.b (.string s)) => match y.u with
        | .string => k (.b (.int .i64 (s.size : Int)))
        | _ => none
      | some y, some (.snap _ n _) => match y.u with
        | .slice _ => k (.b (.int .i64 (n : Int)))
        | _ => none
      | some y, some (.sl _ n) => match y.u with
        | .slice _ => k (.b (.int .i64 (n : Int)))
        | _ => none
      | some y, some (.b (.slice none n _)) => match y.u with
        | .slice _ => k (.b (.int .i64 (n : Int)))
        | _ => none
      | _, _ => none) = some r) : Yields P E C k r (Builtin.len_ ts ty vs) := by
  have len_slice : ∀ {y : Ty} {e : TypeId} (A : Option Addr) (n c : Nat), tyAt L t = some y → y.u = .slice e → ∀ w, vx = .slice A n c → (Builtin.len_ ts ty vs).run P w = .ok (.int .i64 (n : Int)) w := fun A n c hy hu w hv => by
    have hu' := (hL t _ hy).und
    rw [hu] at hu'
    unfold Builtin.len_
    simp [ht, hvs, hv, run_underlying hu', goInt]
  split at h
  · rename_i y s hy he
    cases he
    rw [V_b] at hx
    split at h
    · rename_i hu
      have hu' : P.underlying t = some .string := by rw [(hL t y hy).und, hu]
      refine .now h (V_b.2 rfl) fun w => ?_
      unfold Builtin.len_
      simp [ht, hvs, hx, run_underlying hu', goInt]
    · exact none_ne h
  · rename_i y _ n _ hy he
    cases he
    rw [Env.V, VR_snap] at hx
    obtain ⟨A, c, hv, _⟩ := hx
    split at h
    · rename_i hu
      exact .now h (V_b.2 rfl) fun w => len_slice A n c hy hu w hv
    · exact none_ne h
  · rename_i y _ n hy he
    cases he
    simp only [Env.V, VR] at hx
    obtain ⟨_, hx⟩ := hx
    split at h
    · rename_i hu
      split at hx
      · obtain ⟨c, hv, _⟩ := hx
        exact .now h (V_b.2 rfl) fun w => len_slice _ n c hy hu w hv
      · obtain ⟨hv, hn⟩ := hx
        subst hn
        exact .now h (V_b.2 rfl) fun w => len_slice none 0 0 hy hu w hv
    · exact none_ne h
  · rename_i y n c hy he
    cases he
    rw [V_b] at hx
    split at h
    · rename_i hu
      exact .now h (V_b.2 rfl) fun w => len_slice none n c hy hu w hx
    · exact none_ne h
  · exact none_ne h
end
end Go.Proofs.YthmhobnhladhbaaDoor.AM
