/- The abstract machine: a live row is told as fixed from here on. -/
import Derived.Test.YthmhobnhladhbaaDoorAm15
namespace Go.Proofs.YthmhobnhladhbaaDoor.AM
open Go Go.RowKit
set_option linter.unusedSimpArgs false
set_option linter.unusedVariables false
section
variable {P : Program} {L : Tys} {g : Glob} {B : Nat → Prop} {w0 : World} {I0 : Nat → Prop} {E : Env}

def frzI (E : Env) (r : Nat) : Nat → Prop := fun x => E.I x ∨ ((E.m r).al = true ∧ x = (E.m r).blk)
def frzH (H : AHeap) (r : Nat) : AHeap := (kdHeap (fun q => !(Nat.beq q r)) H).set r none
theorem St.freeze (h : St g B w0 I0 E) {r : Nat} {W : Row} (hW : E.H[r]? = some (some W)) :
    St g B w0 I0 { E with I := frzI E r, H := frzH E.H r } ∧ Ext (fun q => !(Nat.beq q r)) E { E with I := frzI E r, H := frzH E.H r } := by
  have hrl : r < E.H.length := (List.getElem?_eq_some_iff.1 hW).1
  have hget : ∀ q, (frzH E.H r)[q]? = if q = r then some none else (kdHeap (fun q => !(Nat.beq q r)) E.H)[q]? := fun q => by
    unfold frzH
    rw [List.getElem?_set]
    by_cases hq : q = r
    · subst hq; rw [if_pos rfl, if_pos (by simpa [kdHeap] using hrl), if_pos rfl]
    · rw [if_neg (Ne.symm hq), if_neg hq]
  obtain ⟨s1, s2⟩ := h.cut (D := fun q => !(Nat.beq q r)) (H' := frzH E.H r) (fun q V' hV => by
    rw [hget] at hV
    by_cases hq : q = r
    · rw [if_pos hq] at hV; cases hV
    · rw [if_neg hq, kdHeap_get] at hV
      cases ho : E.H[q]? with
      | none => rw [ho] at hV; cases hV
      | some o => cases o with
        | none => rw [ho] at hV; cases hV
        | some V => rw [ho] at hV; exact ⟨ne_iff.2 hq, V, rfl, by simpa using hV.symm⟩) (fun q V hV hd => by
    have hq := ne_iff.1 hd
    rw [hget, if_neg hq, kdHeap_get, hV]; rfl)
  have hx : Ext allD { E with H := frzH E.H r } { E with I := frzI E r, H := frzH E.H r } := ⟨fun b hb => ⟨.inl hb, rfl⟩, fun q p hp _ => ⟨hp, rfl⟩⟩
  have hk0 := h.rows r W hW
  refine ⟨⟨s1.below, s1.hB, s1.hn, s1.gn, s1.glob, fun b hb => ?_, fun b hb => .inl (s1.imono b hb), fun b hb => ?_, fun q V hV => ?_, s1.inj, s1.gse⟩, ?_⟩
  · rcases hb with hb | ⟨ha, rfl⟩
    · exact s1.isz b hb
    · exact h.lt hW ha
  · rcases hb with hb | ⟨ha, rfl⟩
    · exact s1.ifresh b hb
    · exact .inr (hk0.mem ha).1
  · by_cases ha : (E.m q).al = true
    · refine (s1.rows q V hV).ext hx rfl rfl (fun h1 _ h3 => ?_) (.inr fun _ _ _ _ _ => rf_all _) (fun _ _ _ => rfs_all _)
      rcases h3 with h3 | ⟨ha', h3⟩
      · exact h1 h3
      · have hq : q ≠ r := fun e => by
          have := hget q
          rw [if_pos e] at this
          rw [this] at hV; cases hV
        have hV0 : ∃ V0, E.H[q]? = some (some V0) := by
          have := hget q
          rw [if_neg hq, kdHeap_get] at this
          rw [this] at hV
          cases ho : E.H[q]? with
          | none => rw [ho] at hV; cases hV
          | some o => cases o with
            | none => rw [ho] at hV; cases hV
            | some V0 => exact ⟨V0, rfl⟩
        obtain ⟨V0, hV0⟩ := hV0
        exact hq (h.inj q r V0 W hV0 hW ha ha' h3)
    · exact ⟨fun h1 => absurd ((s1.rows q V hV).al h1) ha, (s1.rows q V hV).len, (s1.rows q V hV).bx, fun l h0 hp hl => hx.L (rfs_all l) ((s1.rows q V hV).gh l h0 hp hl), fun h1 => absurd h1 ha⟩
  · exact ⟨fun b hb => ⟨.inl hb, rfl⟩, fun q p hp hd => s2.t q p hp hd⟩

theorem freeze_val (hS : St g B w0 I0 E) {r n : Nat} {W : Row} (hW : E.H[r]? = some (some W)) {τ : CTy} {xs : Nat → El τ} (hex : W.ex = .typ τ xs) (hp : W.pf = true) (hkk : W.k = τ.size) {v : Value} (h : E.V (.sl r n) v) {T : Tab} :
    VR E.w (frzI E r) E.m T (.snap τ n xs) v := by
  have hels : W.els = fun i => cel τ (xs i) := by unfold Row.els; rw [hex]; rfl
  have hk0 := hS.rows r W hW
  simp only [Env.V, VR] at h
  obtain ⟨⟨kk, hT⟩, h⟩ := h
  obtain ⟨rfl, rfl⟩ := row_of hW hT
  rw [VR_snap, ← hkk]
  split at h
  · rename_i hal
    obtain ⟨c, rfl, hnc, _⟩ := h
    refine ⟨_, c, rfl, hnc, fun h0 => ?_⟩
    obtain ⟨k1, k2, k3, arr, fz, k4, k5, k6, k6', k7⟩ := hk0.mem hal
    rw [hels] at k7
    have hlen := hk0.len
    rw [hels] at hlen
    refine ⟨_, rfl, rfl, .inr ⟨hal, rfl⟩, fun i hi => ⟨hlen i hi, CR_mk fun j x hx => ?_⟩⟩
    obtain ⟨u, a, b, c⟩ := k7 i hi j x hx
    refine ⟨u, ?_, ?_, c⟩
    · rw [addr_add, Nat.zero_add]
      simp [World.cell?, k4, a]
    · unfold rowT at b
      rw [if_pos hp] at b
      exact VR.mono (fun _ => true) (fun b hb => ⟨.inl hb, rfl⟩) x noTab noTab u (fun _ _ hp _ => by simp [noTab] at hp) (.inl rfl) b
  · obtain ⟨rfl, hn⟩ := h
    exact ⟨none, 0, by rw [hn], by omega, fun h0 => by omega⟩
variable {R : Type} {k : AV → AHeap → Option (Nat → Bool) → Option R} {r : R}
/-- An operand's value behind the freezing of row r'. -/
def frzV (r' : Nat) (s : AV) : AV → AV
  | .b v => .b v
  | .sl q _ => cnd (Nat.beq q r') s .top
  | _ => .top
theorem bnd_frz {n r' : Nat} {s : AV} {lo hi : Option AV} {kk : Int → Int → Option R} (h : bndA n lo hi kk = some r) : bndA n (lo.map (frzV r' s)) (hi.map (frzV r' s)) kk = some r := by
  unfold bndA at h
  split at h
  · exact h
  · exact h
  · exact h
  · exact h
  · cases h
theorem e_slice (hS : St g B w0 I0 E) (hL : TysOk P L) {ev : Operand → AV} {ρ : Operand → Value} (hρ : ∀ x, E.V (ev x) (ρ x)) {t : TypeId} {x : Operand} {lo hi : Option Operand} {r' n : Nat} (hx : ev x = .sl r' n) (h : (match tyAt L t, E.H[r']? with
      | some y, some (some W) => match y.u, W.ex with
        | .slice e, .typ τ xs => match tyAt L e with
          | some ye => cnd (W.pf && Nat.beq W.k τ.size && Nat.beq ye.size τ.size && Nat.blt 0 τ.size) (bndA n (lo.map ev) (hi.map ev) fun l h =>
              k (.snap τ (h.toNat - l.toNat) (fun i => xs (l.toNat + i))) ((kdHeap (fun q => !(Nat.beq q r')) E.H).set r' none) (some fun q => !(Nat.beq q r'))) none
          | none => none
        | _, _ => none
      | _, _ => none) = some r) : Nxt P g B w0 I0 E (do pure (Next.value (← Instr.sliceAt t (ρ x) (lo.map ρ) (hi.map ρ) none))) k r := by
  split at h
  · rename_i y W hy hW
    split at h
    · rename_i e τ xs hu hex
      split at h
      · rename_i ye hye
        obtain ⟨hc, h⟩ := cond_some h
        simp only [Bool.and_eq_true] at hc
        obtain ⟨⟨⟨hp, hk⟩, hs1⟩, hs2⟩ := hc
        have hkk : W.k = τ.size := Nat.eq_of_beq_eq_true hk
        obtain ⟨s1, s2⟩ := hS.freeze hW
        have hval : ∀ q v, E.V (.sl r' q) v → q = n → ({ E with I := frzI E r', H := frzH E.H r' } : Env).V (.snap τ n xs) v := fun q v hv hq => by
          subst hq
          exact freeze_val hS hW hex hp hkk hv
        have hn : n = W.n := by
          have := hρ x
          rw [hx] at this
          simp only [Env.V, VR] at this
          obtain ⟨⟨kk, hT⟩, _⟩ := this
          exact (row_of hW hT).2
        have hρ1 : ∀ o, ({ E with I := frzI E r', H := frzH E.H r' } : Env).V (frzV r' (.snap τ n xs) (ev o)) (ρ o) := fun o => by
          have ho := hρ o
          cases he : ev o with
          | b v => rw [he] at ho; exact V_b.2 (V_b.1 ho)
          | sl q m =>
            rw [he] at ho
            simp only [frzV]
            cases hq : Nat.beq q r' with
            | false => simp [Env.V, VR]
            | true =>
              have hq' : q = r' := Nat.eq_of_beq_eq_true hq
              subst hq'
              refine hval m _ ho ?_
              simp only [Env.V, VR] at ho
              obtain ⟨⟨kk, hT⟩, _⟩ := ho
              rw [hn]
              exact (row_of hW hT).2
          | _ => simp [frzV, Env.V, VR]
        have h2 : opP L (frzH E.H r') (fun o => frzV r' (.snap τ n xs) (ev o)) (.slice t x lo hi none) (fun v => k v (frzH E.H r') (some fun q => !(Nat.beq q r'))) = some r := by
          simp only [opP, hx, frzV, Nat.beq_eq_true_eq, hy]
          rw [show Nat.beq r' r' = true from Nat.beq_refl r', cnd_true]
          simp only [hu, hye]
          rw [show (Nat.beq ye.size τ.size && Nat.blt 0 τ.size) = true from by rw [hs1, hs2]; rfl, cnd_true]
          have := bnd_frz (r' := r') (s := .snap τ n xs) h
          rw [Option.map_map, Option.map_map] at this
          exact this
        obtain ⟨av, v, h3, h4, h5⟩ := y_slice (P := P) (E := { E with I := frzI E r', H := frzH E.H r' }) (C := fun _ => True) hL hρ1 h2
        exact ⟨av, v, _, some fun q => !(Nat.beq q r'), s1, s2, h4, h3, .inl (run_val (h5 E.w trivial))⟩
      · exact none_ne h
    · exact none_ne h
  · exact none_ne h
end
end Go.Proofs.YthmhobnhladhbaaDoor.AM
