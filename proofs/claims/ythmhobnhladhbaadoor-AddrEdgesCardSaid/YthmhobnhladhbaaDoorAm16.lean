/- The abstract machine, part 16: every operation; regions; control. -/
import Derived.Test.YthmhobnhladhbaaDoorAmC
import Derived.Lib.UnsafeStr
import Derived.LoopN
namespace Go.Proofs.YthmhobnhladhbaaDoor.AM
open Go Go.RowKit
set_option linter.unusedSimpArgs false
set_option linter.unusedVariables false

section
variable {P : Program} {L : Tys} {g : Glob} {B : Nat → Prop} {w0 : World} {I0 : Nat → Prop} {E : Env} {R : Type} {r : R} {Γ : Callees R}

theorem L_append {E : Env} : ∀ {l l' : List AV} {vs vs' : List Value}, E.L l vs → E.L l' vs' → E.L (l ++ l') (vs ++ vs')
  | [], _, [], _, _, h => h
  | [], _, _ :: _, _, h, _ => by simp [Env.L, LR] at h
  | _ :: _, _, [], _, h, _ => by simp [Env.L, LR] at h
  | x :: xs, _, v :: vs, _, h, h' => by
    simp only [Env.L, LR] at h
    simp only [List.cons_append, Env.L, LR]
    exact ⟨h.1, L_append h.2 h'⟩

theorem run_call {c : Call} {f : Operand} {ρ : Operand → Value} {fid : FuncId} {cap : Array Value} {o : Oper} (ho : o.op = .call c) (hc : c.callee = .value f) (hf : ρ f = .func (.func fid) #[] cap) (he : Enters P fid) (w : World) :
    (execOp ρ o).run P w = .ok (.enter fid ((c.args.map ρ) ++ cap)) w := by
  obtain ⟨dst, op, type, pos, after, guard⟩ := o
  simp only at ho
  subst ho
  obtain ⟨callee, args, ats⟩ := c
  simp only at hc
  subst hc
  simp only [execOp, resolve, Sem.run_bind, hf, Deferred.ofValue, Sem.run_pure, Result.andThen_ok, invoke]
  have := he (#[] ++ Array.map ρ args ++ cap) w
  simpa using this

theorem flatsA_ok {w : World} {I : Nat → Prop} {m : Nat → Info} {T : Tab} : ∀ {l : List AV} {vs us : List Value}, flatsA l = some vs → LR w I m T l us → us = vs
  | [], vs, us, h, hl => by
    simp only [flatsA] at h
    cases h
    cases us with
    | nil => rfl
    | cons _ _ => simp [LR] at hl
  | x :: xs, vs, [], h, hl => by simp [LR] at hl
  | x :: xs, vs, u :: us, h, hl => by
    simp only [LR] at hl
    cases x with
    | b v =>
      simp only [flatsA] at h
      split at h
      · rename_i vs' hv
        cases h
        have h1 : u = v := by simpa only [VR] using hl.1
        rw [h1, flatsA_ok hv hl.2]
      · cases h
    | _ => simp [flatsA] at h
theorem ext_ok {P : Program} {g : Glob} {Γ : Callees R} (hP : PureOk P g Γ) {E : Env} {f : FuncId} {args : List AV} {us : List Value} {k : AV → Option R} (hargs : E.L args us) (h : extA Γ f args k = some r) :
    ∃ av v, k av = some r ∧ E.V av v ∧ ∀ w, (callFunc f us.toArray).run P w = .ok (.value v) w := by
  unfold extA at h
  split at h
  · rename_i g' hg
    split at h
    · rename_i vs hvs
      split at h
      · rename_i v hv
        have := flatsA_ok hvs hargs
        subst this
        exact ⟨_, v, h, V_b.2 rfl, hP.xok f g' _ v hg hv⟩
      · cases h
    · cases h
  · rename_i hg
    split at h
    · rename_i x
      cases us with
      | nil => simp [Env.L, LR] at hargs
      | cons u us =>
        simp only [Env.L, LR] at hargs
        cases us with
        | nil => exact ⟨_, u, h, hargs.1, hP.xid f hg u⟩
        | cons _ _ => simp [LR] at hargs
    · cases h
  · cases h
theorem run_call_ext {c : Call} {f : Operand} {ρ : Operand → Value} {fid : FuncId} {cap : Array Value} {o : Oper} {v : Value} {w : World} (ho : o.op = .call c) (hc : c.callee = .value f) (hf : ρ f = .func (.func fid) #[] cap)
    (he : (callFunc fid ((c.args.map ρ) ++ cap)).run P w = .ok (.value v) w) : (execOp ρ o).run P w = .ok (.value v) w := by
  obtain ⟨dst, op, type, pos, after, guard⟩ := o
  simp only at ho
  subst ho
  obtain ⟨callee, args, ats⟩ := c
  simp only at hc
  subst hc
  simp only [execOp, resolve, Sem.run_bind, hf, Deferred.ofValue, Sem.run_pure, Result.andThen_ok, invoke]
  simpa using he

theorem call_sound (hS : St g B w0 I0 E) (hP : PureOk P g Γ) (hG : CsOk P g Γ) {fr : List AV} {a : Act} (hfr : E.L fr a.tmps.toList) {o : Oper} {c : Call} {f : Operand} (ho : o.op = .call c) (hc : c.callee = .value f)
    {k : AV → AHeap → Option (Nat → Bool) → Option R} {pn : AV → AHeap → Option (Nat → Bool) → Option R} {next : Act → World → Prop} {Q : Exit → Act → World → Prop}
    (h : callA Γ E.H (evA fr f) (c.args.toList.map (evA fr)) k pn = some r)
    (hk : ∀ av v E' D, St g B w0 I0 E' → Ext (Option.getD D allD) E E' → E'.V av v → k av E'.H D = some r → next (a.put o.dst v) E'.w)
    (hp : ∀ av v E' D, St g B w0 I0 E' → Ext (Option.getD D allD) E E' → E'.V av v → pn av E'.H D = some r → Q (.panic [{ v, recovered := false }]) a E'.w) : o.wp P a E.w next Q := by
  have hf := ev_ok hfr f
  unfold callA at h
  split at h
  · rename_i fid cp he
    rw [he] at hf
    simp only [Env.V, VR] at hf
    obtain ⟨cap, hfv, hcap⟩ := hf
    have hargs : E.L (c.args.toList.map (evA fr) ++ cp) ((c.args.map a.eval) ++ cap).toList := by
      rw [Array.toList_append, Array.toList_map]
      exact L_append (L_map (ev_ok hfr) _) hcap
    split at h
    · rename_i F hres
      obtain ⟨hen, hcall⟩ := hG.ans fid _ _ _ hres
      obtain ⟨out, h, hcall⟩ := hcall _ _ h
      unfold Oper.wp
      rw [run_call ho hc hfv hen, Oper.upon_enter]
      have := call_cs hS hargs hcall h
      rw [Array.toArray_toList] at this
      refine this.mono ?_
      rintro e w' ⟨v, av, E', D, rfl, h1, h2, h3, ⟨rfl, h4⟩ | ⟨rfl, h4⟩⟩
      · exact hk av v E' D h1 h2 h3 h4
      · exact hp av v E' D h1 h2 h3 h4
    cases hfp : Γ.isP fid with
    | true =>
      rw [hfp] at h
      simp only [cnd_true] at h
      obtain ⟨hpv, h⟩ := cond_some h
      have hcall := call_pure hS hP hfp hargs hpv h
      unfold Oper.wp
      rw [run_call ho hc hfv (hP.enters fid hfp), Oper.upon_enter]
      refine hcall.mono ?_
      rintro e w' ⟨v, av, E', rfl, h1, h2, h3, h4, ⟨rfl, h5⟩ | ⟨rfl, h5⟩⟩
      · exact hk av v E' none h1 h2 h3 (by rw [h4]; exact h5)
      · exact hp av v E' none h1 h2 h3 (by rw [h4]; exact h5)
    | false =>
      rw [hfp] at h
      simp only [cnd_false] at h
      cases hxs : (Γ.xc fid).isSome with
      | true =>
        rw [hxs, cnd_true] at h
        obtain ⟨av, v, h1, hV, h2⟩ := ext_ok hP hargs h
        unfold Oper.wp
        rw [run_call_ext ho hc hfv (by have := h2 E.w; rwa [Array.toArray_toList] at this)]
        exact hk _ v E none hS (Ext.refl _ _) hV h1
      | false =>
        rw [hxs, cnd_false] at h
        exact none_ne h
  · exact none_ne h

theorem app_sound (hS : St g B w0 I0 E) (hL : TysOk P L) {ev : Operand → AV} {ρ : Operand → Value} (hρ : ∀ x, E.V (ev x) (ρ x)) {c : Call} {ty : TypeId} {k : AV → AHeap → Option (Nat → Bool) → Option R}
    (h : (match c.args.toList.map ev, c.argTypes.toList with
      | [s, x], [t, t'] => match tyAt L t with
        | some y => match y.u with
          | .slice e => match tyAt L e with
            | some ye => cnd (Nat.beq t t' && Nat.beq (zeroCells ye).length ye.size) (match s, x with
              | .sl r n, .sl r2 n2 => match E.H[r]?, E.H[r2]? with
                | some (some W), some (some W2) => cnd (Nat.beq W2.k W.k && Nat.beq W.t e) (appendA E.H r W ye n n2 W2.ex W2.pf k) none
                | _, _ => none
              | .sl r n, .snap σ n2 ys => match E.H[r]? with
                | some (some W) => cnd (Nat.beq σ.size W.k && Nat.beq W.t e) (appendA E.H r W ye n n2 (.typ σ ys) true k) none
                | _ => none
              | .b (.slice none 0 0), .sl r2 n2 => match E.H[r2]? with
                | some (some W2) => cnd (Nat.beq W2.k ye.size) (appendA (E.H ++ [some (nilRow L e ye)]) E.H.length (nilRow L e ye) ye 0 n2 W2.ex W2.pf k) none
                | _ => none
              | .b (.slice none 0 0), .snap σ n2 ys => cnd (Nat.beq σ.size ye.size) (appendA (E.H ++ [some (nilRow L e ye)]) E.H.length (nilRow L e ye) ye 0 n2 (.typ σ ys) true k) none
              | _, _ => none) none
            | none => none
          | _ => none
        | none => none
      | _, _ => none) = some r) : Nxt P g B w0 I0 E (do pure (Next.value (← Builtin.append_ c.argTypes ty (c.args.map ρ)))) k r := by
  split at h
  · rename_i s x t t' hargs htys
    obtain ⟨a1, a2, hax⟩ : ∃ a1 a2, c.args.toList = [a1, a2] := by
      rcases hl : c.args.toList with _ | ⟨x1, _ | ⟨y1, _ | ⟨z, zs⟩⟩⟩ <;> rw [hl] at hargs <;> simp at hargs
      exact ⟨x1, y1, rfl⟩
    rw [hax] at hargs
    simp at hargs
    have hca : c.args = #[a1, a2] := by rw [← Array.toArray_toList (xs := c.args), hax]
    have hct : c.argTypes = #[t, t'] := by rw [← Array.toArray_toList (xs := c.argTypes), htys]
    have hs := hρ a1
    have hx := hρ a2
    rw [hargs.1] at hs
    rw [hargs.2] at hx
    split at h
    · rename_i y hy
      split at h
      · rename_i e hu
        have hu' : P.underlying t = some (.slice e) := by rw [(hL t y hy).und, hu]
        split at h
        · rename_i ye hye
          replace h := cond_some h
          obtain ⟨hc, h⟩ := h
          rw [Bool.and_eq_true] at hc
          have ht : t = t' := Nat.eq_of_beq_eq_true hc.1
          have hz : (zeroCells ye).length = ye.size := Nat.eq_of_beq_eq_true hc.2
          have hzs : ye.zero.cells.size = ye.size := by rw [← hz]; exact (LR_size (zero_ok (E := E) (y := ye))).symm
          subst ht
          have hmap : c.args.map ρ = #[ρ a1, ρ a2] := by rw [hca]; simp
          rw [hmap, hct]
          cases s with
          | sl r1 n => cases x with
            | sl r2 n2 =>
              dsimp only at h
              split at h
              · rename_i W W2 hW hW2
                obtain ⟨hc2, h⟩ := cond_some h
                rw [Bool.and_eq_true] at hc2
                have hkk : W2.k = W.k := Nat.eq_of_beq_eq_true hc2.1
                have hWt : W.t = e := Nat.eq_of_beq_eq_true hc2.2
                have hk2 := hS.rows r2 W2 hW2
                simp only [Env.V, VR] at hx
                obtain ⟨⟨kk, hT⟩, hx⟩ := hx
                obtain ⟨rfl, rfl⟩ := row_of hW2 hT
                by_cases hal : (E.m r2).al = true
                · rw [if_pos hal] at hx
                  obtain ⟨c2, hv, hnc, _⟩ := hx
                  rw [hv]
                  obtain ⟨k1, k2, k3, arr, fz, k4, k5, k6, k6', k7⟩ := hk2.mem hal
                  refine e_append hS hu' (hL _ ye hye) hW hs (fun h0 => ⟨_, rfl, fun i hi => (hk2.len i hi).trans hkk, fun i hi j x hx => ?_⟩) hWt hzs h
                  obtain ⟨v, b1, b2, b3⟩ := k7 i hi j x hx
                  refine ⟨v, ?_, ?_, b3⟩
                  · rw [addr_add, Nat.zero_add, ← hkk]
                    simp [World.cell?, k4, b1]
                  · unfold rowT at b2
                    cases hp : W2.pf with
                    | true => rw [if_pos hp] at b2; exact b2
                    | false => rw [if_neg (by rw [hp]; simp)] at b2; exact b2
                · rw [if_neg hal] at hx
                  obtain ⟨hv, hn⟩ := hx
                  rw [hv]
                  rw [hn] at h
                  exact e_append (A := none) (c2 := 0) hS hu' (hL _ ye hye) hW hs (fun h0 => absurd h0 (by omega)) hWt hzs h
              · exact none_ne h
            | snap σ n2 ys =>
              dsimp only at h
              split at h
              · rename_i W hW
                obtain ⟨hc2, h⟩ := cond_some h
                rw [Bool.and_eq_true] at hc2
                have hkk : σ.size = W.k := Nat.eq_of_beq_eq_true hc2.1
                have hWt : W.t = e := Nat.eq_of_beq_eq_true hc2.2
                rw [Env.V, VR_snap] at hx
                obtain ⟨A, c2, hv, hnc, hx⟩ := hx
                rw [hv]
                refine e_append hS hu' (hL _ ye hye) hW hs (fun h0 => ?_) hWt hzs h
                obtain ⟨ad, rfl, hsp, hb, hall⟩ := hx h0
                refine ⟨ad, rfl, fun i hi => (hall i hi).1.trans hkk, fun i hi j x hx => ?_⟩
                obtain ⟨v, b1, b2, b3⟩ := CR_get (hall i hi).2 j x hx
                exact ⟨v, by rw [← hkk]; exact b1, b2, b3⟩
              · exact none_ne h
            | _ => dsimp only at h; exact none_ne h
          | b bv =>
            have nil_ : bv = .slice none 0 0 → Nxt P g B w0 I0 E (do pure (Next.value (← Builtin.append_ #[t, t] ty #[ρ a1, ρ a2]))) k r := fun hbv => by
              subst hbv
              rw [V_b] at hs
              obtain ⟨s1, s2⟩ := hS.ghost (W := nilRow L e ye) [] rfl rfl rfl (fun l _ hp => (by cases hp)) (fun _ hp => (by cases hp))
              have hW1 : (E.H ++ [some (nilRow L e ye)])[E.H.length]? = some (some (nilRow L e ye)) := by simp
              have hs1 : ({ E with m := upd E.m E.H.length ⟨0, 0, false, []⟩, H := E.H ++ [some (nilRow L e ye)] } : Env).V (.sl E.H.length 0) (ρ a1) := by
                rw [hs]
                simp only [Env.V, VR]
                refine ⟨⟨ye.size, by simp [tab, nilRow]⟩, ?_⟩
                rw [upd_same]
                simp
              have hx1 := s2.V (rf_all _) hx
              have fin : ∀ {vs : Value}, Nxt P g B w0 I0 { E with m := upd E.m E.H.length ⟨0, 0, false, []⟩, H := E.H ++ [some (nilRow L e ye)] } (do pure (Next.value (← Builtin.append_ #[t, t] ty #[ρ a1, vs]))) k r → Nxt P g B w0 I0 E (do pure (Next.value (← Builtin.append_ #[t, t] ty #[ρ a1, vs]))) k r := fun {vs} hn => by
                obtain ⟨av, v, E', D, h1, h2, h3, h4, h5⟩ := hn.out
                exact ⟨av, v, E', D, h1, (s2.weaken (D' := Option.getD D allD) (fun _ _ => rfl)).trans h2, h3, h4, h5⟩
              cases x with
              | sl r2 n2 =>
                replace h : (match E.H[r2]? with
                  | some (some W2) => cnd (Nat.beq W2.k ye.size) (appendA (E.H ++ [some (nilRow L e ye)]) E.H.length (nilRow L e ye) ye 0 n2 W2.ex W2.pf k) none
                  | _ => none) = some r := h
                split at h
                · rename_i W2 hW2
                  obtain ⟨hc2, h⟩ := cond_some h
                  have hkk : W2.k = ye.size := Nat.eq_of_beq_eq_true hc2
                  have hk2 := hS.rows r2 W2 hW2
                  have hx0 := hx
                  simp only [Env.V, VR] at hx
                  obtain ⟨⟨kk, hT⟩, hx⟩ := hx
                  obtain ⟨rfl, rfl⟩ := row_of hW2 hT
                  refine fin ?_
                  by_cases hal : (E.m r2).al = true
                  · rw [if_pos hal] at hx
                    obtain ⟨c2, hv, hnc, _⟩ := hx
                    rw [hv]
                    obtain ⟨k1, k2, k3, arr, fz, k4, k5, k6, k6', k7⟩ := hk2.mem hal
                    refine e_append s1 hu' (hL _ ye hye) hW1 hs1 (fun h0 => ⟨_, rfl, fun i hi => (hk2.len i hi).trans hkk, fun i hi j x hx => ?_⟩) rfl hzs h
                    obtain ⟨v, b1, b2, b3⟩ := k7 i hi j x hx
                    refine ⟨v, ?_, ?_, b3⟩
                    · rw [addr_add, Nat.zero_add]
                      show E.w.cell? ⟨_, i * ye.size + j, none⟩ = _
                      rw [← hkk]
                      simp [World.cell?, k4, b1]
                    · unfold rowT at b2
                      cases hp : W2.pf with
                      | true => rw [if_pos hp] at b2; exact VR.mono (fun _ => true) (fun b hb => ⟨hb, rfl⟩) x noTab noTab v (fun r p hp => by simp [noTab] at hp) (.inl rfl) b2
                      | false => rw [if_neg (by rw [hp]; simp)] at b2; exact s2.V (rf_all _) b2
                  · rw [if_neg hal] at hx
                    obtain ⟨hv, hn⟩ := hx
                    rw [hv]
                    rw [hn] at h
                    exact e_append (A := none) (c2 := 0) s1 hu' (hL _ ye hye) hW1 hs1 (fun h0 => absurd h0 (by omega)) rfl hzs h
                · exact none_ne h
              | snap σ n2 ys =>
                replace h : cnd (Nat.beq σ.size ye.size) (appendA (E.H ++ [some (nilRow L e ye)]) E.H.length (nilRow L e ye) ye 0 n2 (.typ σ ys) true k) none = some r := h
                obtain ⟨hc2, h⟩ := cond_some h
                have hkk : σ.size = ye.size := Nat.eq_of_beq_eq_true hc2
                refine (show ∀ {vs : Value}, ρ a2 = vs → Nxt P g B w0 I0 E (do pure (Next.value (← Builtin.append_ #[t, t] ty #[ρ a1, vs]))) k r from fun {vs} hvs => fin ?_) rfl
                rw [Env.V, VR_snap] at hx1
                obtain ⟨A, c2, hv, hnc, hx⟩ := hx1
                rw [← hvs, hv]
                refine e_append s1 hu' (hL _ ye hye) hW1 hs1 (fun h0 => ?_) rfl hzs h
                obtain ⟨ad, rfl, hsp, hb, hall⟩ := hx h0
                refine ⟨ad, rfl, fun i hi => (hall i hi).1.trans hkk, fun i hi j x hx => ?_⟩
                obtain ⟨v, b1, b2, b3⟩ := CR_get (hall i hi).2 j x hx
                exact ⟨v, by show E.w.cell? (ad.add (i * ye.size + j)) = _; rw [← hkk]; exact b1, b2, b3⟩
              | _ => exact none_ne (show none = some r from h)
            cases bv with
            | slice A n c =>
              cases A with
              | some _ => cases x <;> exact none_ne (show none = some r from h)
              | none =>
                cases n with
                | succ _ => cases x <;> exact none_ne (show none = some r from h)
                | zero =>
                  cases c with
                  | succ _ => cases x <;> exact none_ne (show none = some r from h)
                  | zero => exact nil_ rfl
            | _ => cases x <;> exact none_ne (show none = some r from h)
          | _ => cases x <;> exact none_ne (show none = some r from h)
        · exact none_ne h
      · exact none_ne h
    · exact none_ne h
  · exact none_ne h

theorem map_one {l : List Operand} {ev : Operand → AV} {x : AV} (h : l.map ev = [x]) : ∃ a, l = [a] ∧ ev a = x := by
  rcases l with _ | ⟨a, _ | ⟨b, l⟩⟩ <;> simp at h
  exact ⟨a, rfl, h⟩
theorem map_two {l : List Operand} {ev : Operand → AV} {x y : AV} (h : l.map ev = [x, y]) : ∃ a b, l = [a, b] ∧ ev a = x ∧ ev b = y := by
  rcases l with _ | ⟨a, _ | ⟨b, _ | ⟨c, l⟩⟩⟩ <;> simp at h
  exact ⟨a, b, rfl, h⟩
theorem e_sliceData' (hS : St g B w0 I0 E) (hL : TysOk P L) {ev : Operand → AV} {ρ : Operand → Value} (hρ : ∀ x, E.V (ev x) (ρ x)) {c : Call} {ty : TypeId} {k : AV → AHeap → Option (Nat → Bool) → Option R}
    (h : (match c.args.toList.map ev with
      | [.sl r n] => cnd (isPtrT L ty) (k (.sp r n) E.H none) none
      | [.b (.slice none 0 0)] => k (.b (.pointer none)) E.H none
      | _ => none) = some r) : ∃ av v E', St g B w0 I0 E' ∧ Ext allD E E' ∧ E'.V av v ∧ k av E'.H none = some r ∧ (Builtin.unsafeSliceData_ c.argTypes ty (c.args.map ρ)).run P E.w = .ok v E'.w ∧ Below E.w.heap.size E.w E'.w := by
  split at h
  · rename_i r' n he
    obtain ⟨a, hl, ha⟩ := map_one he
    have hca : c.args.map ρ = #[ρ a] := by rw [← Array.toArray_toList (xs := c.args), hl]; simp
    rw [hca]
    obtain ⟨hc, h⟩ := cond_some h
    obtain ⟨e, i, hu, _⟩ := ptrT_ok hL hc
    have hx := hρ a
    rw [ha] at hx
    have hx0 := hx
    simp only [Env.V, VR] at hx
    obtain ⟨⟨kk, hT⟩, hx⟩ := hx
    obtain ⟨W, hW, hkn⟩ := tab_row hT
    by_cases hal : (E.m r').al = true
    · rw [if_pos hal] at hx
      obtain ⟨c', hv, hnc, hcc⟩ := hx
      rw [hv]
      rcases Nat.eq_zero_or_pos c' with h0 | h0
      · subst h0
        obtain ⟨_, _, _, arr, fz, hh, _⟩ := (hS.rows r' W hW).mem hal
        have hrun := Lib.run_unsafeSliceData_zero (P := P) E.w c.argTypes ty e hu ⟨(E.m r').blk, 0, none⟩ n (W.t, arr.size) (by simp [World.shape?, hh])
        have hbl : Below E.w.heap.size E.w (E.w.alloc (.view ⟨(E.m r').blk, 0, none⟩ e)) := (Below.refl _ _).alloc (Nat.le_refl _) _
        obtain ⟨s1, s2⟩ := hS.grow (I' := E.I) hbl (fun b hb => hb) (fun b hb => .inl hb) (fun b hb => Nat.lt_of_lt_of_le (hS.isz b hb) hbl.size)
        refine ⟨_, _, _, s1, s2, ?_, h, hrun, hbl⟩
        simp only [Env.V, VR]
        exact ⟨⟨kk, hT⟩, _, rfl, fun hn => by omega⟩
      · have hrun := Lib.run_unsafeSliceData_row (P := P) E.w c.argTypes ty ⟨(E.m r').blk, 0, none⟩ n c' (by omega)
        refine ⟨_, _, E, hS, Ext.refl _ _, ?_, h, hrun, Below.refl _ _⟩
        simp only [Env.V, VR]
        exact ⟨⟨kk, hT⟩, _, rfl, fun hn => ⟨hal, rfl⟩⟩
    · rw [if_neg hal] at hx
      obtain ⟨hv, hn⟩ := hx
      rw [hv]
      refine ⟨_, _, E, hS, Ext.refl _ _, ?_, h, Lib.run_unsafeSliceData_nil (P := P) E.w c.argTypes ty 0 0, Below.refl _ _⟩
      simp only [Env.V, VR]
      exact ⟨⟨kk, hT⟩, _, rfl, fun h0 => by omega⟩
  · rename_i he
    obtain ⟨a, hl, ha⟩ := map_one he
    have hca : c.args.map ρ = #[ρ a] := by rw [← Array.toArray_toList (xs := c.args), hl]; simp
    rw [hca]
    have hx := hρ a
    rw [ha, V_b] at hx
    rw [hx]
    exact ⟨_, _, E, hS, Ext.refl _ _, V_b.2 rfl, h, Lib.run_unsafeSliceData_nil (P := P) E.w c.argTypes ty 0 0, Below.refl _ _⟩
  · exact none_ne h
theorem e_sliceData (hS : St g B w0 I0 E) (hL : TysOk P L) {ev : Operand → AV} {ρ : Operand → Value} (hρ : ∀ x, E.V (ev x) (ρ x)) {c : Call} {ty : TypeId} {k : AV → AHeap → Option (Nat → Bool) → Option R}
    (h : (match c.args.toList.map ev with
      | [.sl r n] => cnd (isPtrT L ty) (k (.sp r n) E.H none) none
      | [.b (.slice none 0 0)] => k (.b (.pointer none)) E.H none
      | _ => none) = some r) : Nxt P g B w0 I0 E (do pure (Next.value (← Builtin.unsafeSliceData_ c.argTypes ty (c.args.map ρ)))) k r := by
  obtain ⟨av, v, E', h1, h2, h3, h4, h5, _⟩ := e_sliceData' hS hL hρ h
  exact ⟨av, v, E', none, h1, h2, h3, h4, .inl (run_val h5)⟩
theorem grow_sound (hS : St g B w0 I0 E) (hL : TysOk P L) {fr : List AV} {a : Act} (hfr : E.L fr a.tmps.toList) {o : Oper} (hg : isGrow o.op = true) {k pn : AV → AHeap → Option (Nat → Bool) → Option R} (h : opE L Γ E.H (evA fr) o k pn = some r) :
    ∃ av v E', St g B w0 I0 E' ∧ Ext allD E E' ∧ E'.V av v ∧ k av E'.H none = some r ∧ (execOp a.eval o).run P E.w = .ok (.value v) E'.w ∧ Below E.w.heap.size E.w E'.w := by
  obtain ⟨dst, op, type, pos, after, guard⟩ := o
  unfold isGrow at hg
  simp only at hg
  split at hg
  · rename_i c
    obtain ⟨callee, args, ats⟩ := c
    split at hg
    · rename_i hc
      simp only at hc
      subst hc
      obtain ⟨av, v, E', h1, h2, h3, h4, h5, h6⟩ := e_sliceData' (P := P) (L := L) (c := ⟨.builtin .unsafeSliceData, args, ats⟩) (ty := type) hS hL (ev_ok hfr) h
      refine ⟨av, v, E', h1, h2, h3, h4, ?_, h6⟩
      have := run_val h5
      simpa [execOp, resolve, invoke, builtin] using this
    · cases hg
  · cases hg

theorem run_loadX (w : World) : ∀ (xs : List Int) (a : Addr) (acc : ByteArray), (∀ (j : Nat) x, xs[j]? = some x → w.cell? (a.add j) = some (.int .u8 x)) →
    (loadBytes a acc xs.length).run P w = .ok (xs.foldl (fun r c => r.push (UInt8.ofNat c.toNat)) acc) w
  | [], a, acc, _ => by simp [loadBytes]
  | x :: l, a, acc, h => by
    have h0 : w.cell? a = some (.int .u8 x) := by
      have := h 0 x rfl
      simpa [Addr.add] using this
    have ih := run_loadX w l (a.add 1) (acc.push x.toNat.toUInt8) (fun j y hy => by
      have := h (j + 1) y (by simpa using hy)
      have e : (a.add 1).add j = a.add (j + 1) := by
        unfold Addr.add
        by_cases hj : j = 0
        · subst hj; simp
        · simp [hj]; omega
      rw [e]; exact this)
    simp only [List.length_cons, loadBytes, Sem.run_bind, run_load, h0, Result.andThen, List.foldl_cons]
    exact ih
theorem run_unsafeStr (w : World) (pt it ty e : TypeId) (hp : P.underlying pt = some (.pointer e)) (hc : P.cellsOf e = 1) (g cells : Nat) (hsh : w.shape? g = some (e, cells)) (xs : List Int) (h0 : xs ≠ []) (hn : xs.length ≤ cells) (h63 : xs.length ≤ 9223372036854775807)
    (hcell : ∀ (j : Nat) x, xs[j]? = some x → w.cell? ((⟨g, 0, none⟩ : Addr).add j) = some (.int .u8 x)) :
    (Builtin.unsafeString_ #[pt, it] ty #[.pointer (some ⟨g, 0, none⟩), .int .i64 xs.length]).run P w = .ok (.string (xs.foldl (fun r c => r.push (UInt8.ofNat c.toNat)) ByteArray.empty)) (w.freeze ⟨g, 0, none⟩ xs.length) := by
  have hl : xs.length ≠ 0 := by simpa using h0
  have hlb := run_loadX (P := P) w xs ⟨g, 0, none⟩ .empty hcell
  have hlies := Lib.liesAt_bytes (P := P) hc (cells / P.cellsOf e) xs.length (by rw [hc]; simpa using hn)
  have h63' : ¬ (9223372036854775807 : Int) < (xs.length : Int) := by omega
  have hdef : Builtin.unsafeString_ #[pt, it] ty #[.pointer (some ⟨g, 0, none⟩), .int .i64 xs.length] =
      (do
        let n ← asInt (.int .i64 xs.length)
        if n < 0 then runtimePanic (.error "unsafe.String: len out of range")
        if n > IntKind.i64.max then unsupported (.unsafePointer "String: a length above the largest int")
        if n = 0 then pure (.string .empty)
        else if ← variablesAt ⟨g, 0, none⟩ (← elemOf pt) n.toNat then do
          let s ← loadBytes ⟨g, 0, none⟩ .empty n.toNat
          freeze ⟨g, 0, none⟩ n.toNat
          pure (.string s)
        else unsupported (.unsafePointer "String: not so many bytes at ptr")) := rfl
  rw [hdef]
  have hmax : IntKind.i64.max = 9223372036854775807 := rfl
  have hneg : ¬ (xs.length : Int) < 0 := by omega
  simp [asInt, asIntOf, hmax, h63', hneg, hl, variablesAt, hsh, elemOf, run_underlying hp, hlies, hlb]

/-- A row whose bytes are frozen is told no more. -/
theorem St.frz (h : St g B w0 I0 E) {r' : Nat} {W : Row} (hW : E.H[r']? = some (some W)) (hal : (E.m r').al = true) (n : Nat) :
    St g B w0 I0 { E with w := E.w.freeze ⟨(E.m r').blk, 0, none⟩ n, H := frzH E.H r' } ∧ Ext (fun q => !(Nat.beq q r')) E { E with w := E.w.freeze ⟨(E.m r').blk, 0, none⟩ n, H := frzH E.H r' } := by
  have hrl : r' < E.H.length := (List.getElem?_eq_some_iff.1 hW).1
  have hget : ∀ q, (frzH E.H r')[q]? = if q = r' then some none else (kdHeap (fun q => !(Nat.beq q r')) E.H)[q]? := fun q => by
    unfold frzH
    rw [List.getElem?_set]
    by_cases hq : q = r'
    · subst hq; rw [if_pos rfl, if_pos (by simpa [kdHeap] using hrl), if_pos rfl]
    · rw [if_neg (Ne.symm hq), if_neg hq]
  have hback : ∀ q V, (frzH E.H r')[q]? = some (some V) → q ≠ r' ∧ ∃ V0, E.H[q]? = some (some V0) ∧ V = kdRow (fun q => !(Nat.beq q r')) V0 := fun q V' hV => by
    rw [hget] at hV
    by_cases hq : q = r'
    · rw [if_pos hq] at hV; cases hV
    · rw [if_neg hq, kdHeap_get] at hV
      cases ho : E.H[q]? with
      | none => rw [ho] at hV; cases hV
      | some o => cases o with
        | none => rw [ho] at hV; cases hV
        | some V => rw [ho] at hV; exact ⟨hq, V, rfl, by simpa using hV.symm⟩
  obtain ⟨s1, s2⟩ := h.cut (D := fun q => !(Nat.beq q r')) (H' := frzH E.H r') (fun q V' hV => by
    obtain ⟨h1, V, h2, h3⟩ := hback q V' hV
    exact ⟨ne_iff.2 h1, V, h2, h3⟩) (fun q V hV hd => by
    have hq := ne_iff.1 hd
    rw [hget, if_neg hq, kdHeap_get, hV]; rfl)
  obtain ⟨k1, k2, k3, arr, fz, k4, k5, _⟩ := (h.rows r' W hW).mem hal
  have hother : ∀ b, b ≠ (E.m r').blk → (E.w.freeze ⟨(E.m r').blk, 0, none⟩ n).heap[b]? = E.w.heap[b]? := fun b hb => by
    unfold World.freeze
    split
    · rfl
    · simp only [Array.getElem?_modify]
      rw [if_neg (Ne.symm hb)]
  have hsize : (E.w.freeze ⟨(E.m r').blk, 0, none⟩ n).heap.size = E.w.heap.size := by
    unfold World.freeze
    split
    · rfl
    · simp
  have hself : ∃ fz', (E.w.freeze ⟨(E.m r').blk, 0, none⟩ n).heap[(E.m r').blk]? = some (.cells arr W.t fz') := by
    unfold World.freeze
    split
    · exact ⟨fz, k4⟩
    · simp only [Array.getElem?_modify, if_true, k4, Option.map_some]
      exact ⟨_, rfl⟩
  have hos : (E.w.freeze ⟨(E.m r').blk, 0, none⟩ n).os = E.w.os ∧ (E.w.freeze ⟨(E.m r').blk, 0, none⟩ n).tape = E.w.tape ∧ (E.w.freeze ⟨(E.m r').blk, 0, none⟩ n).output = E.w.output := by
    unfold World.freeze
    split <;> exact ⟨rfl, rfl, rfl⟩
  have hkept : Kept B w0 (E.w.freeze ⟨(E.m r').blk, 0, none⟩ n) := h.below.trans ⟨hos.1, hos.2.1, hos.2.2, by omega, fun k hk => hother k (fun e => k1 (e ▸ hk)), fun k arr0 t0 fz0 hk => by
    by_cases hb : k = (E.m r').blk
    · subst hb
      rw [k4] at hk
      cases hk
      obtain ⟨fz', hf⟩ := hself
      exact ⟨arr, fz', hf, rfl⟩
    · exact ⟨arr0, fz0, by rw [hother k hb]; exact hk, rfl⟩⟩
  have hx : Ext allD { E with H := frzH E.H r' } { E with w := E.w.freeze ⟨(E.m r').blk, 0, none⟩ n, H := frzH E.H r' } := ⟨fun b hb => ⟨hb, hother b (fun e => k2 (e ▸ hb))⟩, fun q p hp _ => ⟨hp, rfl⟩⟩
  refine ⟨⟨hkept, h.hB, h.hn, h.gn, g.stab E.w _ ⟨hos.1, hos.2.1, hos.2.2, by rw [hsize]; exact Nat.le_refl _, fun k hk => hother k (fun e => k1 (e ▸ h.hn k hk))⟩ h.glob, fun b hb => by show b < _; rw [hsize]; exact h.isz b hb, h.imono, h.ifresh, fun q V hV => ?_, s1.inj, s1.gse⟩, s2.trans (hx.weaken (fun _ _ => rfl))⟩
  by_cases ha : (E.m q).al = true
  · obtain ⟨hq, V0, hV0, _⟩ := hback q V hV
    exact (s1.rows q V hV).ext hx rfl (hother _ (fun e => hq (h.inj q r' V0 W hV0 hW ha hal e))) (fun h1 _ => h1) (.inr fun _ _ _ _ _ => rf_all _) (fun _ _ _ => rfs_all _)
  · exact ⟨fun h1 => absurd ((s1.rows q V hV).al h1) ha, (s1.rows q V hV).len, (s1.rows q V hV).bx, fun l h0 hp hl => hx.L (rfs_all l) ((s1.rows q V hV).gh l h0 hp hl), fun h1 => absurd h1 ha⟩

theorem ptrTo_ok (hL : TysOk P L) {t e : TypeId} (h : isPtrTo L t e = true) : P.underlying t = some (.pointer e) ∧ P.cellsOf e = 1 := by
  unfold isPtrTo at h
  split at h
  · rename_i y hy
    split at h
    · rename_i e' hu
      rw [Bool.and_eq_true] at h
      have he : e' = e := Nat.eq_of_beq_eq_true h.1
      subst he
      split at h
      · rename_i ye hye
        obtain ⟨i, hi, _, hs, _⟩ := (hL e' ye hye).info
        have h1 : ye.size = 1 := Nat.eq_of_beq_eq_true h.2
        exact ⟨by rw [(hL t y hy).und, hu], by simp [Program.cellsOf, hi, hs, h1]⟩
      · simp at h
    · cases h
  · cases h

theorem e_unsafeString (hS : St g B w0 I0 E) (hL : TysOk P L) {ev : Operand → AV} {ρ : Operand → Value} (hρ : ∀ x, E.V (ev x) (ρ x)) {c : Call} {ty : TypeId} {k : AV → AHeap → Option (Nat → Bool) → Option R}
    (h : (match c.args.toList.map ev, c.argTypes.toList with
      | [.sp r n, .b (.int .i64 m)], [t, _] => cnd (isPtrT L t) (match E.H[r]? with
        | some (some ⟨e, 1, _, .typ (.int .u8) xs, _, true, _, _⟩) => cnd (isPtrTo L t e) (if m = (n : Int) ∧ m ≤ 9223372036854775807 then k (.b (.string (strOf n xs))) ((kdHeap (fun q => !(Nat.beq q r)) E.H).set r none) (some fun q => !(Nat.beq q r)) else none) none
        | _ => none) none
      | [.b (.pointer none), .b (.int .i64 m)], [_, _] => if m = 0 then k (.b (.string ⟨#[]⟩)) E.H none else none
      | _, _ => none) = some r) : Nxt P g B w0 I0 E (do pure (Next.value (← Builtin.unsafeString_ c.argTypes ty (c.args.map ρ)))) k r := by
  split at h
  · rename_i r' n m t t2 he ht
    obtain ⟨a, b, hl, ha, hb⟩ := map_two he
    have hca : c.args.map ρ = #[ρ a, ρ b] := by rw [← Array.toArray_toList (xs := c.args), hl]; simp
    have hct : c.argTypes = #[t, t2] := by rw [← Array.toArray_toList (xs := c.argTypes), ht]
    rw [hca, hct]
    obtain ⟨_, h⟩ := cond_some h
    have hx := hρ a
    have hy := hρ b
    rw [ha] at hx
    rw [hb, V_b] at hy
    split at h
    · rename_i e nn xs mn bx cv hW
      obtain ⟨hc, h⟩ := cond_some h
      obtain ⟨hu, hc1⟩ := ptrTo_ok hL hc
      obtain ⟨⟨hm, hm63⟩, h'⟩ := if_some h
      clear h
      subst hm
      obtain ⟨zs, hzs⟩ : ∃ zs : Nat → Int, zs = xs := ⟨xs, rfl⟩
      simp only [Env.V, VR] at hx
      obtain ⟨⟨kk, hT⟩, p, hv, hp⟩ := hx
      have hkn : kk = 1 ∧ n = nn := by simp only [tab, hW] at hT; cases hT; exact ⟨rfl, rfl⟩
      obtain ⟨rfl, rfl⟩ := hkn
      rw [hv, hy]
      rcases Nat.eq_zero_or_pos n with h0 | h0
      · subst h0
        obtain ⟨s1, s2⟩ := hS.freeze hW
        obtain ⟨s1, s2⟩ := hS.cut (D := fun q => !(Nat.beq q r')) (H' := frzH E.H r') (fun q V' hV => by
          have : (frzH E.H r')[q]? = some (some V') := hV
          unfold frzH at this
          rw [List.getElem?_set] at this
          split at this
          · split at this <;> cases this
          · rename_i hq
            rw [kdHeap_get] at this
            cases ho : E.H[q]? with
            | none => rw [ho] at this; cases this
            | some o => cases o with
              | none => rw [ho] at this; cases this
              | some V => rw [ho] at this; exact ⟨ne_iff.2 (Ne.symm hq), V, rfl, by simpa using this.symm⟩) (fun q V hV hd => by
          have hq := ne_iff.1 hd
          show (frzH E.H r')[q]? = _
          unfold frzH
          rw [List.getElem?_set, if_neg (Ne.symm hq), kdHeap_get, hV]; rfl)
        exact ⟨_, _, _, some fun q => !(Nat.beq q r'), s1, s2, V_b.2 rfl, h', .inl (run_val (Lib.run_unsafeString_none (P := P) E.w t t2 ty p))⟩
      · obtain ⟨hal, rfl⟩ := hp h0
        have hk0 := hS.rows r' _ hW
        obtain ⟨k1, k2, k3, arr, fz, k4, k5, _, _, k7⟩ := hk0.mem hal
        obtain ⟨ys, hys⟩ : ∃ ys : List Int, ys = (List.range n).map zs := ⟨_, rfl⟩
        have hlen : ys.length = n := by rw [hys]; simp
        have hrun := run_unsafeStr (P := P) E.w t t2 ty e hu hc1 (E.m r').blk arr.size (by simp [World.shape?, k4]) ys (by intro e0; rw [e0] at hlen; simp at hlen; omega) (by rw [hlen, k5]; simpa using k3) (by rw [hlen]; omega) (fun j x hj => by
          rw [hys, List.getElem?_map] at hj
          have hj' : j < n := by
            rcases Nat.lt_or_ge j n with h' | h'
            · exact h'
            · rw [List.getElem?_eq_none (by simpa using h')] at hj; cases hj
          rw [List.getElem?_range hj'] at hj
          have hj : zs j = x := by simpa using hj
          rw [hzs] at hj
          subst hj
          obtain ⟨v, h1, h2, _⟩ := k7 j hj' 0 (.b (.int .u8 (xs j))) rfl
          simp only [rowT, VR] at h2
          subst h2
          rw [addr_add, Nat.zero_add]
          simp only [Nat.mul_one, Nat.add_zero] at h1
          simp [World.cell?, k4, h1])
        rw [hlen, hys, hzs] at hrun
        obtain ⟨s1, s2⟩ := hS.frz hW hal n
        exact ⟨_, _, _, some fun q => !(Nat.beq q r'), s1, s2, V_b.2 rfl, h', .inl (run_val hrun)⟩
    · exact none_ne h
  · rename_i m t t2 he ht
    obtain ⟨a, b, hl, ha, hb⟩ := map_two he
    have hca : c.args.map ρ = #[ρ a, ρ b] := by rw [← Array.toArray_toList (xs := c.args), hl]; simp
    have hct : c.argTypes = #[t, t2] := by rw [← Array.toArray_toList (xs := c.argTypes), ht]
    rw [hca, hct]
    have hx := hρ a
    have hy := hρ b
    rw [ha, V_b] at hx
    rw [hb, V_b] at hy
    rw [hx, hy]
    obtain ⟨rfl, h⟩ := if_some h
    exact ⟨_, _, E, none, hS, Ext.refl _ _, V_b.2 rfl, h, .inl (run_val (Lib.run_unsafeString_none (P := P) E.w t t2 ty none))⟩
  · exact none_ne h

/-- Every operation. -/
theorem opE_sound (hS : St g B w0 I0 E) (hL : TysOk P L) (hP : PureOk P g Γ) (hG : CsOk P g Γ) {fr : List AV} {a : Act} (hfr : E.L fr a.tmps.toList) {o : Oper}
    {k : AV → AHeap → Option (Nat → Bool) → Option R} {pn : AV → AHeap → Option (Nat → Bool) → Option R} {next : Act → World → Prop} {Q : Exit → Act → World → Prop}
    (h : opE L Γ E.H (evA fr) o k pn = some r)
    (hk : ∀ av v E' D, St g B w0 I0 E' → Ext (Option.getD D allD) E E' → E'.V av v → k av E'.H D = some r → next (a.put o.dst v) E'.w)
    (hp : ∀ av v E' D, St g B w0 I0 E' → Ext (Option.getD D allD) E E' → E'.V av v → pn av E'.H D = some r → Q (.panic [{ v, recovered := false }]) a E'.w) : o.wp P a E.w next Q := by
  have hρ := ev_ok hfr
  have pure_ : ∀ {op : Op}, o.op = op → opP L E.H (evA fr) op (fun v => k v E.H none) = some r → o.wp P a E.w next Q := fun {op} ho hh => (nxt_pure (o := o) hS hL hρ (by rw [ho]; exact hh)).wp hk
  unfold opE at h
  split at h
  · rename_i ho
    split at h
    · rename_i y hy
      split at h
      · rename_i e hu
        split at h
        · rename_i ye hye
          refine Nxt.wp ?_ hk
          have := e_ghost (P := P) (ye := ye) (e := e) hS h
          simpa [execOp, ho, Act.eval] using this
        · exact none_ne h
      · exact none_ne h
    · exact none_ne h
  · rename_i t ho
    refine Nxt.wp ?_ hk
    have := e_alloc (P := P) hS hL h
    simpa [execOp, ho] using this
  · rename_i t x ho
    refine Nxt.wp ?_ hk
    have := e_box (P := P) hS hL h (hρ x)
    simpa [execOp, ho] using this
  · rename_i t parts ho
    refine Nxt.wp ?_ hk
    have := e_build (P := P) hS hL hρ h
    simpa [execOp, ho] using this
  · rename_i t len parts ho
    refine Nxt.wp ?_ hk
    have := e_buildSlice (P := P) hS hL hρ h
    simpa [execOp, ho] using this
  · rename_i t xa xb ho
    refine Nxt.wp ?_ hk
    have := e_make (P := P) hS hL h (hρ xa) (hρ xb)
    simpa [execOp, ho] using this
  · rename_i t ad x ho
    refine Nxt.wp ?_ hk
    have := e_store (P := P) hS hL h (hρ ad) (nrmT_ok (hρ x))
    simpa [execOp, ho] using this
  · rename_i s d x ho
    split at h
    · rename_i str he
      have hx := hρ x
      rw [he, V_b] at hx
      split at h
      · rename_i us yd hs hd
        split at h
        · rename_i e hu
          have hu' : P.underlying d = some (.slice e) := by rw [(hL d yd hd).und, hu]
          split at h
          · rename_i ye hye
            split at h
            · rename_i hue
              have hue' : P.underlying e = some (.int .u8) := by rw [(hL e ye hye).und, hue]
              refine Nxt.wp ?_ hk
              have := e_bytes (P := P) hS hL hs hu' hue' h
              simpa [execOp, ho, hx] using this
            · exact none_ne h
          · exact none_ne h
        · rename_i hu
          have hu' : P.underlying d = some .string := by rw [(hL d yd hd).und, hu]
          refine Nxt.wp ⟨_, _, E, none, hS, Ext.refl _ _, V_b.2 rfl, h, .inl ?_⟩ hk
          simp [execOp, ho, hx, convert, run_underlying (hL s us hs).und, run_underlying hu']
        · exact none_ne h
      · exact none_ne h
    · rw [ho] at h; exact pure_ ho h
  · rename_i c ho
    split at h
    · rename_i hc
      refine Nxt.wp ?_ hk
      have := app_sound (P := P) (ty := o.type) hS hL hρ h
      obtain ⟨dst, op, type, pos, after, guard⟩ := o
      simp only at ho
      subst ho
      obtain ⟨callee, args, ats⟩ := c
      simp only at hc
      subst hc
      simpa [execOp, resolve, invoke, builtin] using this
    · rename_i f hc
      exact call_sound hS hP hG hfr ho hc h hk hp
    · rename_i hc
      refine Nxt.wp ?_ hk
      have := e_sliceData (P := P) (ty := o.type) hS hL hρ h
      obtain ⟨dst, op, type, pos, after, guard⟩ := o
      simp only at ho
      subst ho
      obtain ⟨callee, args, ats⟩ := c
      simp only at hc
      subst hc
      simpa [execOp, resolve, invoke, builtin] using this
    · rename_i hc
      refine Nxt.wp ?_ hk
      have := e_unsafeString (P := P) (ty := o.type) hS hL hρ h
      obtain ⟨dst, op, type, pos, after, guard⟩ := o
      simp only at ho
      subst ho
      obtain ⟨callee, args, ats⟩ := c
      simp only at hc
      subst hc
      simpa [execOp, resolve, invoke, builtin] using this
    · rw [ho] at h; exact pure_ ho h
  · rename_i t x lo hi ho
    split at h
    · rename_i r' n he
      refine Nxt.wp ?_ hk
      have := e_slice (P := P) hS hL hρ he h
      simpa [execOp, ho] using this
    · exact pure_ ho h
  · rename_i x ho
    have hx := hρ x
    split at h
    · rename_i t v he
      rw [he] at hx
      have hx0 := hx
      simp only [Env.V, VR] at hx
      obtain ⟨u, hv, _⟩ := hx
      unfold Oper.wp
      have : (execOp a.eval o).run P E.w = .halt (.panic (a.eval x)) E.w := by simp [execOp, ho, hv, Instr.panic]
      rw [this, Oper.upon_panic]
      exact hp _ _ E none hS (Ext.refl _ _) hx0 h
    · exact none_ne h
  · exact pure_ rfl h
end
end Go.Proofs.YthmhobnhladhbaaDoor.AM
