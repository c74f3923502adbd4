/- The abstract machine, part 17: regions and control. -/
import Derived.Test.YthmhobnhladhbaaDoorAm16
namespace Go.Proofs.YthmhobnhladhbaaDoor.AM
open Go Go.RowKit
set_option linter.unusedSimpArgs false
set_option linter.unusedVariables false

section
variable {P : Program} {L : Tys} {g : Glob} {B : Nat → Prop} {w0 : World} {I0 : Nat → Prop} {R : Type} {r : R} {Γ : Callees R}

theorem L_put {E : Env} {fr : List AV} {a : Act} (h : E.L fr a.tmps.toList) {av : AV} {v : Value} (hv : E.V av v) (d : Option Tmp) : E.L (setA fr d av) (a.put d v).tmps.toList := by
  cases d with
  | none => exact h
  | some d =>
    simp only [setA, Act.put, Array.toList_setIfInBounds]
    refine LR_mk (by simp only [List.length_set]; exact LR_len h) fun j x u hx hu => ?_
    rw [List.getElem?_set] at hx hu
    by_cases hj : d = j
    · subst hj
      have hl := LR_len h
      by_cases hd : d < fr.length
      · simp only [if_true, hd] at hx
        simp only [if_true, hl ▸ hd] at hu
        cases hx; cases hu; exact hv
      · simp only [if_true, hd, if_false] at hx
        cases hx
    · rw [if_neg hj] at hx hu
      obtain ⟨u', hu', hr⟩ := LR_get h j x hx
      rw [hu] at hu'; cases hu'; exact hr

theorem L_same {E : Env} {fr : List AV} {vs : List Value} (h : E.L fr vs) {d : Nat} {v : Value} (hv : vs[d]? = some v) {x : AV} (hx : E.V x v) : E.L (fr.set d x) vs := by
  refine LR_mk (by rw [List.length_set]; exact LR_len h) fun j y u hy hu => ?_
  rw [List.getElem?_set] at hy
  by_cases hj : d = j
  · subst hj
    rw [hv] at hu
    cases hu
    split at hy
    · split at hy
      · cases hy; exact hx
      · cases hy
    · rename_i hn; exact absurd rfl hn
  · rw [if_neg hj] at hy
    obtain ⟨u', hu', hr⟩ := LR_get h j y hy
    rw [hu] at hu'; cases hu'; exact hr

theorem guard_cases {E : Env} {ops : Array Oper} {fr : List AV} {o : Oper} {y n : List AV → Option R} {a : Act} (hfr : E.L fr a.tmps.toList) (h : guardA ops fr o y n = some r) :
    ∃ fr', E.L fr' a.tmps.toList ∧ ((Region.wanted o (yielded ops a.tmps) = true ∧ y fr' = some r) ∨ (Region.wanted o (yielded ops a.tmps) = false ∧ n fr' = some r)) := by
  unfold guardA at h
  unfold Region.wanted
  split at h
  · rename_i hg
    rw [hg]
    exact ⟨fr, hfr, .inl ⟨rfl, h⟩⟩
  · rename_i j b hg
    rw [hg]
    simp only
    split at h
    · rename_i d hd
      split at h
      · rename_i c hc
        obtain ⟨v, hv, hx⟩ := LR_get hfr d _ hc
        simp only [VR] at hx
        subst hx
        have hv0 := hv
        have hy : yielded ops a.tmps j = some c := by
          rw [Array.getElem?_toList] at hv
          unfold yielded
          rw [hd]
          simp only [Option.bind_some]
          rw [hv]
        rw [hy]
        split at h
        · rename_i hcb
          subst hcb
          exact ⟨_, L_same hfr hv0 (V_b.2 rfl), .inl ⟨by simp, h⟩⟩
        · rename_i hcb
          exact ⟨_, L_same hfr hv0 (V_b.2 (by cases c <;> cases b <;> simp_all)), .inr ⟨by simpa using hcb, h⟩⟩
      · rename_i u hnb hc
        obtain ⟨v, hv, hx⟩ := LR_get hfr d _ hc
        simp only [VR] at hx
        subst hx
        have hy : yielded ops a.tmps j = none := by
          rw [Array.getElem?_toList] at hv
          unfold yielded
          rw [hd]
          simp only [Option.bind_some]
          rw [hv]
          cases v with
          | bool c => exact absurd rfl (hnb c)
          | _ => rfl
        rw [hy]
        exact ⟨fr, hfr, .inr ⟨rfl, h⟩⟩
      · exact none_ne h
    · exact none_ne h

theorem put_defers (a : Act) (d : Option Tmp) (v : Value) : (a.put d v).defers = a.defers := by cases d <;> rfl

/-- A region in the text's order. -/
theorem execOps_sound (hL : TysOk P L) (hP : PureOk P g Γ) (hG : CsOk P g Γ) {ops : Array Oper} {Q : Exit → Act → World → Prop} {ds : List Deferred} {k : List AV → AHeap → Option R} {pn : AV → List AV → AHeap → Option R}
    (hk : ∀ fr (E : Env) (a : Act), St g B w0 I0 E → E.L fr a.tmps.toList → a.defers = ds → k fr E.H = some r → Q .normal a E.w)
    (hp : ∀ av v fr (E : Env) (a : Act), St g B w0 I0 E → E.L fr a.tmps.toList → E.V av v → a.defers = ds → pn av fr E.H = some r → Q (.panic [{ v, recovered := false }]) a E.w) :
    ∀ (l : List Oper) (fr : List AV) (E : Env) (a : Act), St g B w0 I0 E → E.L fr a.tmps.toList → a.defers = ds → execOps L Γ ops k pn l fr E.H = some r → wpList P ops Q l a E.w
  | [], fr, E, a, hS, hfr, hd, h => hk fr E a hS hfr hd h
  | o :: rest, fr, E, a, hS, hfr, hd, h => by
    simp only [execOps] at h
    unfold wpList
    obtain ⟨fr, hfr, ⟨hw, h⟩ | ⟨hw, h⟩⟩ := guard_cases (a := a) hfr h
    · rw [if_pos hw]
      refine .inl (opE_sound hS hL hP hG hfr h (fun av v E' D hS' hx hv hh => ?_) (fun av v E' D hS' hx hv hh => hp av v _ E' a hS' (by
        cases D with
        | none => exact hx.L (rfs_all fr) hfr
        | some D => exact hx.L (rfs_kds fr) (LR_kds fr _ _ hfr)) hv hd hh))
      refine execOps_sound hL hP hG hk hp rest _ E' _ hS' (L_put ?_ hv o.dst) (by rw [put_defers]; exact hd) hh
      cases D with
      | none => exact hx.L (rfs_all fr) hfr
      | some D => exact hx.L (rfs_kds fr) (LR_kds fr _ _ hfr)
    · rw [if_neg (by rw [hw]; simp)]
      exact execOps_sound hL hP hG hk hp rest _ E _ hS (L_put hfr (V_b.2 rfl) o.dst) (by rw [put_defers]; exact hd) h

/-- The value that a flat one tells. -/
def toV : AV → Value
  | .b v => v
  | .ifc t (.agg l) => .iface t (.agg (l.map fun x => match x with
    | .b v => v
    | _ => undef).toArray)
  | .agg l => .agg (l.map fun x => match x with
    | .b v => v
    | _ => undef).toArray
  | .tup l => .tuple (l.map fun x => match x with
    | .b v => v
    | _ => undef).toArray
  | _ => undef
theorem flat_toV {w : World} {I : Nat → Prop} {m : Nat → Info} {T : Tab} {x : AV} {v : Value} (hf : flatA x = true) (h : VR w I m T x v) : v = toV x := by
  have hl : ∀ {l : List AV} {vs : List Value}, (l.all fun x => match x with
      | .b _ => true
      | _ => false) = true → LR w I m T l vs → vs = l.map fun x => match x with
      | .b v => v
      | _ => undef := fun {l} => by
    induction l with
    | nil => intro vs _ h; cases vs <;> simp_all [LR]
    | cons y ys ih =>
      intro vs hall h
      cases vs with
      | nil => simp [LR] at h
      | cons u us =>
        simp only [List.all_cons, Bool.and_eq_true] at hall
        simp only [LR] at h
        rw [ih hall.2 h.2]
        have h1 := hall.1
        have h2 := h.1
        cases y <;> simp at h1
        simp only [VR] at h2
        rw [h2]; rfl
  cases x with
  | b u => simp only [VR] at h; exact h
  | agg l => simp only [VR] at h; obtain ⟨a, rfl, h⟩ := h; simp only [toV]; rw [← hl hf h]
  | tup l => simp only [VR] at h; obtain ⟨a, rfl, h⟩ := h; simp only [toV]; rw [← hl hf h]
  | ifc t y =>
    cases y with
    | agg l => simp only [VR] at h; obtain ⟨u, rfl, a, rfl, h⟩ := h; simp only [toV]; rw [← hl hf h]
    | _ => simp [flatA] at hf
  | _ => simp [flatA] at hf

/-- The state in a world that grew. -/
theorem St.at_ {E : Env} (h : St g B w0 I0 E) {w' : World} (hw : Below E.w.heap.size E.w w') : St g B w0 I0 { E with w := w' } ∧ Ext allD E { E with w := w' } :=
  h.grow (I' := E.I) hw (fun b h => h) (fun b h => .inl h) (fun b hb => Nat.lt_of_lt_of_le (h.isz b hb) hw.size)

theorem opQ_sound (hL : TysOk P L) (hP : PureOk P g Γ) {E : Env} (hS : St g B w0 I0 E) {fr : List AV} {a : Act} (hfr : E.L fr a.tmps.toList) {o : Oper} {k : AV → Option R} (h : opQ L Γ E.H (evA fr) o k = some r) :
    ∃ av v, k av = some r ∧ E.V av v ∧ ∀ w', Below E.w.heap.size E.w w' → o.quietAt P a (fun w' => Below E.w.heap.size E.w w') w' v := by
  have pure_ : opP L E.H (evA fr) o.op k = some r → ∃ av v, k av = some r ∧ E.V av v ∧ ∀ w', Below E.w.heap.size E.w w' → o.quietAt P a (fun w' => Below E.w.heap.size E.w w') w' v := fun h => by
    obtain ⟨av, v, h1, h2, h3⟩ := opP_sound hL hS.rows hS.isz (ev_ok hfr) h
    exact ⟨av, v, h1, h2, fun w' hw => by unfold Oper.quietAt; rw [h3 w' hw]; exact ⟨rfl, rfl⟩⟩
  unfold opQ at h
  split at h
  · rename_i c ho
    split at h
    · rename_i f hc
      have hf := ev_ok hfr f
      split at h
      · rename_i fid cp he
        rw [he] at hf
        simp only [Env.V, VR] at hf
        obtain ⟨cap, hfv, hcap⟩ := hf
        cases hxs : (Γ.xc fid).isSome with
        | true =>
          rw [hxs, cnd_true] at h
          have hargs : E.L (c.args.toList.map (evA fr) ++ cp) ((c.args.map a.eval) ++ cap).toList := by
            rw [Array.toList_append, Array.toList_map]
            exact L_append (L_map (ev_ok hfr) _) hcap
          obtain ⟨av, v, h1, hV, h2⟩ := ext_ok hP hargs h
          refine ⟨_, v, h1, hV, fun w' hw => ?_⟩
          unfold Oper.quietAt
          rw [run_call_ext ho hc hfv (by have := h2 w'; rwa [Array.toArray_toList] at this)]
          exact ⟨rfl, rfl⟩
        | false =>
        rw [hxs, cnd_false] at h
        obtain ⟨hcond, h⟩ := cond_some h
        rw [Bool.and_eq_true] at hcond
        have hargs : E.L (c.args.toList.map (evA fr) ++ cp) ((c.args.map a.eval) ++ cap).toList := by
          rw [Array.toList_append, Array.toList_map]
          exact L_append (L_map (ev_ok hfr) _) hcap
        obtain ⟨av, hk, hpav, ha⟩ := (hP.ans fid _ _ _ r hcond.1 h).resolve_right (fun ⟨_, h, _⟩ => by cases h)
        obtain ⟨hfl, hk⟩ := cond_some hk
        have hflat : ∀ {w : World} {I : Nat → Prop} {m : Nat → Info} {v : Value}, VR w I m noTab av v → E.V av (toV av) := fun {w I m v} hv => by
          have := flat_toV hfl hv
          subst this
          exact flat_any hfl hv
        have hcalls : ∀ w', Below E.w.heap.size E.w w' → Calls P fid ((c.args.map a.eval) ++ cap) w' (fun e w'' => e = .returned (toV av) ∧ Below E.w.heap.size E.w w'' ∧ E.V av (toV av)) := fun w' hw => by
          obtain ⟨s1, s2⟩ := hS.at_ hw
          have hv := viewTL_ok s1 (s2.L (rfs_all _) hargs)
          refine (ha w' (allI w') _ (fun b h => h) s1.glob s1.gbase (LR_m (LR_pure hcond.2 hv))).mono ?_
          rintro e w'' ⟨v, I', rfl, hb, _, _, _, h4⟩
          exact ⟨by rw [flat_toV (x := av) hfl h4]; rfl, hw.trans (hb.mono hw.size), hflat h4⟩
        have hVav : E.V av (toV av) := by
          cases av with
          | b v => exact V_b.2 rfl
          | agg l =>
            simp only [Env.V, VR, toV]
            refine ⟨_, rfl, ?_⟩
            simp only [List.toList_toArray]
            exact flat_list hfl
          | tup l =>
            simp only [Env.V, VR, toV]
            refine ⟨_, rfl, ?_⟩
            simp only [List.toList_toArray]
            exact flat_list hfl
          | ifc t y =>
            cases y with
            | agg l =>
              simp only [Env.V, VR, toV]
              refine ⟨_, rfl, _, rfl, ?_⟩
              simp only [List.toList_toArray]
              exact flat_list hfl
            | _ => simp [flatA] at hfl
          | _ => simp [flatA] at hfl
        refine ⟨av, toV av, hk, hVav, fun w' hw => ?_⟩
        unfold Oper.quietAt
        rw [run_call ho hc hfv (hP.enters fid hcond.1)]
        exact ⟨rfl, (hcalls w' hw).mono fun e w'' hh => ⟨hh.1, hh.2.1⟩⟩
      · exact none_ne h
    · exact pure_ h
  · exact pure_ h
where
  flat_list {w : World} {I : Nat → Prop} {m : Nat → Info} {T : Tab} : ∀ {l : List AV}, (l.all fun x => match x with
      | .b _ => true
      | _ => false) = true → LR w I m T l (l.map fun x => match x with
      | .b v => v
      | _ => undef)
    | [], _ => by simp [LR]
    | x :: xs, h => by
      simp only [List.all_cons, Bool.and_eq_true] at h
      simp only [List.map_cons, LR]
      refine ⟨?_, flat_list h.2⟩
      have h1 := h.1
      cases x <;> simp at h1
      simp [VR]

/-- A region that draws its order. -/
theorem execQ_sound (hL : TysOk P L) (hP : PureOk P g Γ) {ops : Array Oper} {Q : Act → Prop} {ds : List Deferred} {k : List AV → Option R} {E : Env} (hS : St g B w0 I0 E)
    (hk : ∀ fr (a : Act), E.L fr a.tmps.toList → a.defers = ds → k fr = some r → Q a) :
    ∀ (l : List Oper) (fr : List AV) (a : Act), E.L fr a.tmps.toList → a.defers = ds → execQ L Γ E.H ops k l fr = some r → wpQuiet P ops (fun w' => Below E.w.heap.size E.w w') Q l a
  | [], fr, a, hfr, hd, h => hk fr a hfr hd h
  | o :: rest, fr, a, hfr, hd, h => by
    simp only [execQ] at h
    unfold wpQuiet
    obtain ⟨fr, hfr, ⟨hw, h⟩ | ⟨hw, h⟩⟩ := guard_cases (a := a) hfr h
    · rw [if_pos hw]
      obtain ⟨av, v, h1, h2, h3⟩ := opQ_sound hL hP hS hfr h
      exact ⟨v, h3, execQ_sound hL hP hS hk rest _ _ (L_put hfr h2 o.dst) (by rw [put_defers]; exact hd) h1⟩
    · rw [if_neg (by rw [hw]; simp)]
      exact execQ_sound hL hP hS hk rest _ _ (L_put hfr (V_b.2 rfl) o.dst) (by rw [put_defers]; exact hd) h

/-- A region that draws its order, by a schedule. -/
theorem execS_sound (hL : TysOk P L) (hP : PureOk P g Γ) (hG : CsOk P g Γ) {ops : Array Oper} {dd : List Nat} {Q Q' : Exit → Act → World → Prop} {ds : List Deferred} {k : List AV → AHeap → Option R} {pn : AV → List AV → AHeap → Option R} {W0 : World}
    (hQ' : ∀ e a w, Q' e a w = match e with
      | .panic c => ∀ a' : Act, a'.defers = a.defers → a'.tmps.size = a.tmps.size → Q (.panic c) a' w
      | e => Q e a w)
    (hk : ∀ fr (E : Env) (a : Act), St g B w0 I0 E → E.L fr a.tmps.toList → a.defers = ds → k fr E.H = some r → Q .normal a E.w)
    (hp : ∀ av v fr (E : Env) (a : Act), St g B w0 I0 E → fr.length = a.tmps.size → E.V av v → a.defers = ds → pn av fr E.H = some r → Q (.panic [{ v, recovered := false }]) a E.w) :
    ∀ (s : List (Nat × Nat)) (eff : Bool) (l : Array Bool) (fuel : Nat) (fr : List AV) (E : Env) (a : Act), s.length ≤ fuel → (eff = false → E.w = W0) → St g B w0 I0 E → E.L fr a.tmps.toList → a.defers = ds → execS L Γ ops dd k pn s eff l fr E.H = some r →
      PrintLast.wpAnyLast P .any ops Q' (fun w' => Below W0.heap.size W0 w') dd fuel l a E.w
  | [], eff, l, fuel, fr, E, a, hfu, he, hS, hfr, hd, h => by
    simp only [execS] at h
    obtain ⟨hr, h⟩ := cond_some h
    refine PrintLast.wpAnyLast_done (by simpa using hr) ?_ fuel
    rw [hQ']
    exact hk fr E a hS hfr hd h
  | (i, md) :: rest, eff, l, 0, fr, E, a, hfu, he, hS, hfr, hd, h => by simp at hfu
  | (i, md) :: rest, eff, l, fuel + 1, fr, E, a, hfu, he, hS, hfr, hd, h => by
    have hfu' : rest.length ≤ fuel := by simpa using hfu
    simp only [execS] at h
    split at h
    · cases h
    · rename_i o ho
      cases hmd : Nat.beq md 2 with
      | true =>
        rw [hmd, cnd_true] at h
        obtain ⟨hc, h⟩ := cond_some h
        rw [Bool.and_eq_true] at hc
        refine PrintLast.last_ (l.setIfInBounds i true) ho rfl hc.1 (by simpa using hc.2) fun K hK => ?_
        obtain ⟨fr, hfr, ⟨hw, h⟩ | ⟨hw, h⟩⟩ := guard_cases (a := a) hfr h
        · rw [if_pos hw]
          refine opE_sound hS hL hP hG hfr h (fun av v E' D hS' hx hv hh => hK _ _ ?_) (fun av v E' D hS' hx hv hh => ?_)
          · refine execS_sound hL hP hG hQ' hk hp rest true _ fuel _ E' _ hfu' (fun h => by cases h) hS' (L_put ?_ hv o.dst) (by rw [put_defers]; exact hd) hh
            cases D with
            | none => exact hx.L (rfs_all fr) hfr
            | some D => exact hx.L (rfs_kds fr) (LR_kds fr _ _ hfr)
          · rw [hQ']
            exact fun a' ha' hs' => hp av v _ E' a' hS' (by rw [hs', ← Array.length_toList, ← LR_len hfr]; cases D <;> simp [cutF, kds_len]) hv (by rw [ha']; exact hd) hh
        · rw [if_neg (by rw [hw]; simp)]
          exact hK _ _ (execS_sound hL hP hG hQ' hk hp rest true _ fuel _ E _ hfu' (fun h => by cases h) hS (L_put hfr (V_b.2 rfl) o.dst) (by rw [put_defers]; exact hd) h)
      | false =>
        rw [hmd, cnd_false] at h
        cases hm3 : Nat.beq md 3 with
        | true =>
          rw [hm3, cnd_true] at h
          obtain ⟨hc, h⟩ := cond_some h
          simp only [Bool.and_eq_true] at hc
          obtain ⟨⟨⟨c1, c2⟩, c3⟩, c4⟩ := hc
          have hW := he (by simpa using c4)
          have hS0 : Below W0.heap.size W0 E.w := by rw [hW]; exact Below.refl _ _
          refine PrintLast.one_ (l.setIfInBounds i true) ho rfl c1 (by simpa using c2) fun K hK => ?_
          obtain ⟨fr, hfr, ⟨hw, h⟩ | ⟨hw, h⟩⟩ := guard_cases (a := a) hfr h
          · rw [if_pos hw]
            obtain ⟨av, v, E', h1, h2, h3, h4, h5, h6⟩ := grow_sound hS hL hfr c3 h
            unfold Oper.wp
            rw [h5]
            exact hK _ _ (hS0.trans (hW ▸ h6)) fun _ => execS_sound hL hP hG hQ' hk hp rest true _ fuel _ E' _ hfu' (fun h => by cases h) h1 (L_put (h2.L (rfs_all fr) hfr) h3 o.dst) (by rw [put_defers]; exact hd) h4
          · rw [if_neg (by rw [hw]; simp)]
            exact hK _ _ hS0 fun _ => execS_sound hL hP hG hQ' hk hp rest true _ fuel _ E _ hfu' (fun h => by cases h) hS (L_put hfr (V_b.2 rfl) o.dst) (by rw [put_defers]; exact hd) h
        | false =>
        rw [hm3, cnd_false] at h
        obtain ⟨hc, h⟩ := cond_some h
        have hQp : ∀ (v : Value) c a w, Q' (.panic c) (a.put o.dst v) w → Q' (.panic c) a w := fun v c a w hh => by
          rw [hQ'] at hh ⊢
          exact fun a' ha' hs' => hh a' (by rw [ha', put_defers]) (by rw [hs']; cases o.dst <;> simp [Act.put])
        cases hm0 : Nat.beq md 0 with
        | true =>
          rw [hm0, cnd_true, Bool.and_eq_true] at hc
          have hrd : isRd o.op = false := by simpa using hc.2
          obtain ⟨fr, hfr, ⟨hw, h⟩ | ⟨hw, h⟩⟩ := guard_cases (a := a) hfr h
          · obtain ⟨av, v, h1, h2, h3⟩ := opP_soundC hL hS.rows hS.isz (fun _ => True) (ev_ok hfr) (fun hh => by rw [hrd] at hh; cases hh) h
            exact PrintLast.pure_ (l.setIfInBounds i true) ho rfl hc.1 (hQp v) (.inl ⟨hw, fun w => h3 w trivial⟩) rfl (execS_sound hL hP hG hQ' hk hp rest eff _ fuel _ E _ hfu' he hS (L_put hfr h2 o.dst) (by rw [put_defers]; exact hd) h1)
          · exact PrintLast.pure_ (l.setIfInBounds i true) ho rfl hc.1 (hQp undef) (.inr ⟨hw, rfl⟩) rfl (execS_sound hL hP hG hQ' hk hp rest eff _ fuel _ E _ hfu' he hS (L_put hfr (V_b.2 rfl) o.dst) (by rw [put_defers]; exact hd) h)
        | false =>
          rw [hm0, cnd_false, Bool.and_eq_true] at hc
          have hef : eff = false := by simpa using hc.2
          have hW := he hef
          have hS0 : Below W0.heap.size W0 E.w := by rw [hW]; exact Below.refl _ _
          obtain ⟨fr, hfr, ⟨hw, h⟩ | ⟨hw, h⟩⟩ := guard_cases (a := a) hfr h
          · obtain ⟨av, v, h1, h2, h3⟩ := opP_soundC hL hS.rows hS.isz (fun w' => Below W0.heap.size W0 w') (ev_ok hfr) (fun _ w hh => by rw [hW]; exact hh) h
            exact PrintLast.take_ (l.setIfInBounds i true) ho rfl hc.1 (hQp v) (.inl ⟨hw, h3⟩) hS0 rfl (execS_sound hL hP hG hQ' hk hp rest eff _ fuel _ E _ hfu' he hS (L_put hfr h2 o.dst) (by rw [put_defers]; exact hd) h1)
          · exact PrintLast.take_ (l.setIfInBounds i true) ho rfl hc.1 (hQp undef) (.inr ⟨hw, rfl⟩) hS0 rfl (execS_sound hL hP hG hQ' hk hp rest eff _ fuel _ E _ hfu' he hS (L_put hfr (V_b.2 rfl) o.dst) (by rw [put_defers]; exact hd) h)

structure KOK (P : Program) (g : Glob) (B : Nat → Prop) (w0 : World) (I0 : Nat → Prop) (ds : List Deferred) (Q : Exit → Act → World → Prop) (k : XE → List AV → AHeap → Option R) (r : R) : Prop where
  nrm : ∀ fr (E : Env) (a : Act), St g B w0 I0 E → E.L fr a.tmps.toList → a.defers = ds → k .normal fr E.H = some r → Q .normal a E.w
  ext : ∀ id fr (E : Env) (a : Act), St g B w0 I0 E → E.L fr a.tmps.toList → a.defers = ds → k (.exit id) fr E.H = some r → Q (.exit id) a E.w
  ret : ∀ fr (E : Env) (a : Act), St g B w0 I0 E → E.L fr a.tmps.toList → a.defers = ds → k .ret fr E.H = some r → Q .ret a E.w
  pan : ∀ av v fr (E : Env) (a : Act), St g B w0 I0 E → E.L fr a.tmps.toList → E.V av v → a.defers = ds → k (.panic av) fr E.H = some r → Q (.panic [{ v, recovered := false }]) a E.w

theorem look_ok {E : Env} (i : Nat) {x : AV} {v : Value} (h : E.V x v) : ∀ hs : List (Nat × Option CTy), E.V (lookH hs i x) v
  | [] => by simp [lookH, Env.V, VR]
  | (j, o) :: hs => by
    simp only [lookH]
    cases Nat.beq j i with
    | true =>
      cases o with
      | none => exact h
      | some τ => exact nrmV_ok h
    | false => exact look_ok i h hs
theorem mask_ok {E : Env} (live : List (Nat × Option CTy)) : ∀ (i : Nat) (fr : List AV) (vs : List Value), E.L fr vs → E.L (maskL live i fr) vs
  | _, [], vs, h => by simpa only [maskL] using h
  | _, _ :: _, [], h => by simp [Env.L, LR] at h
  | i, x :: xs, v :: vs, h => by
    simp only [Env.L, LR] at h
    simp only [maskL, Env.L, LR]
    exact ⟨look_ok i h.1 live, mask_ok live (i + 1) xs vs h.2⟩

theorem prep_ok {E : Env} (hS : St g B w0 I0 E) {fr : List AV} {vs : List Value} (hfr : E.L fr vs) {live : List (Nat × Option CTy)} {k : List AV → AHeap → Option R} (h : prep live fr E.H k = some r) :
    ∃ fr' E', St g B w0 I0 E' ∧ E'.L fr' vs ∧ E'.w = E.w ∧ k fr' E'.H = some r ∧ ∀ x v, pureA x = true → E.V x v → E'.V x v := by
  have hn : (gcO (maskL live 0 fr) E.H).Nodup := addAll_nodup (order_nodup _ _)
  exact ⟨_, subE E (gcO (maskL live 0 fr) E.H), hS.gc hn, LR_ren (fun b hb => ⟨hb, rfl⟩) _ _ _ vs (fun r p q hT hq => subE_tab hT hq) (mask_ok live 0 fr vs hfr), rfl, h, fun x v hp hv => VR_noTab (VR_m (VR_pure hp hv))⟩
theorem pure_kd0 : ∀ x : AV, pureA (kd (fun _ => false) x) = true := fun x => rf_kd x

theorem leave_ok {hint : Hint R} {cur : Nat} {q : Option Nat} {k : List AV → AHeap → Option R} {fr : List AV} {E : Env} {vs : List Value} (hS : St g B w0 I0 E) (hfr : E.L fr vs) (h : leave hint cur q k fr E.H = some r) :
    ∃ fr' E', St g B w0 I0 E' ∧ E'.L fr' vs ∧ E'.w = E.w ∧ k fr' E'.H = some r := by
  unfold leave at h
  split at h
  · obtain ⟨fr', E', h1, h2, h3, h4, _⟩ := prep_ok hS hfr h
    exact ⟨fr', E', h1, h2, h3, h4⟩
  · exact ⟨fr, E, hS, hfr, rfl, h⟩
theorem tied_of {E : Env} {fr : List AV} {vs : List Value} (hS : St g B w0 I0 E) (h : E.L fr vs) : Tied fr E.H := by
  have key : ∀ {T : Tab} {q n : Nat} {v : Value}, (T = tab E.H ∨ T = noTab) → VR E.w E.I E.m T (.sl q n) v → ∃ W, E.H[q]? = some (some W) ∧ W.n = n := fun {T q n v} hT hv => by
    simp only [VR] at hv
    obtain ⟨⟨k, hk⟩, _⟩ := hv
    rcases hT with rfl | rfl
    · unfold tab at hk
      split at hk
      · rename_i W hW
        cases hk
        exact ⟨W, hW, rfl⟩
      · cases hk
    · cases hk
  refine ⟨fun q n hm => ?_, fun q W l hW hb he q' n hm => ?_⟩
  · obtain ⟨j, hj⟩ := List.getElem?_of_mem hm
    obtain ⟨v, _, hv⟩ := LR_get h j _ hj
    exact key (.inl rfl) hv
  · have hk := hS.rows q W hW
    rcases hb with hb | ⟨hb, hb2⟩
    rotate_left
    · obtain ⟨j, hj⟩ := List.getElem?_of_mem hm
      obtain ⟨v, _, hv⟩ := LR_get (hk.gh l hb hb2 he) j _ hj
      exact key (.inl rfl) hv
    have hn : W.n = 1 := hk.bx hb
    obtain ⟨_, _, _, _, _, _, _, _, _, hx⟩ := hk.mem (hk.al (.inl (by omega)))
    obtain ⟨j, hj⟩ := List.getElem?_of_mem hm
    obtain ⟨v, _, hv, _⟩ := hx 0 (by omega) j (.sl q' n) (by unfold Row.els; rw [he]; exact hj)
    refine key ?_ hv
    unfold rowT
    split
    · exact .inr rfl
    · exact .inl rfl
theorem tied_old {E : Env} {fr : List AV} {vs : List Value} (h : E.L fr vs) : ∀ q n, AV.sl q n ∈ fr → ∃ W, E.H[q]? = some (some W) ∧ W.n = n := fun q n hm => by
  obtain ⟨j, hj⟩ := List.getElem?_of_mem hm
  obtain ⟨v, _, hv⟩ := LR_get h j _ hj
  simp only [VR] at hv
  obtain ⟨⟨k, hk⟩, _⟩ := hv
  unfold tab at hk
  split at hk
  · rename_i W hW
    cases hk
    exact ⟨W, hW, rfl⟩
  · cases hk

theorem mask_len (live : List (Nat × Option CTy)) : ∀ (i : Nat) (fr : List AV), (maskL live i fr).length = fr.length
  | _, [] => rfl
  | i, x :: xs => by simp only [maskL, List.length_cons, mask_len live (i + 1) xs]
theorem mask_tops {D : Nat → Bool} : ∀ (i : Nat) (fr : List AV), ∀ x ∈ kds D (maskL [] i fr), x = .top
  | _, [], x, h => by simp [maskL, kds] at h
  | i, y :: ys, x, h => by
    simp only [maskL, kds, lookH, kd, List.mem_cons] at h
    exact h.elim id (mask_tops (i + 1) ys x)
theorem tops_ok {E : Env} : ∀ {l : List AV} {vs : List Value}, l.length = vs.length → (∀ x ∈ l, x = .top) → E.L l vs
  | [], [], _, _ => by simp [Env.L, LR]
  | [], _ :: _, h, _ => by simp at h
  | _ :: _, [], h, _ => by simp at h
  | x :: xs, v :: vs, h, hx => by
    simp only [Env.L, LR]
    refine ⟨?_, tops_ok (by simpa using h) fun y hy => hx y (List.mem_cons_of_mem _ hy)⟩
    rw [hx x List.mem_cons_self]
    simp [VR]
/-- Control. -/
theorem exec_sound (hL : TysOk P L) (hP : PureOk P g Γ) (hG : CsOk P g Γ) (hm : P.follows .mixedOrders = true) {hint : Hint R} {n : Nat} {ds : List Deferred} (c : Code) :
    ∀ (cur : Nat) (_ : RunsOk L Γ hint n c cur) (k : XE → List AV → AHeap → Option R) (Q : Exit → Act → World → Prop) (fr : List AV) (E : Env) (a : Act), exec L Γ hint n c cur k fr E.H = some r → St g B w0 I0 E → E.L fr a.tmps.toList → a.defers = ds → KOK P g B w0 I0 ds Q k r → c.wp P Q a E.w := by
  induction c with
  | skip => intro cur hR k Q fr E a h hS hfr hd hk; simp only [exec] at h; exact wp_skip (hk.nrm fr E a hS hfr hd h)
  | label l => intro cur hR k Q fr E a h hS hfr hd hk; simp only [exec] at h; exact wp_label (hk.nrm fr E a hS hfr hd h)
  | region id ops draw =>
    intro cur hR k Q fr E a h hS hfr hd hk
    cases draw with
    | false =>
      simp only [exec] at h
      exact wp_region_list (execOps_sound hL hP hG (fun fr E a hS hfr hd h => hk.nrm fr E a hS hfr hd h) (fun av v fr E a hS hfr hv hd h => by
        unfold dies at h
        split at h
        · obtain ⟨fr', E', h1, h2, h3, h4, h5⟩ := prep_ok hS hfr h
          exact h3 ▸ hk.pan _ v _ E' a h1 h2 (h5 _ _ (pure_kd0 _) (VR_kd _ _ _ hv)) hd h4
        · obtain ⟨s1, s2⟩ := hS.cut (D := fun _ => false) (H' := []) (fun r W h => by simp at h) (fun r W _ h => by cases h)
          exact hk.pan _ v _ { E with H := [] } a s1 (s2.L (rfs_kds _) (LR_kds _ _ _ (mask_ok [] 0 fr _ hfr))) (s2.V (rf_kd _) (VR_kd _ _ _ hv)) hd h) ops.toList fr E a hS hfr hd h)
    | true =>
      simp only [exec] at h
      split at h
      · rename_i s hs
        obtain ⟨hlen, h⟩ := cond_some h
        obtain ⟨s1, s2⟩ := hS.at_ (w' := { E.w with drawn := E.w.drawn + 1 }) ⟨rfl, rfl, rfl, Nat.le_refl _, fun _ _ => rfl⟩
        refine wp_mono (Q := fun e a w => match e with
          | .panic c => ∀ a' : Act, a'.defers = a.defers → a'.tmps.size = a.tmps.size → Q (.panic c) a' w
          | e => Q e a w) (PrintLast.wp_region_last hm (S := fun w' => Below E.w.heap.size { E.w with drawn := E.w.drawn + 1 } w') (ds := (s.filter fun p => Nat.beq p.2 2).map (·.1)) ?_) (fun e a w hh => by
            cases e with
            | panic c => exact hh a rfl rfl
            | _ => exact hh)
        exact execS_sound (ds := ds) (W0 := { E.w with drawn := E.w.drawn + 1 }) (Q := Q) hL hP hG (fun e a w => by cases e <;> rfl) (fun fr E a hS hfr hd h => hk.nrm fr E a hS hfr hd h) (fun av v fr E a hS hl hv hd h => by
          obtain ⟨s1, s2⟩ := hS.cut (D := fun _ => false) (H' := []) (fun r W h => by simp at h) (fun r W _ h => by cases h)
          exact hk.pan _ v _ { E with H := [] } a s1 (tops_ok (by rw [kds_len, mask_len]; rw [hl, Array.length_toList]) (mask_tops 0 fr)) (s2.V (rf_kd _) (VR_kd _ _ _ hv)) hd h) s false _ _ fr { E with w := { E.w with drawn := E.w.drawn + 1 } } a (Nat.le_of_ble_eq_true hlen) (fun _ => rfl) s1 (s2.L (rfs_all _) hfr) hd h
      obtain ⟨hB, h⟩ := cond_some h
      refine wp_region_quiet (C := fun w' => Below E.w.heap.size E.w w') hm hB ⟨rfl, rfl, rfl, Nat.le_refl _, fun _ _ => rfl⟩ ?_
      refine execQ_sound (ds := ds) hL hP hS (fun fr' a' hfr' hd' h' w' hw' => ?_) ops.toList fr a hfr hd h
      obtain ⟨s1, s2⟩ := hS.at_ hw'
      exact hk.nrm fr' { E with w := w' } a' s1 (s2.L (rfs_all _) hfr') hd' h'
  | seq x y ihx ihy =>
    intro cur hR k Q fr E a h hS hfr hd hk
    simp only [exec] at h
    refine wp_seq (ihx cur hR.1 _ _ fr E a h hS hfr hd ⟨fun fr' E' a' h1 h2 h3 h4 => ?_, fun id fr' E' a' h1 h2 h3 h4 => hk.ext id fr' E' a' h1 h2 h3 h4, fun fr' E' a' h1 h2 h3 h4 => hk.ret fr' E' a' h1 h2 h3 h4, fun av v fr' E' a' h1 h2 h3 h4 h5 => hk.pan av v fr' E' a' h1 h2 h3 h4 h5⟩)
    exact ihy cur hR.2 k Q fr' E' a' h4 h1 h2 h3 hk
  | cond c x y ihx ihy =>
    intro cur hR k Q fr E a h hS hfr hd hk
    simp only [exec] at h
    split at h
    · rename_i b he
      have hc := ev_ok hfr c
      rw [he, V_b] at hc
      split at h
      · rename_i hb
        subst hb
        exact wp_cond_true hc (ihx cur hR.1 k Q fr E a h hS hfr hd hk)
      · rename_i hb
        have : b = false := by simpa using hb
        subst this
        exact wp_cond_false hc (ihy cur hR.2 k Q fr E a h hS hfr hd hk)
    · exact none_ne h
  | block id c ih =>
    intro cur hR k Q fr E a h hS hfr hd hk
    simp only [exec] at h
    refine wp_block (ih id hR _ _ fr E a h hS hfr hd ⟨fun fr' E' a' h1 h2 h3 h4 => hk.nrm fr' E' a' h1 h2 h3 h4, fun j fr' E' a' h1 h2 h3 h4 => ?_, fun fr' E' a' h1 h2 h3 h4 => hk.ret fr' E' a' h1 h2 h3 h4, fun av v fr' E' a' h1 h2 h3 h4 h5 => hk.pan av v fr' E' a' h1 h2 h3 h4 h5⟩)
    simp only [Exit.inBlock]
    cases hj : Nat.beq j id with
    | true =>
      have : j = id := Nat.eq_of_beq_eq_true hj
      rw [if_pos this]
      simp only [hj, cnd_true] at h4
      exact hk.nrm fr' E' a' h1 h2 h3 h4
    | false =>
      have : j ≠ id := Nat.ne_of_beq_eq_false hj
      rw [if_neg this]
      simp only [hj, cnd_false] at h4
      exact hk.ext j fr' E' a' h1 h2 h3 h4
  | loop c ih =>
    intro cur hR k Q fr E a h hS hfr hd hk
    simp only [exec] at h
    have key : ∀ (q : Nat) (fr : List AV) (E : Env) (a : Act), iterA (hint.live cur) (fun k fr H => exec L Γ hint n c cur k fr H) k q fr E.H = some r → St g B w0 I0 E → E.L fr a.tmps.toList → a.defers = ds → Code.rounds P c Q q a E.w := by
      intro q
      induction q with
      | zero => intro fr E a h; simp only [iterA] at h; exact none_ne h
      | succ q ihq =>
        intro fr E a h hS hfr hd
        simp only [iterA] at h
        rw [rounds_succ]
        refine ih cur hR.2 _ _ fr E a h hS hfr hd ⟨fun fr' E' a' h1 h2 h3 h4 => ?_, fun id fr' E' a' h1 h2 h3 h4 => hk.ext id fr' E' a' h1 h2 h3 h4, fun fr' E' a' h1 h2 h3 h4 => hk.ret fr' E' a' h1 h2 h3 h4, fun av v fr' E' a' h1 h2 h3 h4 h5 => hk.pan av v fr' E' a' h1 h2 h3 h4 h5⟩
        obtain ⟨fr2, E2, s1, s2, s3, s4, _⟩ := prep_ok h1 h2 h4
        exact s3 ▸ ihq fr2 E2 a' s4 s1 s2 h3
    have run_ : ∀ (f : (XE → List AV → AHeap → Option R) → List AV → AHeap → Option R), hint.run cur = some f → ∀ (fr : List AV) (E : Env) (a : Act), St g B w0 I0 E → E.L fr a.tmps.toList → a.defers = ds →
        prep (hint.live cur) fr E.H (f k) = some r → Code.rounds P c Q n a E.w := fun f hf fr E a hS hfr hd h => by
      obtain ⟨fr2, E2, s1, s2, s3, s4, _⟩ := prep_ok hS hfr h
      have := hR.1 f hf _ _ _ _ (tied_of s1 s2) s4
      exact s3 ▸ key n _ E2 a this s1 s2 hd
    split at h
    · rename_i f hf
      cases hpl : hint.pl cur with
      | true =>
        rw [hpl, cnd_true] at h
        refine wp_loop_rounds (n + 1) ?_
        rw [rounds_succ]
        refine ih cur hR.2 _ _ fr E a h hS hfr hd ⟨fun fr' E' a' h1 h2 h3 h4 => ?_, fun id fr' E' a' h1 h2 h3 h4 => hk.ext id fr' E' a' h1 h2 h3 h4, fun fr' E' a' h1 h2 h3 h4 => hk.ret fr' E' a' h1 h2 h3 h4, fun av v fr' E' a' h1 h2 h3 h4 h5 => hk.pan av v fr' E' a' h1 h2 h3 h4 h5⟩
        exact run_ f hf fr' E' a' h1 h2 h3 h4
      | false =>
        rw [hpl, cnd_false] at h
        exact wp_loop_rounds n (run_ f hf fr E a hS hfr hd h)
    · obtain ⟨fr2, E2, s1, s2, s3, s4, _⟩ := prep_ok hS hfr h
      exact wp_loop_rounds n (s3 ▸ key n _ E2 a s4 s1 s2 hd)
  | rangeFunc f ps x y _ _ => intro cur hR k Q fr E a h; simp only [exec] at h; exact none_ne h
  | exit id =>
    intro cur hR k Q fr E a h hS hfr hd hk
    simp only [exec] at h
    obtain ⟨fr', E', h1, h2, h3, h4⟩ := leave_ok hS hfr h
    exact wp_exit (h3 ▸ hk.ext id fr' E' a h1 h2 hd h4)
  | scope c _ => intro cur hR k Q fr E a h; simp only [exec] at h; exact none_ne h
  | goto l => intro cur hR k Q fr E a h; simp only [exec] at h; exact none_ne h
  | ret =>
    intro cur hR k Q fr E a h hS hfr hd hk
    simp only [exec] at h
    obtain ⟨fr', E', h1, h2, h3, h4⟩ := leave_ok hS hfr h
    exact wp_ret (h3 ▸ hk.ret fr' E' a h1 h2 hd h4)
  | refuse w => intro cur hR k Q fr E a h; simp only [exec] at h; exact none_ne h
end
end Go.Proofs.YthmhobnhladhbaaDoor.AM
