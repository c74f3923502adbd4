/- The abstract machine, part 21: functions with one deferred call of a function that recovers. -/
import Derived.Test.YthmhobnhladhbaaDoorAm20
import Derived.Recover
namespace Go.Proofs.YthmhobnhladhbaaDoor.AM
open Go Go.RowKit
set_option linter.unusedSimpArgs false
set_option linter.unusedVariables false

/-- What recovers, and where to: two slots. -/
def recT : List Oper → Option (Tmp × Tmp)
  | [⟨some d1, .call ⟨.builtin .recover, _, _⟩, _, _, _, none⟩, ⟨some d2, .assign (.tmp d), _, _, _, none⟩] => cnd (Nat.beq d d1) (some (d1, d2)) none
  | _ => none
theorem recT_some {l : List Oper} {d1 d2 : Tmp} (h : recT l = some (d1, d2)) : ∃ ag ats t1 p1 a1 t2 p2 a2, l = [⟨some d1, .call ⟨.builtin .recover, ag, ats⟩, t1, p1, a1, none⟩, ⟨some d2, .assign (.tmp d1), t2, p2, a2, none⟩] := by
  unfold recT at h
  split at h
  · obtain ⟨hd, h⟩ := cond_some h
    have hd := Nat.eq_of_beq_eq_true hd
    cases h
    subst hd
    exact ⟨_, _, _, _, _, _, _, _, rfl⟩
  · cases h
/-- What defers: whom. -/
def defT : List Oper → Option Call
  | [⟨none, .defer c, _, _, _, none⟩] => some c
  | _ => none
theorem defT_some {l : List Oper} {c : Call} (h : defT l = some c) : ∃ t p a, l = [⟨none, .defer c, t, p, a, none⟩] := by
  unfold defT at h
  split at h
  · cases h; exact ⟨_, _, _, rfl⟩
  · cases h

section
variable {R : Type}
def hint0 : Hint R := { live := fun _ => [], run := fun _ => none, xm := fun _ _ => none }
def seqT : Code → Option (Code × Code)
  | .seq a b => some (a, b)
  | _ => none
def regT : Code → Option (Array Oper)
  | .region _ ops false => some ops
  | _ => none
def ghostK (k : List AV → AHeap → Option R) (H : AHeap) : Option R := match ghostOf H with
  | some l => k l H
  | none => none
/-- The deferred call. -/
def deferA (L : Tys) (Γ : Callees R) (n : Nat) (f2 : Func) (rv : AV) (ga fr : List AV) (H : AHeap) (k : List AV → AHeap → Option R) : Option R := match f2.body with
  | some c => match seqT c with
    | some (c1, c2) => match regT c1 with
      | some ops => match recT ops.toList with
        | some (d1, d2) => exec L Γ hint0 n c2 0 (fun e fr2 H2 => match e with
            | .normal => match resLA L fr2 H2 f2.results.toList with
              | some _ => ghostK k H2
              | none => none
            | .ret => match resLA L fr2 H2 f2.results.toList with
              | some _ => ghostK k H2
              | none => none
            | _ => none) (((frameA f2.ntmps ga).set d1 rv).set d2 (evA ((frameA f2.ntmps ga).set d1 rv) (.tmp d1))) (H ++ [some (ghostRow fr)])
        | none => none
      | none => none
    | none => none
  | none => none
def exitO (L : Tys) (Γ : Callees R) (n : Nat) (f2 : Func) (rs : List ResultVar) (rv : AV) (ga fr : List AV) (H : AHeap) (o : List Nat) (k : AV → AHeap → Option R) : Option R :=
  cnd (noG (subH o H)) (deferA L Γ n f2 (ren (posN o) rv) (rens (posN o) ga) (rens (posN o) fr) (subH o H) (fun l H2 => match resLA L l H2 rs with
    | some l => k (tupA l) H2
    | none => none)) none
/-- The end of a function that deferred a call. -/
def exitD (L : Tys) (Γ : Callees R) (n : Nat) (f2 : Func) (rs : List ResultVar) (rv : AV) (fr : List AV) (H : AHeap) (k : AV → AHeap → Option R) : Option R := match ghostOf H with
  | some ga => exitO L Γ n f2 rs rv ga fr H (order (ga ++ fr) H) k
  | _ => none
/-- A function that defers one call ahead of all else but its variables. -/
def fnD (L : Tys) (Γ : Callees R) (hint : Hint R) (n : Nat) (q : FuncId) (f2 : Func) (fn : Func) (args : List AV) (k : AV → AHeap → Option R) : Option R := match fn.body with
  | some c => match seqT c with
    | some (ca, c') => match seqT c' with
      | some (cr, cb) => match regT cr with
        | some ops => match defT ops.toList with
          | some d => match d.callee with
            | .value f => exec L Γ hint n ca 0 (fun e fr H => match e with
              | .normal => match evA fr f with
                | .fn q' [] => cnd (Nat.beq q' q && noG H) (exec L Γ hint n cb 0 (fun e fr' H' => match e with
                    | .normal => exitD L Γ n f2 fn.results.toList (.b .nilIface) fr' H' k
                    | .ret => exitD L Γ n f2 fn.results.toList (.b .nilIface) fr' H' k
                    | .panic v => exitD L Γ n f2 fn.results.toList v fr' H' k
                    | .exit _ => none) fr (H ++ [some (ghostRow (d.args.toList.map (evA fr)))])) none
                | _ => none
              | _ => none) (frameA fn.ntmps args) []
            | _ => none
          | none => none
        | none => none
      | none => none
    | none => none
  | none => none
end

section
variable {P : Program} {g : Glob} {L : Tys} {B : Nat → Prop} {w0 : World} {I0 : Nat → Prop} {R : Type} {r : R}

theorem seqT_some {c a b : Code} (h : seqT c = some (a, b)) : c = .seq a b := by
  unfold seqT at h
  split at h
  · cases h; rfl
  · cases h
theorem regT_some {c : Code} {ops : Array Oper} (h : regT c = some ops) : ∃ id, c = .region id ops false := by
  unfold regT at h
  split at h
  · cases h; exact ⟨_, rfl⟩
  · cases h
theorem ghostK_some {k : List AV → AHeap → Option R} {E : Env} (hS : St g B w0 I0 E) (h : ghostK k E.H = some r) : ∃ l, E.L l g.gs ∧ k l E.H = some r := by
  unfold ghostK at h
  split at h
  · rename_i l hl
    exact ⟨l, ghostOf_ok hS hl, h⟩
  · cases h

theorem frame_ok {E : Env} {args : List AV} {vs : List Value} (hargs : E.L args vs) (m : Nat) : E.L (frameA m args) (vs.toArray ++ Array.replicate (m - vs.toArray.size) undef).toList := by
  have hlen : args.length = vs.length := LR_len hargs
  unfold frameA
  simp only [Array.toList_append, Array.toList_replicate, List.size_toArray, hlen]
  refine L_append hargs ?_
  generalize m - vs.length = q
  induction q with
  | zero => simp [Env.L, LR]
  | succ q ih => simp only [List.replicate_succ, Env.L, LR]; exact ⟨V_b.2 rfl, ih⟩

/-- How the frame behind stands when its deferred call begins: it returns, or panics with this. -/
inductive Mode0 : FrameMode → Value → Prop
  | ret : Mode0 .returning .nilIface
  | pan (v : Value) : Mode0 (.panicking [{ v, recovered := false }]) v

theorem deferA_sound (hL : TysOk P L) {Γ : Callees R} (hP : PureOk P g Γ) (hG : CsOk P g Γ) (hm : P.follows .mixedOrders = true) {n : Nat} {q : FuncId} {f2 : Func} (hf : P.funcs[q]? = some f2)
    (hR : ∀ c c1 c2, f2.body = some c → seqT c = some (c1, c2) → RunsOk L Γ hint0 n c2 0)
    {rv : AV} {v : Value} {ga fr : List AV} {gvs frv : List Value} {E : Env} (hS : St g B w0 I0 E) (hn : noG E.H = true) (hv : E.V rv v) (hga : E.L ga gvs) (hfr : E.L fr frv) {k : List AV → AHeap → Option R}
    (h : deferA L Γ n f2 rv ga fr E.H k = some r) {u : FrameMode} (hu : Mode0 u v) {Rr : World → Prop}
    (hk : ∀ l (E' : Env), St { g with gs := frv } B w0 I0 E' → E'.L l frv → k l E'.H = some r → Rr E'.w) :
    CallsD P q gvs.toArray u E.w fun e u' w' => (∃ x, e = .returned x) ∧ settle u' = .returning ∧ Rr w' := by
  unfold deferA at h
  split at h
  · rename_i c hc
    split at h
    · rename_i c1 c2 hs
      split at h
      · rename_i ops ho
        split at h
        · rename_i d1 d2 hr
          refine callsD_of_wpS hf hc ?_
          intro c₀ cs hc0
          obtain ⟨id, rfl⟩ := regT_some ho
          have hc := seqT_some hs
          subst hc
          obtain ⟨ag, ats, t1, p1, a1, t2, p2, a2, hops⟩ := recT_some hr
          have hops : ops = #[⟨some d1, .call ⟨.builtin .recover, ag, ats⟩, t1, p1, a1, none⟩, ⟨some d2, .assign (.tmp d1), t2, p2, a2, none⟩] := by
            rw [← Array.toArray_toList (xs := ops), hops]
          subst hops
          refine wpS_seq (wpS_region ?_)
          -- both operations
          generalize ha0 : ({ tmps := gvs.toArray ++ Array.replicate (f2.ntmps - gvs.toArray.size) undef, defers := [] } : Act) = a0
          have hfr0 : E.L (frameA f2.ntmps ga) a0.tmps.toList := by subst ha0; exact frame_ok hga f2.ntmps
          have hd0 : a0.defers = [] := by subst ha0; rfl
          have hfin : ∀ (u' : FrameMode), settle u' = .returning → c2.wpS P (bodyPostS P f2 c₀ cs fun e u' w' => (∃ x, e = Ending.returned x) ∧ settle u' = .returning ∧ Rr w')
              ((a0.put (some d1) v).put (some d2) ((a0.put (some d1) v).eval (.tmp d1))) ({ c₀ with mode := u' } :: cs) E.w := fun u' hu' => by
            refine wpS_of_wp ?_
            obtain ⟨s1, s2⟩ := (hS.regs (gs := frv) hn).ghost (W := ghostRow fr) frv rfl rfl rfl (fun l _ _ hl => by cases hl; exact gh1_ok hfr) (fun _ _ => rfl)
            refine exec_sound (ds := []) hL hP.regs hG.regs hm c2 0 (hR _ _ _ hc hs) _ _ _ { E with m := upd E.m E.H.length ⟨0, 0, false, frv⟩, H := E.H ++ [some (ghostRow fr)] } _ h s1 ?_ ?_ ⟨fun fr2 E' a' h1 h2 h3 h4 => ?_, fun id fr2 E' a' h1 h2 h3 h4 => ?_, fun fr2 E' a' h1 h2 h3 h4 => ?_, fun av v fr2 E' a' h1 _ h2 h3 h4 => ?_⟩
            · exact s2.L (rfs_all _) (L_put (d := some d2) (L_put (d := some d1) hfr0 hv) (ev_ok (L_put (d := some d1) hfr0 hv) _))
            · rw [put_defers, put_defers, hd0]
            · simp only at h4
              split at h4
              · rename_i l hl
                obtain ⟨l2, k1, k2⟩ := ghostK_some h1 h4
                obtain ⟨x, hx, _⟩ := results_ok hL h1 h2 hl
                exact ⟨h3, u', rfl, x, hx, ⟨x, rfl⟩, hu', hk l2 E' h1 k1 k2⟩
              · cases h4
            · cases h4
            · simp only at h4
              split at h4
              · rename_i l hl
                obtain ⟨l2, k1, k2⟩ := ghostK_some h1 h4
                obtain ⟨x, hx, _⟩ := results_ok hL h1 h2 hl
                exact ⟨h3, u', rfl, x, hx, ⟨x, rfl⟩, hu', hk l2 E' h1 k1 k2⟩
              · cases h4
            · cases h4
          have hrange : List.range (Array.size #[(⟨some d1, .call ⟨.builtin .recover, ag, ats⟩, t1, p1, a1, none⟩ : Oper), ⟨some d2, .assign (.tmp d1), t2, p2, a2, none⟩]) = [0, 1] := rfl
          rw [hrange]
          cases hu with
          | ret =>
            have := hfin .returning rfl
            have e1 : ({ c₀ with mode := .returning } : Frame) = c₀ := by rw [← hc0]
            rw [e1] at this
            simp [wpOpsS, Region.wanted, execOp, resolve, invoke, builtin, recoverD, hc0, Oper.upon, yielded]
            exact this
          | pan v =>
            have := hfin (.panicking [{ v, recovered := true }]) rfl
            simp [wpOpsS, Region.wanted, execOp, resolve, invoke, builtin, recoverD, hc0, Oper.upon, yielded]
            exact this
        · cases h
      · cases h
    · cases h
  · cases h

theorem exitD_sound (hL : TysOk P L) {Γ : Callees R} (hP : PureOk P g Γ) (hG : CsOk P g Γ) (hm : P.follows .mixedOrders = true) {n : Nat} {q : FuncId} {f2 fn : Func} (hq : P.funcs[q]? = some f2) (hen : Enters P q)
    (hR : ∀ c c1 c2, f2.body = some c → seqT c = some (c1, c2) → RunsOk L Γ hint0 n c2 0)
    {rv : AV} {v : Value} {fr : List AV} {tmps : Array Value} {E : Env} {gvs : Array Value} (hS : St { g with gs := gvs.toList } B w0 I0 E) (hv : E.V rv v) (hfr : E.L fr tmps.toList) {k : AV → AHeap → Option R}
    (h : exitD L Γ n f2 fn.results.toList rv fr E.H k = some r) {u : FrameMode} (hu : Mode0 u v) {Q : Ending → World → Prop}
    (hk : ∀ gs av v (E' : Env), St { g with gs := gs } B w0 I0 E' → E'.V av v → k av E'.H = some r → Q (.returned v) E'.w) :
    Leaves P fn tmps Q [{ target := .fn (.func q) #[], args := gvs }] u E.w := by
  refine leaves_cons (f := q) (args := gvs) (by cases hu <;> simp) (by simpa [invoke] using hen gvs E.w) ?_
  unfold exitD at h
  split at h
  · rename_i ga hrow
    have hga := ghostOf_ok hS hrow
    unfold exitO at h
    obtain ⟨hno, h⟩ := cond_some h
    generalize horder : order (ga ++ fr) E.H = o at h hno
    have hnd : o.Nodup := horder ▸ order_nodup _ _
    have hgc := hS.gc hnd
    have hreg : St g B w0 I0 (subE E o) := hgc.regs (gs := g.gs) hno
    refine (deferA_sound (frv := tmps.toList) hL hP hG hm hq hR hreg hno (VR_ren (fun b hb => ⟨hb, rfl⟩) rv _ _ v (fun r p q hT hq => subE_tab hT hq) hv) (LR_ren (fun b hb => ⟨hb, rfl⟩) ga _ _ _ (fun r p q hT hq => subE_tab hT hq) hga)
      (LR_ren (fun b hb => ⟨hb, rfl⟩) fr _ _ _ (fun r p q hT hq => subE_tab hT hq) hfr) h hu (Rr := fun w' => Leaves P fn tmps Q [] .returning w') (fun l E' h1 h2 h3 => ?_)).mono ?_
    · split at h3
      · rename_i l2 hl2
        obtain ⟨x, hx, hV⟩ := results_ok hL h1 h2 hl2
        exact ⟨x, hx, hk _ _ x E' h1 hV h3⟩
      · cases h3
    · rintro e u' w' ⟨⟨x, rfl⟩, hset, hl⟩
      simp only [hset]
      exact hl
  · cases h

/-- A function that defers one call. -/
theorem fnD_sound (hL : TysOk P L) {Γ : Callees R} (hP : PureOk P g Γ) (hG : CsOk P g Γ) (hm : P.follows .mixedOrders = true) {hint : Hint R} {n : Nat} {f q : FuncId} {fn f2 : Func} (hf : P.funcs[f]? = some fn) (hq : P.funcs[q]? = some f2) (hen : Enters P q)
    (hR : ∀ c ca c' cr cb, fn.body = some c → seqT c = some (ca, c') → seqT c' = some (cr, cb) → RunsOk L Γ hint n ca 0 ∧ RunsOk L Γ hint n cb 0) (hR2 : ∀ c c1 c2, f2.body = some c → seqT c = some (c1, c2) → RunsOk L Γ hint0 n c2 0)
    {args : List AV} {vs : List Value} {E : Env} (hS : St g B w0 I0 E) (hE : E.H = []) (hargs : E.L args vs) {k : AV → AHeap → Option R} (h : fnD L Γ hint n q f2 fn args k = some r) {Q : Ending → World → Prop}
    (hk : ∀ gs av v (E' : Env), St { g with gs := gs } B w0 I0 E' → E'.V av v → k av E'.H = some r → Q (.returned v) E'.w) : Calls P f vs.toArray E.w Q := by
  unfold fnD at h
  split at h
  · rename_i c hc
    split at h
    · rename_i ca c' hs1
      split at h
      · rename_i cr cb hs2
        split at h
        · rename_i ops ho
          split at h
          · rename_i d hd
            split at h
            · rename_i fo hfo
              refine calls_of_wp_defers hf hc ?_
              obtain ⟨hRa, hRb⟩ := hR _ _ _ _ _ hc hs1 hs2
              have e1 := seqT_some hs1
              have e2 := seqT_some hs2
              obtain ⟨id, e3⟩ := regT_some ho
              subst e1 e2 e3
              obtain ⟨t0, p0, a0, hops⟩ := defT_some hd
              have hops : ops = #[⟨none, .defer d, t0, p0, a0, none⟩] := by rw [← Array.toArray_toList (xs := ops), hops]
              subst hops
              refine wp_seq (exec_sound (ds := []) hL hP hG hm ca 0 hRa _ _ _ E _ (by rw [hE]; exact h) hS (frame_ok hargs _) rfl ⟨fun fr E1 a1 h1 h2 h3 h4 => ?_, fun id fr E1 a1 h1 h2 h3 h4 => ?_, fun fr E1 a1 h1 h2 h3 h4 => ?_, fun av v fr E1 a1 h1 _ h2 h3 h4 => ?_⟩)
              · simp only at h4
                split at h4
                · rename_i q' hqv
                  obtain ⟨hcond, h5⟩ := cond_some h4
                  simp only [Bool.and_eq_true] at hcond
                  have hqq := Nat.eq_of_beq_eq_true hcond.1
                  subst hqq
                  have hfv := ev_ok h2 fo
                  rw [hqv] at hfv
                  simp only [Env.V, VR] at hfv
                  obtain ⟨cap, hfv, hcap⟩ := hfv
                  have hcap : cap = #[] := by
                    rcases cap with ⟨_ | ⟨x, xs⟩⟩
                    · rfl
                    · simp [LR] at hcap
                  subst hcap
                  have hga : E1.L (d.args.toList.map (evA fr)) (d.args.map a1.eval).toList := by
                    rw [Array.toList_map]
                    exact L_map (ev_ok h2) _
                  refine wp_seq (wp_region_list ?_)
                  have hwant : Region.wanted (⟨none, .defer d, t0, p0, a0, none⟩ : Oper) (yielded #[(⟨none, .defer d, t0, p0, a0, none⟩ : Oper)] a1.tmps) = true := rfl
                  have hrun : (execOp a1.eval (⟨none, .defer d, t0, p0, a0, none⟩ : Oper)).run P E1.w = .ok (.defer { target := .fn (.func q') #[], args := d.args.map a1.eval }) E1.w := by
                    obtain ⟨callee, ag, ats⟩ := d
                    simp only at hfo
                    subst hfo
                    simp [execOp, resolve, hfv, Deferred.ofValue]
                  unfold wpList
                  rw [if_pos hwant]
                  refine .inl ?_
                  unfold Oper.wp
                  rw [hrun, Oper.upon_defer]
                  unfold wpList
                  obtain ⟨s1, s2⟩ := (h1.regs (gs := (d.args.map a1.eval).toList) hcond.2).ghost (W := ghostRow (d.args.toList.map (evA fr))) (d.args.map a1.eval).toList rfl rfl rfl (fun l _ _ hl => by cases hl; exact gh1_ok hga) (fun _ _ => rfl)
                  refine exec_sound (ds := [{ target := .fn (.func q') #[], args := d.args.map a1.eval }]) hL hP.regs hG.regs hm cb 0 hRb _ _ _ { E1 with m := upd E1.m E1.H.length ⟨0, 0, false, (d.args.map a1.eval).toList⟩, H := E1.H ++ [some (ghostRow (d.args.toList.map (evA fr)))] } _ h5 s1 (s2.L (rfs_all _) h2) (by simp [Act.put, h3])
                    ⟨fun fr E2 a2 k1 k2 k3 k4 => ?_, fun id fr E2 a2 k1 k2 k3 k4 => ?_, fun fr E2 a2 k1 k2 k3 k4 => ?_, fun av v fr E2 a2 k1 k2 kv k3 k4 => ?_⟩
                  · show Leaves _ _ _ _ _ _ _
                    rw [k3]
                    exact exitD_sound hL hP hG hm hq hen hR2 k1 (V_b.2 rfl) k2 k4 .ret hk
                  · cases k4
                  · show Leaves _ _ _ _ _ _ _
                    rw [k3]
                    exact exitD_sound hL hP hG hm hq hen hR2 k1 (V_b.2 rfl) k2 k4 .ret hk
                  · show Leaves _ _ _ _ _ _ _
                    rw [k3]
                    exact exitD_sound hL hP hG hm hq hen hR2 k1 kv k2 k4 (.pan v) hk
                · cases h4
              · cases h4
              · cases h4
              · cases h4
            · cases h
          · cases h
        · cases h
      · cases h
    · cases h
  · cases h

theorem ans_of_fnD (hL : TysOk P L) {es : List Entry} (hes : AllOk P g es) (hm : P.follows .mixedOrders = true) {hint : Hint Out} {n : Nat} {f q : FuncId} {fn f2 : Func} (hf : P.funcs[f]? = some fn) (hq : P.funcs[q]? = some f2) (hen : Enters P q)
    (hR : ∀ c ca c' cr cb, fn.body = some c → seqT c = some (ca, c') → seqT c' = some (cr, cb) → RunsOk L (callees Out es) hint n ca 0 ∧ RunsOk L (callees Out es) hint n cb 0) (hR2 : ∀ c c1 c2, f2.body = some c → seqT c = some (c1, c2) → RunsOk L (callees Out es) hint0 n c2 0) {args : List AV} {out : Out}
    (h : fnD L (callees Out es) hint n q f2 fn args (soloA fun v => some (.ret v)) = some out) : Ans P g f args out := by
  intro w I vs hI hg hn hargs
  have hS : St g (fun k => k < w.heap.size) w I { w := w, I := I, m := noInfo, H := [] } := ⟨Kept.refl _ _, fun k h => h, fun k hk => Nat.lt_of_lt_of_le hk hn, hn, hg, hI, fun b h => h, fun b h => .inl h, fun r W h => by simp at h, fun r r' W W' h => by simp at h, fun r W h => by simp at h⟩
  have htab : tab [] = noTab := by funext q; simp [tab, noTab]
  refine fnD_sound hL (callees_pure hes) (callees_cs hes) hm hf hq hen hR hR2 hS rfl (args := args) (vs := vs) (by simp only [Env.L, htab]; exact hargs) h (fun gs av v E' hS' hV hh => ?_)
  obtain ⟨rfl, h2, h3⟩ := solo_ok (c := Out.ret) hS' hV hh
  exact ⟨v, _, rfl, hS'.below.below (fun k h => h), fun b hb => .inl (hS'.imono b hb), fun b hb => hb.elim (fun h => (hS'.ifresh b h).imp_right Nat.le_of_not_lt) (fun h => .inr (Nat.le_of_not_lt h.1)), fun b hb => hb.elim (fun h => hS'.isz b h) (fun h => h.2), h3⟩
theorem runsD {Γ : Callees R} {hint : Hint R} {n : Nat} {fn : Func} (h : RunsOk L Γ hint n (codeAt [0] (bodyOf fn)) 0 ∧ RunsOk L Γ hint n (codeAt [1, 1] (bodyOf fn)) 0) :
    ∀ c ca c' cr cb, fn.body = some c → seqT c = some (ca, c') → seqT c' = some (cr, cb) → RunsOk L Γ hint n ca 0 ∧ RunsOk L Γ hint n cb 0 := fun c ca c' cr cb hc h1 h2 => by
  have e1 := seqT_some h1
  have e2 := seqT_some h2
  subst e1 e2
  have : bodyOf fn = .seq ca (.seq cr cb) := by unfold bodyOf; rw [hc]; rfl
  rw [this] at h
  exact h
theorem runsD2 {Γ : Callees R} {n : Nat} {fn : Func} (h : RunsOk L Γ (hint0 (R := R)) n (codeAt [1] (bodyOf fn)) 0) : ∀ c c1 c2, fn.body = some c → seqT c = some (c1, c2) → RunsOk L Γ hint0 n c2 0 := fun c c1 c2 hc h1 => by
  have e1 := seqT_some h1
  subst e1
  have : bodyOf fn = .seq c1 c2 := by unfold bodyOf; rw [hc]; rfl
  rw [this] at h
  exact h
/-- A function that is handed plain values, and tells one. -/
theorem ans_flat {f : FuncId} {args : List Value} {v : Value} (h : ∀ w, g.G w → g.n ≤ w.heap.size → Calls P f args.toArray w fun e w' => e = .returned v ∧ Below w.heap.size w w') : Ans P g f (args.map AV.b) (.ret (.b v)) := by
  intro w I vs hI hg hn hargs
  have hvs : vs = args := by
    clear h
    induction args generalizing vs with
    | nil => cases vs with
      | nil => rfl
      | cons _ _ => simp [LR] at hargs
    | cons a rest ih => cases vs with
      | nil => simp [LR] at hargs
      | cons u us =>
        simp only [List.map_cons, LR, VR] at hargs
        rw [hargs.1, ih us hargs.2]
  subst hvs
  refine (h w hg hn).mono ?_
  rintro e w' ⟨rfl, hb⟩
  exact ⟨v, I, rfl, hb, fun _ h => h, fun _ h => .inl h, fun b h => Nat.lt_of_lt_of_le (hI b h) hb.size, rfl⟩
theorem ent_flat {f : FuncId} {pc : {R : Type} → List AV → (AV → Option R) → (AV → Option R) → Option R} {args : List Value} {v : Value} (h : EntryOk P g ⟨f, pc, none, none⟩) (hp : pc (R := AV) (args.map AV.b) some (fun _ => none) = some (.b v))
    {w0 w : World} (hg : g.G w0) (hn : g.n ≤ w0.heap.size) (hb : Below w0.heap.size w0 w) : Calls P f args.toArray w fun e w' => e = .returned v ∧ Below w.heap.size w w' := by
  have hl : ∀ l : List Value, LR w (fun _ => False) noInfo noTab (l.map AV.b) l := fun l => by
    induction l with
    | nil => simp [LR]
    | cons a rest ih => simp only [List.map_cons, LR, VR]; exact ⟨trivial, ih⟩
  rcases h.ans rfl rfl AV _ some (fun _ => none) _ hp with ⟨av, h1, _, hA⟩ | ⟨av, h1, _⟩
  · cases h1
    refine (hA w (fun _ => False) args (fun _ h => h.elim) (g.stab w0 w (hb.mono hn) hg) (Nat.le_trans hn hb.size) (hl args)).mono ?_
    rintro e w' ⟨v', I', rfl, hb', _, _, _, hv⟩
    simp only [Out.av, VR] at hv
    subst hv
    exact ⟨rfl, hb'⟩
  · cases h1
end
end Go.Proofs.YthmhobnhladhbaaDoor.AM
