/- The abstract machine, part 18: functions; callees by a list. -/
import Derived.Test.YthmhobnhladhbaaDoorAm17
namespace Go.Proofs.YthmhobnhladhbaaDoor.AM
open Go Go.RowKit
set_option linter.unusedSimpArgs false
set_option linter.unusedVariables false

theorem TyOk.of_info {P : Program} {t : TypeId} {z : Value} {s b : Nat} (h : (P.info? t).map (fun i => (i.zero, i.size, i.bytes)) = some (some z, s, b)) : ∃ i, P.info? t = some i ∧ i.zero = some z ∧ i.size = s ∧ i.bytes = b := by
  cases hi : P.info? t with
  | none => rw [hi] at h; cases h
  | some i => rw [hi] at h; simp at h; exact ⟨i, rfl, h.1, h.2.1, h.2.2⟩
def okFrom (P : Program) : Nat → Tys → Prop
  | _, [] => True
  | t, none :: ys => okFrom P (t + 1) ys
  | t, some y :: ys => TyOk P t y ∧ okFrom P (t + 1) ys
theorem okFrom_get {P : Program} : ∀ {L : Tys} {q : Nat}, okFrom P q L → ∀ t y, tyAt L t = some y → TyOk P (q + t) y
  | [], q, _, t, y, h => by simp [tyAt] at h
  | none :: ys, q, h, 0, y, hy => by simp [tyAt] at hy
  | some z :: ys, q, h, 0, y, hy => by simp [tyAt] at hy; subst hy; exact h.1
  | none :: ys, q, h, t + 1, y, hy => by
    have := okFrom_get (q := q + 1) h t y (by simpa [tyAt] using hy)
    rwa [show q + (t + 1) = q + 1 + t by omega]
  | some z :: ys, q, h, t + 1, y, hy => by
    have := okFrom_get (q := q + 1) h.2 t y (by simpa [tyAt] using hy)
    rwa [show q + (t + 1) = q + 1 + t by omega]
theorem okFrom_ok {P : Program} {L : Tys} (h : okFrom P 0 L) : TysOk P L := fun t y hy => by
  have := okFrom_get h t y hy
  rwa [Nat.zero_add] at this

/-- A callee of which a function of ours tells what it answers. -/
structure Entry where
  f : FuncId
  pc : {R : Type} → List AV → (AV → Option R) → (AV → Option R) → Option R
  x : Option XFun
  c : Option ((R : Type) → List AV → AHeap → Option ((OutS → Option R) → Option R)) := none

structure EntryOk (P : Program) (g : Glob) (e : Entry) : Prop where
  enters : e.x = none → Enters P e.f
  xok : ∀ h vs v, e.x = some (.flat h) → h vs = some v → ∀ w, (callFunc e.f vs.toArray).run P w = .ok (.value v) w
  xid : e.x = some .ident → ∀ x w, (callFunc e.f #[x]).run P w = .ok (.value x) w
  cs : ∀ run, e.c = some run → e.x = none ∧ ∀ R args H F k r, run R args H = some F → F k = some r → ∃ out, k out = some r ∧ AnsS P g e.f args H out
  ans : e.x = none → e.c = none → ∀ (R : Type) (args : List AV) (kk pk : AV → Option R) (r : R), e.pc args kk pk = some r → (∃ av, kk av = some r ∧ pureA av = true ∧ Ans P g e.f args (.ret av)) ∨ (∃ av, pk av = some r ∧ pureA av = true ∧ Ans P g e.f args (.pan av))

def lookE : List Entry → FuncId → Option Entry
  | [], _ => none
  | e :: es, f => cnd (Nat.beq e.f f && e.c.isNone) (some e) (lookE es f)
def runC (R : Type) : List Entry → FuncId → List AV → AHeap → Option ((OutS → Option R) → Option R)
  | [], _, _, _ => none
  | e :: es, f, args, H => cnd (Nat.beq e.f f) (match e.c with
    | some c => match c R args H with
      | some r => some r
      | none => runC R es f args H
    | none => runC R es f args H) (runC R es f args H)

/-- Callees by a list; no others. -/
def callees (R : Type) (es : List Entry) : Callees R where
  isP f := match lookE es f with
    | some e => e.x.isNone
    | none => false
  xc f := match lookE es f with
    | some e => e.x
    | none => none
  pc f args kk pk := match lookE es f with
    | some e => e.pc args kk pk
    | none => none
  cs := runC R es

inductive AllOk (P : Program) (g : Glob) : List Entry → Prop
  | nil : AllOk P g []
  | cons {e : Entry} {es : List Entry} (h : EntryOk P g e) (hs : AllOk P g es) : AllOk P g (e :: es)

section
variable {P : Program} {g : Glob} {L : Tys}

theorem lookE_ok : ∀ {es : List Entry} {f : FuncId} {e : Entry}, AllOk P g es → lookE es f = some e → e.f = f ∧ e.c = none ∧ EntryOk P g e
  | [], f, e, _, h => by cases h
  | e0 :: es, f, e, hall, h => by
    cases hall with
    | cons h0 hs =>
      simp only [lookE] at h
      cases hb : Nat.beq e0.f f && e0.c.isNone with
      | true => rw [hb] at h; simp only [cnd_true] at h; cases h; rw [Bool.and_eq_true] at hb; exact ⟨Nat.eq_of_beq_eq_true hb.1, by simpa using hb.2, h0⟩
      | false => rw [hb] at h; exact lookE_ok hs h
theorem runC_ok {R : Type} : ∀ {es : List Entry} {f : FuncId} {args : List AV} {H : AHeap} {F : (OutS → Option R) → Option R}, AllOk P g es → runC R es f args H = some F → Enters P f ∧ ∀ k r, F k = some r → ∃ out, k out = some r ∧ AnsS P g f args H out
  | [], f, args, H, res, _, h => by cases h
  | e0 :: es, f, args, H, res, hall, h => by
    cases hall with
    | cons h0 hs =>
      simp only [runC] at h
      cases hb : Nat.beq e0.f f with
      | false => rw [hb] at h; exact runC_ok hs h
      | true =>
        rw [hb, cnd_true] at h
        have hf := Nat.eq_of_beq_eq_true hb
        subst hf
        split at h
        · rename_i c hc
          obtain ⟨hx, hcs⟩ := h0.cs c hc
          split at h
          · rename_i r0 hr0
            cases h
            exact ⟨h0.enters hx, fun k r hk => hcs R args H _ k r hr0 hk⟩
          · exact runC_ok hs h
        · exact runC_ok hs h

theorem callees_pure {R : Type} {es : List Entry} (h : AllOk P g es) : PureOk P g (callees R es) := by
  refine ⟨fun f hf => ?_, fun f h' vs v hx hv => ?_, fun f hx => ?_, fun f args kk pk r hf hr => ?_⟩
  · simp only [callees] at hf
    split at hf
    · rename_i e he
      obtain ⟨rfl, _, hk⟩ := lookE_ok h he
      exact hk.enters (by simpa using hf)
    · cases hf
  · simp only [callees] at hx
    split at hx
    · rename_i e he
      obtain ⟨rfl, _, hk⟩ := lookE_ok h he
      exact hk.xok h' vs v hx hv
    · cases hx
  · simp only [callees] at hx
    split at hx
    · rename_i e he
      obtain ⟨rfl, _, hk⟩ := lookE_ok h he
      exact hk.xid hx
    · cases hx
  · simp only [callees] at hf hr
    split at hf
    · rename_i e he
      obtain ⟨rfl, hc, hk⟩ := lookE_ok h he
      rw [he] at hr
      exact hk.ans (by simpa using hf) hc R args kk pk r hr
    · cases hf
theorem callees_cs {R : Type} {es : List Entry} (h : AllOk P g es) : CsOk P g (callees R es) := ⟨fun f args H res hr => runC_ok h hr⟩

def frameA (ntmps : Nat) (args : List AV) : List AV := args ++ List.replicate (ntmps - args.length) (.b undef)

def resA (L : Tys) (fr : List AV) (H : AHeap) : ResultVar → Option AV
  | .tmp t => some (fr.getD t (.b undef))
  | .cell a t => match tyAt L t, fr.getD a (.b undef) with
    | some y, .ptr r i j => match H[r]? with
      | some (some W) => partA y (W.els i) j some
      | _ => none
    | _, _ => none
def resLA (L : Tys) (fr : List AV) (H : AHeap) : List ResultVar → Option (List AV)
  | [] => some []
  | x :: xs => match resA L fr H x, resLA L fr H xs with
    | some a, some l => some (a :: l)
    | _, _ => none
def tupA : List AV → AV
  | [x] => x
  | l => .tup l

/-- What a function answers, its frame laid. -/
def fnA {R : Type} (L : Tys) (Γ : Callees R) (hint : Hint R) (n : Nat) (fn : Func) (args : List AV) (H : AHeap) (k : AV → AHeap → Option R) (pn : AV → AHeap → Option R) : Option R :=
  match fn.body with
  | some c => exec L Γ hint n c 0 (fun e fr H => match e with
    | .normal => match resLA L fr H fn.results.toList with
      | some l => k (tupA l) H
      | none => none
    | .ret => match resLA L fr H fn.results.toList with
      | some l => k (tupA l) H
      | none => none
    | .panic v => pn v H
    | .exit _ => none) (frameA fn.ntmps args) H
  | none => none

variable {B : Nat → Prop} {w0 : World} {I0 : Nat → Prop} {R : Type} {r : R}

theorem resLA_ok (hL : TysOk P L) {E : Env} (hS : St g B w0 I0 E) {fr : List AV} {tmps : Array Value} (hfr : E.L fr tmps.toList) : ∀ {rs : List ResultVar} {l : List AV}, resLA L fr E.H rs = some l → ∃ vs : List Value, (rs.mapM (m := Sem) fun
      | .tmp t => pure (tmps.getD t undef)
      | .cell a t => do loadVar t (← asAddr (tmps.getD a undef))).run P E.w = .ok vs E.w ∧ E.L l vs
  | [], l, h => by simp only [resLA] at h; cases h; exact ⟨[], rfl, by simp [Env.L, LR]⟩
  | x :: xs, l, h => by
    simp only [resLA] at h
    split at h
    · rename_i a l' ha hl
      cases h
      obtain ⟨vs, h1, h2⟩ := resLA_ok hL hS hfr hl
      have htmp : ∀ t, E.V (fr.getD t (.b undef)) (tmps.getD t undef) := fun t => ev_ok (a := { tmps, defers := [] }) hfr (.tmp t)
      have key : ∃ v, (match x with
          | .tmp t => (pure (tmps.getD t undef) : Sem Value)
          | .cell a t => do loadVar t (← asAddr (tmps.getD a undef))).run P E.w = .ok v E.w ∧ E.V a v := by
        cases x with
        | tmp t => simp only [resA] at ha; cases ha; exact ⟨_, rfl, htmp t⟩
        | cell q t =>
          simp only [resA] at ha
          split at ha
          · rename_i _ _ y r' i j hy he
            have hq := htmp q
            rw [he] at hq
            have hload := y_load (P := P) (k := some) (r := a) (ev := fun _ => .ptr r' i j) (ρ := fun _ => tmps.getD q undef) (t := t) (a := .tmp 0) hL hS.rows hS.isz (fun _ => hq) (by
              simp only [opP, hy]
              exact ha)
            obtain ⟨av, v, e1, e2, e3⟩ := hload
            cases e1
            refine ⟨v, ?_, e2⟩
            have := e3 E.w (Below.refl _ _)
            simp only [Env.V, VR] at hq
            obtain ⟨_, _, _, _, _, _, hv⟩ := hq
            unfold Instr.loadAt at this
            show (do loadVar t (← asAddr (tmps.getD q undef)) : Sem Value).run P E.w = _
            rw [hv] at this ⊢
            simpa [Instr.sureAddr, asAddr] using this
          · cases ha
      obtain ⟨v, k1, k2⟩ := key
      refine ⟨v :: vs, ?_, by simp only [Env.L, LR]; exact ⟨k2, h2⟩⟩
      simp only [List.mapM_cons, Sem.run_bind, Sem.run_pure]
      rw [k1]
      simp only [Result.andThen_ok, h1, Sem.run_pure]
    · cases h

theorem results_ok (hL : TysOk P L) {E : Env} (hS : St g B w0 I0 E) {fr : List AV} {tmps : Array Value} (hfr : E.L fr tmps.toList) {fn : Func} {l : List AV} (h : resLA L fr E.H fn.results.toList = some l) :
    ∃ v, (results fn tmps).run P E.w = .ok v E.w ∧ E.V (tupA l) v := by
  obtain ⟨vs, h1, h2⟩ := resLA_ok hL hS hfr h
  have hm : (fn.results.mapM (m := Sem) fun
      | .tmp t => pure (tmps.getD t undef)
      | .cell a t => do loadVar t (← asAddr (tmps.getD a undef))).run P E.w = .ok vs.toArray E.w := by
    rw [Array.mapM_eq_mapM_toList, Sem.run_map, h1]; rfl
  have hr : (results fn tmps).run P E.w = .ok (if h : vs.toArray.size = 1 then vs.toArray[0] else .tuple vs.toArray) E.w := by
    unfold results
    rw [Sem.run_bind]
    exact Eq.trans (congrArg (fun x => Result.andThen x _) hm) rfl
  refine ⟨_, hr, ?_⟩
  rcases vs with _ | ⟨v, _ | ⟨v2, vs⟩⟩
  · cases l with
    | nil => simp only [tupA, Env.V, VR]; exact ⟨#[], by simp, h2⟩
    | cons x xs => simp [Env.L, LR] at h2
  · cases l with
    | nil => simp [Env.L, LR] at h2
    | cons x xs =>
      cases xs with
      | nil => simp only [Env.L, LR] at h2; exact h2.1
      | cons y ys => simp [Env.L, LR] at h2
  · cases l with
    | nil => simp [Env.L, LR] at h2
    | cons x xs =>
      cases xs with
      | nil => simp [Env.L, LR] at h2
      | cons y ys => simp only [tupA, Env.V, VR]; exact ⟨_, by simp, h2⟩

/-- A function. -/
theorem fn_sound (hL : TysOk P L) {Γ : Callees R} (hP : PureOk P g Γ) (hG : CsOk P g Γ) (hm : P.follows .mixedOrders = true) {hint : Hint R} {n : Nat} {f : FuncId} {fn : Func} (hf : P.funcs[f]? = some fn) (hR : ∀ c, fn.body = some c → RunsOk L Γ hint n c 0)
    {args : List AV} {vs : List Value} {E : Env} (hS : St g B w0 I0 E) (hargs : E.L args vs) {k : AV → AHeap → Option R} {pn : AV → AHeap → Option R} (h : fnA L Γ hint n fn args E.H k pn = some r) {Q : Ending → World → Prop}
    (hk : ∀ av v E', St g B w0 I0 E' → E'.V av v → k av E'.H = some r → Q (.returned v) E'.w)
    (hp : ∀ av v E', St g B w0 I0 E' → E'.V av v → pn av E'.H = some r → Q (.panicked [{ v, recovered := false }]) E'.w) : Calls P f vs.toArray E.w Q := by
  unfold fnA at h
  split at h
  · rename_i c hc
    refine calls_of_wp hf hc ?_
    have hlen : args.length = vs.length := LR_len hargs
    refine exec_sound (ds := []) hL hP hG hm c 0 (hR c hc) _ _ _ E _ h hS ?_ rfl ⟨fun fr E' a h1 h2 h3 h4 => ?_, fun id fr E' a h1 h2 h3 h4 => ?_, fun fr E' a h1 h2 h3 h4 => ?_, fun av v fr E' a h1 _ h2 h3 h4 => ?_⟩
    · unfold frameA
      simp only [Array.toList_append, Array.toList_replicate, List.size_toArray, hlen]
      refine L_append hargs ?_
      generalize fn.ntmps - vs.length = q
      induction q with
      | zero => simp [Env.L, LR]
      | succ q ih => simp only [List.replicate_succ, Env.L, LR]; exact ⟨V_b.2 rfl, ih⟩
    · simp only at h4
      split at h4
      · rename_i l hl
        obtain ⟨v, hv, hV⟩ := results_ok hL h1 h2 hl
        exact ⟨h3, v, hv, hk _ v E' h1 hV h4⟩
      · cases h4
    · simp only at h4; cases h4
    · simp only at h4
      split at h4
      · rename_i l hl
        obtain ⟨v, hv, hV⟩ := results_ok hL h1 h2 hl
        exact ⟨h3, v, hv, hk _ v E' h1 hV h4⟩
      · cases h4
    · exact ⟨h3, hp av v E' h1 h2 h4⟩
  · cases h

def bodyOf (fn : Func) : Code := fn.body.getD .skip
/-- A piece of code. -/
def codeAt : List Nat → Code → Code
  | [], c => c
  | q :: p, c => match c with
    | .seq a b => codeAt p (cnd (Nat.beq q 0) a b)
    | .cond _ a b => codeAt p (cnd (Nat.beq q 0) a b)
    | .block _ c => codeAt p c
    | .loop c => codeAt p c
    | _ => .skip
/-- What a function answers, taken alone: its rows told as fixed. -/
def soloA {R : Type} (k : AV → Option R) : AV → AHeap → Option R := fun v H => cnd (pureA (viewT H v)) (k (viewT H v)) none

theorem solo_ok {E : Env} {c : AV → Out} {out : Out} {av : AV} {v : Value} (hS : St g B w0 I0 E) (hV : E.V av v) (h : soloA (fun v => some (c v)) av E.H = some out) : c (viewT E.H av) = out ∧ pureA (viewT E.H av) = true ∧
    VR E.w (fun b => E.I b ∨ (¬ B b ∧ b < E.w.heap.size)) noInfo noTab (viewT E.H av) v := by
  unfold soloA at h
  obtain ⟨hp, h⟩ := cond_some h
  refine ⟨by simpa using h, hp, ?_⟩
  exact VR_m (VR_pure hp (viewT_ok hS (J := fun b => E.I b ∨ (¬ B b ∧ b < E.w.heap.size)) (fun b hb => .inl hb) (fun b h1 h2 => .inr ⟨h1, h2⟩) hV))
theorem ans_of_fn (hL : TysOk P L) {es : List Entry} (hes : AllOk P g es) (hm : P.follows .mixedOrders = true) {hint : Hint Out} {n : Nat} {f : FuncId} {fn : Func} (hf : P.funcs[f]? = some fn) (hR : ∀ c, fn.body = some c → RunsOk L (callees Out es) hint n c 0) {args : List AV} {out : Out}
    (h : fnA L (callees Out es) hint n fn args [] (soloA fun v => some (.ret v)) (soloA fun v => some (.pan v)) = some out) : Ans P g f args out := by
  intro w I vs hI hg hn hargs
  have hS : St g (fun k => k < w.heap.size) w I { w := w, I := I, m := noInfo, H := [] } := ⟨Kept.refl _ _, fun k h => h, fun k hk => Nat.lt_of_lt_of_le hk hn, hn, hg, hI, fun b h => h, fun b h => .inl h, fun r W h => by simp at h, fun r r' W W' h => by simp at h, fun r W h => by simp at h⟩
  have htab : tab [] = noTab := by funext q; simp [tab, noTab]
  refine fn_sound hL (callees_pure hes) (callees_cs hes) hm hf hR hS (args := args) (vs := vs) (by simp only [Env.L, htab]; exact hargs) h (fun av v E' hS' hV hh => ?_) (fun av v E' hS' hV hh => ?_)
  · obtain ⟨rfl, h2, h3⟩ := solo_ok hS' hV hh
    exact ⟨v, _, rfl, hS'.below.below (fun k h => h), fun b hb => .inl (hS'.imono b hb), fun b hb => hb.elim (fun h => (hS'.ifresh b h).imp_right Nat.le_of_not_lt) (fun h => .inr (Nat.le_of_not_lt h.1)), fun b hb => hb.elim (fun h => hS'.isz b h) (fun h => h.2), h3⟩
  · obtain ⟨rfl, h2, h3⟩ := solo_ok hS' hV hh
    exact ⟨v, _, rfl, hS'.below.below (fun k h => h), fun b hb => .inl (hS'.imono b hb), fun b hb => hb.elim (fun h => (hS'.ifresh b h).imp_right Nat.le_of_not_lt) (fun h => .inr (Nat.le_of_not_lt h.1)), fun b hb => hb.elim (fun h => hS'.isz b h) (fun h => h.2), h3⟩

/-- What is to be looked at again behind a call: boxes alone. -/
def gh1 : AV → AV
  | .ptr r i j => .ptr r i j
  | _ => .top
/-- The row that keeps a function's arguments in sight. -/
def ghostRow (args : List AV) : Row := ⟨0, 0, 0, .box (args.map gh1), true, false, false, false⟩
def noG (H : AHeap) : Bool := H.all fun o => match o with
  | some W => !(Nat.beq W.k 0) || W.pf
  | none => true
def finO (pan : Bool) (ga : List AV) (v : AV) (H : AHeap) (o : List Nat) : Option OutS := cnd (noG (subH o H)) (some ⟨pan, rens (posN o) ga, ren (posN o) v, subH o H⟩) none
/-- The arguments that are kept in sight. -/
def ghostRowOf : Option Row → Option (List AV)
  | some ⟨_, 0, _, .box l, _, false, _, _⟩ => some l
  | _ => none
def ghostOf (H : AHeap) : Option (List AV) := match ghosts 0 H with
  | [gi] => ghostRowOf (rowAtH H gi)
  | _ => none
theorem ghostOf_ok {E : Env} {l : List AV} (hS : St g B w0 I0 E) (h : ghostOf E.H = some l) : E.L l g.gs := by
  unfold ghostOf at h
  split at h
  · rename_i gi hgi
    generalize hr : rowAtH E.H gi = o at h
    unfold ghostRowOf at h
    split at h
    · cases h
      have hW := rowAtH_some.1 hr
      have hga := (hS.rows _ _ hW).gh l rfl rfl rfl
      rwa [hS.gse _ _ hW rfl rfl] at hga
    · cases h
  · cases h
def finS (pan : Bool) (v : AV) (H : AHeap) : Option OutS := match ghostOf H with
  | some ga => finO pan ga v H (order (ga ++ [v]) H)
  | _ => none
/-- What a function answers that is handed live memory. -/
def fnS (L : Tys) (Γ : Callees OutS) (hint : Hint OutS) (n : Nat) (fn : Func) (args : List AV) (H : AHeap) : Option OutS :=
  cnd (noG H) (fnA L Γ hint n fn args (H ++ [some (ghostRow args)]) (fun v H' => finS false (cnd hint.dv .top v) H') (finS true)) none
theorem noG_ok {H : AHeap} (h : noG H = true) {r : Nat} {W : Row} (hW : H[r]? = some (some W)) (hk : W.k = 0) : W.pf = true := by
  have := List.all_eq_true.1 h _ (List.mem_of_getElem? hW)
  simp only [hk] at this
  simpa using this
theorem St.regs {gs : List Value} {E : Env} (h : St g B w0 I0 E) (hn : noG E.H = true) : St { g with gs := gs } B w0 I0 E :=
  ⟨h.below, h.hB, h.hn, h.gn, h.glob, h.isz, h.imono, h.ifresh, h.rows, h.inj, fun r W hW hk hp => by rw [noG_ok hn hW hk] at hp; cases hp⟩
theorem PureOk.regs {Γ : Callees R} {gs : List Value} (h : PureOk P g Γ) : PureOk P { g with gs := gs } Γ := ⟨h.enters, h.xok, h.xid, h.ans⟩
theorem CsOk.regs {Γ : Callees R} {gs : List Value} (h : CsOk P g Γ) : CsOk P { g with gs := gs } Γ := ⟨h.ans⟩
theorem gh1_ok {E : Env} : ∀ {l : List AV} {vs : List Value}, E.L l vs → E.L (l.map gh1) vs
  | [], [], _ => by simp [Env.L, LR]
  | [], _ :: _, h => by simp [Env.L, LR] at h
  | _ :: _, [], h => by simp [Env.L, LR] at h
  | x :: xs, v :: vs, h => by
    simp only [Env.L, LR] at h
    simp only [List.map_cons, Env.L, LR]
    refine ⟨?_, gh1_ok h.2⟩
    unfold gh1
    split
    · exact h.1
    · simp [VR]
theorem ansS_of_fn (hL : TysOk P L) {es : List Entry} (hes : AllOk P g es) (hm : P.follows .mixedOrders = true) {hint : Hint OutS} {n : Nat} {f : FuncId} {fn : Func} (hf : P.funcs[f]? = some fn) (hR : ∀ c, fn.body = some c → RunsOk L (callees OutS es) hint n c 0) {args : List AV} {H : AHeap} {out : OutS}
    (h : fnS L (callees OutS es) hint n fn args H = some out) : AnsS P g f args H out := by
  intro gs B E vs hS hH hargs
  subst hH
  unfold fnS at h
  obtain ⟨hno, h⟩ := cond_some h
  have hS0 : St { g with gs := vs } B E.w E.I E := hS.regs (g := { g with gs := gs }) hno
  obtain ⟨s1, s2⟩ := hS0.ghost (W := ghostRow args) vs rfl rfl rfl (fun l _ _ hl => by cases hl; exact gh1_ok hargs) (fun _ _ => rfl)
  have fin : ∀ {E' : Env} {pan : Bool} {av : AV} {v : Value}, St { g with gs := vs } B E.w E.I E' → E'.V av v → finS pan av E'.H = some out →
      ∃ E2, E2.w = E'.w ∧ out.pan = pan ∧ St { g with gs := gs } B E.w E.I E2 ∧ E2.H = out.H ∧ E2.L out.ga vs ∧ E2.V out.v v := fun {E' pan av v} hS' hV hh => by
    unfold finS at hh
    split at hh
    · rename_i ga hrow
      have hga := ghostOf_ok hS' hrow
      unfold finO at hh
      obtain ⟨hno', hh⟩ := cond_some hh
      cases hh
      have hgc := hS'.gc (order_nodup (ga ++ [av]) E'.H)
      exact ⟨subE E' (order (ga ++ [av]) E'.H), rfl, rfl, hgc.regs (g := { g with gs := vs }) hno', rfl, LR_ren (fun b hb => ⟨hb, rfl⟩) ga _ _ vs (fun r p q hT hq => subE_tab hT hq) hga, VR_ren (fun b hb => ⟨hb, rfl⟩) av _ _ v (fun r p q hT hq => subE_tab hT hq) hV⟩
    · cases hh
  refine fn_sound hL (callees_pure hes).regs (callees_cs hes).regs hm hf hR s1 (s2.L (rfs_all _) hargs) h (fun av v E' hS' hV hh => ?_) (fun av v E' hS' hV hh => ?_)
  · obtain ⟨E2, h1, h2, h3, h4, h5, h6⟩ := fin (av := cnd hint.dv .top av) (v := v) hS' (by
      cases hint.dv with
      | true => simp [Env.V, VR]
      | false => exact hV) hh
    exact ⟨v, E2, by rw [h2]; rfl, h1, h3, h4, h5, h6⟩
  · obtain ⟨E2, h1, h2, h3, h4, h5, h6⟩ := fin hS' hV hh
    exact ⟨v, E2, by rw [h2]; rfl, h1, h3, h4, h5, h6⟩
end
end Go.Proofs.YthmhobnhladhbaaDoor.AM
