/- The abstract machine, part 15: calls. -/
import Derived.Test.YthmhobnhladhbaaDoorAm14
import Derived.Shelf.Abstract
namespace Go.Proofs.YthmhobnhladhbaaDoor.AM
open Go Go.RowKit
set_option linter.unusedSimpArgs false
set_option linter.unusedVariables false

def noInfo : Nat → Info := fun _ => ⟨0, 0, false, []⟩

/-- What comes of a call: it returns this, or panics with this. -/
inductive Out where
  | ret (av : AV)
  | pan (av : AV)
def Out.av : Out → AV
  | .ret av => av
  | .pan av => av
def Out.end_ : Out → Value → Ending
  | .ret _, v => .returned v
  | .pan _, v => .panicked [{ v, recovered := false }]

/-- What a pure callee answers, whatever the world. -/
def Ans (P : Program) (g : Glob) (f : FuncId) (args : List AV) (out : Out) : Prop :=
  ∀ (w : World) (I : Nat → Prop) (vs : List Value), (∀ b, I b → b < w.heap.size) → g.G w → g.n ≤ w.heap.size → LR w I noInfo noTab args vs →
    Calls P f vs.toArray w fun e w' => ∃ v I', e = out.end_ v ∧ Below w.heap.size w w' ∧ (∀ b, I b → I' b) ∧ (∀ b, I' b → I b ∨ w.heap.size ≤ b) ∧ (∀ b, I' b → b < w'.heap.size) ∧ VR w' I' noInfo noTab out.av v

structure PureOk (P : Program) (g : Glob) {R : Type} (Γ : Callees R) : Prop where
  enters : ∀ f, Γ.isP f = true → Enters P f
  xok : ∀ f h vs v, Γ.xc f = some (.flat h) → h vs = some v → ∀ w, (callFunc f vs.toArray).run P w = .ok (.value v) w
  xid : ∀ f, Γ.xc f = some .ident → ∀ x w, (callFunc f #[x]).run P w = .ok (.value x) w
  ans : ∀ f args kk pk r, Γ.isP f = true → Γ.pc f args kk pk = some r → (∃ av, kk av = some r ∧ pureA av = true ∧ Ans P g f args (.ret av)) ∨ (∃ av, pk av = some r ∧ pureA av = true ∧ Ans P g f args (.pan av))

/-- What a callee answers that is handed live memory. -/
def AnsS (P : Program) (g : Glob) (f : FuncId) (args : List AV) (H : AHeap) (o : OutS) : Prop :=
  ∀ (gs : List Value) (B : Nat → Prop) (E : Env) (vs : List Value), St { g with gs := gs } B E.w E.I E → E.H = H → E.L args vs → Calls P f vs.toArray E.w fun e w' =>
    ∃ v E', e = cnd o.pan (.panicked [{ v, recovered := false }]) (.returned v) ∧ E'.w = w' ∧ St { g with gs := gs } B E.w E.I E' ∧ E'.H = o.H ∧ E'.L o.ga vs ∧ E'.V o.v v

structure CsOk (P : Program) (g : Glob) {R : Type} (Γ : Callees R) : Prop where
  ans : ∀ f args H F, Γ.cs f args H = some F → Enters P f ∧ ∀ k r, F k = some r → ∃ out, k out = some r ∧ AnsS P g f args H out

section
variable {P : Program} {L : Tys} {g : Glob} {B : Nat → Prop} {w0 : World} {I0 : Nat → Prop} {E : Env} {R : Type} {r : R}

theorem VR_m {w : World} {I : Nat → Prop} {m m' : Nat → Info} {T : Tab} {x : AV} {v : Value} (h : VR w I m noTab x v) : VR w I m' T x v :=
  VR.mono (fun _ => true) (fun _ h => ⟨h, rfl⟩) x noTab T v (fun r p hp => by simp [noTab] at hp) (.inl rfl) h
theorem LR_m {w : World} {I : Nat → Prop} {m m' : Nat → Info} {T : Tab} {x : List AV} {v : List Value} (h : LR w I m noTab x v) : LR w I m' T x v :=
  LR.mono (fun _ => true) (fun _ h => ⟨h, rfl⟩) x noTab T v (fun r p hp => by simp [noTab] at hp) (.inl rfl) h

/-- All that lies in the world, told as fixed. -/
def allI (w : World) : Nat → Prop := fun b => b < w.heap.size

theorem view_ok (hS : St g B w0 I0 E) {J : Nat → Prop} (hJ : ∀ b, E.I b → J b) (hJ2 : ∀ b, ¬ B b → b < E.w.heap.size → J b) {x : AV} {v : Value} (h : E.V x v) : VR E.w J E.m (tab E.H) (view E.H x) v := by
  have up : ∀ {T : Tab} {y : AV} {u : Value}, VR E.w E.I E.m T y u → VR E.w J E.m T y u := fun {T y u} hu =>
    VR.mono (fun _ => true) (fun b hb => ⟨hJ b hb, rfl⟩) y T T u (fun _ _ hp _ => ⟨hp, rfl⟩) (.inr (rf_all' y)) hu
  cases x with
  | sl r n =>
    simp only [view]
    split
    · rename_i W hW
      split
      · rename_i τ xs hex
        have hels : W.els = fun i => cel τ (xs i) := by unfold Row.els; rw [hex]; rfl
        cases hpk : W.pf && Nat.beq W.k τ.size with
        | false => exact up h
        | true =>
          rw [Bool.and_eq_true] at hpk
          obtain ⟨hp, hkb⟩ := hpk
          have hkk : W.k = τ.size := Nat.eq_of_beq_eq_true hkb
          have hk0 := hS.rows r W hW
          simp only [Env.V, VR] at h
          obtain ⟨⟨kk, hT⟩, h⟩ := h
          obtain ⟨rfl, rfl⟩ := row_of hW hT
          rw [cnd_true, VR_snap, ← hkk]
          split at h
          · rename_i hal
            obtain ⟨c, rfl, hnc, _⟩ := h
            refine ⟨_, c, rfl, hnc, fun h0 => ?_⟩
            obtain ⟨k1, k2, k3, arr, fz, k4, k5, k6, k6', k7⟩ := hk0.mem hal
            rw [hels] at k7
            have hlen := hk0.len
            rw [hels] at hlen
            refine ⟨_, rfl, rfl, hJ2 _ k1 (Array.getElem?_eq_some_iff.1 k4).1, fun i hi => ⟨hlen i hi, CR_mk fun j x hx => ?_⟩⟩
            obtain ⟨u, a, b, c⟩ := k7 i hi j x hx
            refine ⟨u, ?_, ?_, c⟩
            · rw [addr_add, Nat.zero_add]
              simp [World.cell?, k4, a]
            · unfold rowT at b
              rw [if_pos hp] at b
              exact VR.mono (fun _ => true) (fun b hb => ⟨hJ b hb, rfl⟩) x noTab noTab u (fun _ _ hp _ => by simp [noTab] at hp) (.inl rfl) b
          · obtain ⟨rfl, hn⟩ := h
            exact ⟨none, 0, by rw [hn], by omega, fun h0 => by omega⟩
      · exact up h
    · exact up h
  | _ => exact up h
where rf_all' (y : AV) : rf (fun _ => true) y = true := rf_all y

theorem viewL_ok (hS : St g B w0 I0 E) {J : Nat → Prop} (hJ : ∀ b, E.I b → J b) (hJ2 : ∀ b, ¬ B b → b < E.w.heap.size → J b) : ∀ {l : List AV} {vs : List Value}, E.L l vs → LR E.w J E.m (tab E.H) (l.map (view E.H)) vs
  | [], [], _ => by simp [LR]
  | [], _ :: _, h => by simp [Env.L, LR] at h
  | _ :: _, [], h => by simp [Env.L, LR] at h
  | x :: xs, v :: vs, h => by
    simp only [Env.L, LR] at h
    simp only [List.map_cons, LR]
    exact ⟨view_ok hS hJ hJ2 h.1, viewL_ok hS hJ hJ2 h.2⟩

theorem viewT_ok (hS : St g B w0 I0 E) {J : Nat → Prop} (hJ : ∀ b, E.I b → J b) (hJ2 : ∀ b, ¬ B b → b < E.w.heap.size → J b) {x : AV} {v : Value} (h : E.V x v) : VR E.w J E.m (tab E.H) (viewT E.H x) v := by
  cases x with
  | agg l =>
    simp only [Env.V, VR] at h
    obtain ⟨a, rfl, h⟩ := h
    simp only [viewT, VR]
    exact ⟨a, rfl, viewL_ok hS hJ hJ2 h⟩
  | tup l =>
    simp only [Env.V, VR] at h
    obtain ⟨a, rfl, h⟩ := h
    simp only [viewT, VR]
    exact ⟨a, rfl, viewL_ok hS hJ hJ2 h⟩
  | _ => exact view_ok hS hJ hJ2 h

theorem viewTL_ok (hS : St g B w0 I0 E) : ∀ {l : List AV} {vs : List Value}, E.L l vs → LR E.w (allI E.w) E.m (tab E.H) (l.map (viewT E.H)) vs
  | [], [], _ => by simp [LR]
  | [], _ :: _, h => by simp [Env.L, LR] at h
  | _ :: _, [], h => by simp [Env.L, LR] at h
  | x :: xs, v :: vs, h => by
    simp only [Env.L, LR] at h
    simp only [List.map_cons, LR]
    exact ⟨viewT_ok hS (fun b hb => hS.isz b hb) (fun b _ hb => hb) h.1, viewTL_ok hS h.2⟩

theorem view_pure (H : AHeap) {x : AV} (h : pureA x = true) : view H x = x := by
  cases x with
  | sl r n => simp [pureA, rf] at h
  | _ => rfl
theorem viewL_pure (H : AHeap) : ∀ {l : List AV}, puresA l = true → l.map (view H) = l
  | [], _ => rfl
  | x :: xs, h => by
    simp only [puresA, rfs, Bool.and_eq_true] at h
    simp only [List.map_cons, view_pure H h.1, viewL_pure H (l := xs) h.2]
theorem viewT_pure (H : AHeap) {x : AV} (h : pureA x = true) : viewT H x = x := by
  cases x with
  | agg l => simp only [pureA, rf] at h; simp only [viewT, viewL_pure H h]
  | tup l => simp only [pureA, rf] at h; simp only [viewT, viewL_pure H h]
  | sl r n => simp [pureA, rf] at h
  | _ => rfl
theorem viewTL_pure (H : AHeap) : ∀ {l : List AV}, puresA l = true → l.map (viewT H) = l
  | [], _ => rfl
  | x :: xs, h => by
    simp only [puresA, rfs, Bool.and_eq_true] at h
    simp only [List.map_cons, viewT_pure H h.1, viewTL_pure H (l := xs) h.2]

theorem LR_pure {w : World} {I : Nat → Prop} {m : Nat → Info} {T : Tab} {l : List AV} {vs : List Value} (hp : puresA l = true) (h : LR w I m T l vs) : LR w I m noTab l vs :=
  LR.mono (fun _ => false) (fun _ h => ⟨h, rfl⟩) l T noTab vs (fun r p _ hd => by cases hd) (.inr hp) h

theorem flat_any {w w' : World} {I I' : Nat → Prop} {m m' : Nat → Info} {T T' : Tab} {x : AV} {v : Value} (hf : flatA x = true) (h : VR w I m T x v) : VR w' I' m' T' x v := by
  have hl : ∀ {l : List AV} {vs : List Value}, (l.all fun x => match x with
      | .b _ => true
      | _ => false) = true → LR w I m T l vs → LR w' I' m' T' l vs := fun {l} => by
    induction l with
    | nil => intro vs _ h; cases vs <;> simp_all [LR]
    | cons y ys ih =>
      intro vs hall h
      cases vs with
      | nil => simp [LR] at h
      | cons u us =>
        simp only [List.all_cons, Bool.and_eq_true] at hall
        simp only [LR] at h ⊢
        refine ⟨?_, ih hall.2 h.2⟩
        have h1 := hall.1
        have h2 := h.1
        cases y <;> simp at h1
        simpa only [VR] using h2
  cases x with
  | b u => simpa only [VR] using h
  | agg l => simp only [VR] at h ⊢; obtain ⟨a, rfl, h⟩ := h; exact ⟨a, rfl, hl hf h⟩
  | tup l => simp only [VR] at h ⊢; obtain ⟨a, rfl, h⟩ := h; exact ⟨a, rfl, hl hf h⟩
  | ifc t y =>
    cases y with
    | agg l => simp only [VR] at h ⊢; obtain ⟨u, rfl, a, rfl, h⟩ := h; exact ⟨_, rfl, a, rfl, hl hf h⟩
    | _ => simp [flatA] at hf
  | _ => simp [flatA] at hf

/-- A pure callee, in a state. -/
theorem call_pure (hS : St g B w0 I0 E) {Γ : Callees R} (hΓ : PureOk P g Γ) {f : FuncId} {args : List AV} {vs : List Value} (hf : Γ.isP f = true) (hargs : E.L args vs) (hp : puresA (args.map (viewT E.H)) = true) {kk pk : AV → Option R}
    (h : Γ.pc f (args.map (viewT E.H)) (fun v => cnd (puresA args || flatA v) (kk v) none) (fun v => cnd (puresA args || flatA v) (pk v) none) = some r) :
    Calls P f vs.toArray E.w fun e w' => ∃ v av E', E'.w = w' ∧ St g B w0 I0 E' ∧ Ext allD E E' ∧ E'.V av v ∧ E'.H = E.H ∧ (e = .returned v ∧ kk av = some r ∨ e = .panicked [{ v, recovered := false }] ∧ pk av = some r) := by
  have key : ∃ out : Out, ((puresA args = true ∨ flatA out.av = true) ∧ Ans P g f (args.map (viewT E.H)) out) ∧ ∀ v, (out.end_ v = .returned v ∧ kk out.av = some r ∨ out.end_ v = .panicked [{ v, recovered := false }] ∧ pk out.av = some r) := by
    rcases hΓ.ans f _ _ _ r hf h with ⟨av, hk, hpav, ha⟩ | ⟨av, hk, hpav, ha⟩
    · obtain ⟨hc, hk⟩ := cond_some hk
      rw [Bool.or_eq_true] at hc
      exact ⟨.ret av, ⟨hc, ha⟩, fun v => .inl ⟨rfl, hk⟩⟩
    · obtain ⟨hc, hk⟩ := cond_some hk
      rw [Bool.or_eq_true] at hc
      exact ⟨.pan av, ⟨hc, ha⟩, fun v => .inr ⟨rfl, hk⟩⟩
  obtain ⟨out, ⟨hc, ha⟩, hend⟩ := key
  rcases hc with hc | hc
  · rw [viewTL_pure E.H hc] at ha
    refine (ha E.w E.I vs hS.isz hS.glob hS.gbase (LR_m (LR_pure hc hargs))).mono ?_
    rintro e w' ⟨v, I', rfl, hb, h1, h2, h3, h4⟩
    obtain ⟨s1, s2⟩ := hS.grow hb h1 h2 h3
    exact ⟨v, out.av, _, rfl, s1, s2, VR_m h4, rfl, hend v⟩
  · have hv := viewTL_ok hS hargs
    refine (ha E.w (allI E.w) vs (fun b h => h) hS.glob hS.gbase (LR_m (LR_pure hp hv))).mono ?_
    rintro e w' ⟨v, I', rfl, hb, h1, h2, h3, h4⟩
    obtain ⟨s1, s2⟩ := hS.grow hb (I' := E.I) (fun b h => h) (fun b h => .inl h) (fun b h => Nat.lt_of_lt_of_le (hS.isz b h) hb.size)
    exact ⟨v, out.av, _, rfl, s1, s2, flat_any hc h4, rfl, hend v⟩
end
end Go.Proofs.YthmhobnhladhbaaDoor.AM
