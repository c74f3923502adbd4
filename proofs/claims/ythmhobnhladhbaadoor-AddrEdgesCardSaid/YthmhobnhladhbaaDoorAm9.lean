/- The abstract machine, part 9: that operations which make or write memory answer as the evaluator says. -/
import Derived.Test.YthmhobnhladhbaaDoorAm8
import Derived.Lib.ConvBytes
namespace Go.Proofs.YthmhobnhladhbaaDoor.AM
open Go Go.RowKit
set_option linter.unusedSimpArgs false
set_option linter.unusedVariables false

section
variable {P : Program} {L : Tys} {g : Glob} {B : Nat → Prop} {w0 : World} {I0 : Nat → Prop} {E : Env} {R : Type} {r : R}

theorem ev_ok {fr : List AV} {a : Act} (h : E.L fr a.tmps.toList) (x : Operand) : E.V (evA fr x) (a.eval x) := by
  cases x with
  | tmp t =>
    simp only [evA, Act.eval]
    rcases Nat.lt_or_ge t fr.length with ht | ht
    · obtain ⟨v, hv, hx⟩ := LR_get h t fr[t] (List.getElem?_eq_getElem ht)
      rw [List.getD_eq_getElem?_getD, List.getElem?_eq_getElem ht]
      rw [Array.getElem?_toList] at hv
      simp only [Option.getD_some, Array.getD_eq_getD_getElem?, hv]
      exact hx
    · have hl := LR_len h
      rw [List.getD_eq_getElem?_getD, List.getElem?_eq_none ht, Array.getD_eq_getD_getElem?, Array.getElem?_eq_none (by rw [← Array.length_toList]; omega)]
      exact V_b.2 rfl
  | const v => exact VR_cst v
  | global q => exact V_b.2 rfl
  | func f => simp only [evA, Act.eval, Env.V, VR]; exact ⟨#[], rfl, by simp [LR]⟩

section typed
variable {w : World} {I : Nat → Prop} {m : Nat → Info}
theorem nrm1_ok {T : Tab} {τ : CTy} {x : AV} {v : Value} (h : VR w I m T x v) : VR w I m T (nrm1 τ x) v := by
  unfold nrm1
  split
  · simp only [VR, VS] at h ⊢
    exact ⟨none, 0, h, Nat.le_refl _, fun h => absurd h (by omega)⟩
  · exact h
theorem nrmL_ok {T : Tab} : ∀ {cs : List CTy} {l : List AV} {vs : List Value}, LR w I m T l vs → LR w I m T (nrmL cs l) vs
  | [], l, vs, h => by simpa only [nrmL] using h
  | c :: cs, [], vs, h => by simpa only [nrmL] using h
  | c :: cs, x :: xs, [], h => by simp [LR] at h
  | c :: cs, x :: xs, v :: vs, h => by
    simp only [nrmL, LR] at h ⊢
    exact ⟨nrm1_ok h.1, nrmL_ok h.2⟩
theorem nrmV_ok {T : Tab} {τ : CTy} {x : AV} {v : Value} (h : VR w I m T x v) : VR w I m T (nrmV τ x) v := by
  unfold nrmV
  split
  · simp only [VR] at h ⊢
    obtain ⟨a, rfl, h⟩ := h
    exact ⟨a, rfl, nrmL_ok h⟩
  · exact nrm1_ok h
theorem nrmT_ok {T : Tab} {t : TypeId} {x : AV} {v : Value} (h : VR w I m T x v) : VR w I m T (nrmT L t x) v := by
  unfold nrmT
  split
  · exact nrmV_ok h
  · exact h
theorem storeRow_els (W : Row) (i j : Nat) (xs : List AV) : (storeRow W i j xs).els = cnd W.box (fun _ => putA (W.els i) j xs) (fun q => if q = i ∧ q < W.n then putA (W.els i) j xs else W.els q) := by
  show (stEx W i j xs).at' = _
  unfold stEx
  cases W.box with
  | true => rfl
  | false =>
    simp only [cnd_false]
    split
    · rename_i τ ys he
      have hw : W.els = fun i => cel τ (ys i) := by unfold Row.els; rw [he]; rfl
      split
      · rename_i y hy
        funext q
        have hd := decC_ok hy
        simp only [Els.at', hw]
        by_cases hq : q = i ∧ q < W.n
        · rw [if_pos hq, if_pos hq]; exact hd.symm
        · rw [if_neg hq, if_neg hq]
      · rfl
    · rfl
theorem listEx_at {e : TypeId} {ye : Ty} {els : List (List AV)} {q : Nat} (hq : q < els.length) : (listEx L e ye els).at' q = els.getD q (zeroCells ye) := by
  unfold listEx
  split
  · split
    · rename_i τ _ ys hy
      have h := decAll_ok hy
      subst h
      rw [List.length_map] at hq
      simp only [Els.at']
      rw [List.getD_eq_getElem?_getD, List.getD_eq_getElem?_getD, List.getElem?_map, List.getElem?_eq_getElem hq]; rfl
    · rfl
  · rfl
theorem newRowA_els (r : Nat) (W : Row) (n n2 : Nat) (e2 : Els) (p2 : Bool) : ((∀ q, q < n → (newRowA r W n n2 e2 p2).els q = (kdRow (fun q => !(Nat.beq q r)) W).els q) ∧
    ∀ q, q < n2 → (newRowA r W n n2 e2 p2).els (n + q) = cnd p2 (e2.at' q) (kds (fun q => !(Nat.beq q r)) (e2.at' q))) := by
  have key : (newRowA r W n n2 e2 p2).els = (apEx r W n n2 e2 p2).at' := rfl
  rw [key, kdRow_els]
  unfold apEx
  cases hp : W.pf && p2 with
  | false =>
    simp only [cnd_false, Els.at']
    refine ⟨fun q hq => ?_, fun q hq => ?_⟩
    · rw [if_pos hq, kdRow_els]
    · rw [if_neg (by omega), if_pos (by omega), Nat.add_sub_cancel_left]
  | true =>
    rw [Bool.and_eq_true] at hp
    obtain ⟨hp, rfl⟩ := hp
    simp only [cnd_true, hp]
    split
    · rename_i e he
      split at he
      · rename_i τ xs σ ys hx
        split at he
        · rename_i hs
          cases he
          subst hs
          have hw : W.els = fun i => cel σ (xs i) := by unfold Row.els; rw [hx]; rfl
          simp only [Els.at', hw]
          refine ⟨fun q hq => by rw [if_pos hq], fun q hq => ?_⟩
          rw [if_neg (by omega), Nat.add_sub_cancel_left]
          rfl
        · cases he
      · cases he
    · refine ⟨fun q hq => ?_, fun q hq => ?_⟩
      · simp only [Els.at']
        rw [if_pos hq, kdRow_els, hp]; rfl
      · simp only [Els.at']
        rw [if_neg (by omega), if_pos (by omega), Nat.add_sub_cancel_left]
end typed

/-- What is owed for an operation that ends in a value. -/
structure Nxt (P : Program) (g : Glob) (B : Nat → Prop) (w0 : World) (I0 : Nat → Prop) (E : Env) (s : Sem Next) (k : AV → AHeap → Option (Nat → Bool) → Option R) (r : R) : Prop where
  out : ∃ av v E' D, St g B w0 I0 E' ∧ Ext (Option.getD D allD) E E' ∧ E'.V av v ∧ k av E'.H D = some r ∧ (s.run P E.w = .ok (.value v) E'.w ∨ v = undef ∧ s.run P E.w = .ok .skip E'.w)

theorem Nxt.wp {o : Oper} {a : Act} {k : AV → AHeap → Option (Nat → Bool) → Option R} {next : Act → World → Prop} {Q : Exit → Act → World → Prop} (h : Nxt P g B w0 I0 E (execOp a.eval o) k r)
    (hk : ∀ av v E' D, St g B w0 I0 E' → Ext (Option.getD D allD) E E' → E'.V av v → k av E'.H D = some r → next (a.put o.dst v) E'.w) : o.wp P a E.w next Q := by
  obtain ⟨av, v, E', D, h1, h2, h3, h4, h5⟩ := h.out
  have := hk av v E' D h1 h2 h3 h4
  unfold Oper.wp
  rcases h5 with h5 | ⟨rfl, h5⟩
  · rw [h5]; exact this
  · rw [h5]; exact this

/-- The pure ones. -/
theorem nxt_pure (hS : St g B w0 I0 E) {ρ : Operand → Value} {ev : Operand → AV} (hL : TysOk P L) (hρ : ∀ x, E.V (ev x) (ρ x)) {o : Oper} {k : AV → AHeap → Option (Nat → Bool) → Option R}
    (h : opP L E.H ev o.op (fun v => k v E.H none) = some r) : Nxt P g B w0 I0 E (execOp ρ o) k r := by
  obtain ⟨av, v, hk, hv, hr⟩ := opP_sound hL hS.rows hS.isz hρ h
  exact ⟨av, v, E, none, hS, Ext.refl _ _, hv, hk, .inl (hr E.w (Below.refl _ _))⟩

theorem run_val {s : Sem Value} {v : Value} {w w' : World} (h : s.run P w = .ok v w') : (do pure (Next.value (← s)) : Sem Next).run P w = .ok (.value v) w' := by rw [Sem.run_bind, h]; rfl

theorem one_cells {x : AV} {v : Value} {T : Tab} {w : World} {I : Nat → Prop} {m : Nat → Info} (h : oneA x = true) (hv : VR w I m T x v) : v.oneCell' = true := by
  cases x with
  | b u => simp only [VR] at hv; subst hv; exact h
  | ifc t y => simp only [VR] at hv; obtain ⟨_, rfl, _⟩ := hv; rfl
  | fn f c => simp only [VR] at hv; obtain ⟨_, rfl, _⟩ := hv; rfl
  | snap τ n e => simp only [VR, VS] at hv; obtain ⟨_, _, rfl, _⟩ := hv; rfl
  | sl r n =>
    simp only [VR] at hv
    obtain ⟨_, hv⟩ := hv
    split at hv
    · obtain ⟨_, rfl, _⟩ := hv; rfl
    · obtain ⟨rfl, _⟩ := hv; rfl
  | ptr r i j => simp only [VR] at hv; obtain ⟨_, _, _, _, _, _, rfl⟩ := hv; rfl
  | sptr l => simp only [VR] at hv; obtain ⟨_, rfl, _⟩ := hv; rfl
  | sp r n => simp only [VR] at hv; obtain ⟨_, _, rfl, _⟩ := hv; rfl
  | agg l => simp [oneA] at h
  | tup l => simp [oneA] at h
  | top => simp [oneA] at h
theorem cells_one {v : Value} (h : v.oneCell' = true) : v.cells = #[v] := by cases v <;> simp_all [Value.cells, Value.oneCell']
theorem onesA_get : ∀ {l : List AV}, onesA l = true → ∀ x, x ∈ l → oneA x = true
  | [], _, x, hx => by cases hx
  | y :: ys, h, x, hx => by
    simp only [onesA, Bool.and_eq_true] at h
    rcases List.mem_cons.1 hx with rfl | hx
    · exact h.1
    · exact onesA_get h.2 x hx
theorem LR_ones {T : Tab} {w : World} {I : Nat → Prop} {m : Nat → Info} : ∀ {l : List AV} {vs : List Value}, onesA l = true → LR w I m T l vs → ∀ v, v ∈ vs → v.oneCell' = true
  | [], [], _, _, v, hv => by cases hv
  | [], _ :: _, _, h, _, _ => by simp [LR] at h
  | _ :: _, [], _, h, _, _ => by simp [LR] at h
  | x :: xs, u :: us, h, hh, v, hv => by
    simp only [onesA, Bool.and_eq_true] at h
    simp only [LR] at hh
    rcases List.mem_cons.1 hv with rfl | hv
    · exact one_cells h.1 hh.1
    · exact LR_ones h.2 hh.2 v hv
/-- A value's cells. -/
theorem cells_ok {x : AV} {v : Value} {T : Tab} {w : World} {I : Nat → Prop} {m : Nat → Info} (h : okA x = true) (hv : VR w I m T x v) : LR w I m T (cellsOf x) v.cells.toList ∧ ∀ u, u ∈ v.cells.toList → u.oneCell' = true := by
  by_cases ha : ∃ l, x = .agg l
  · obtain ⟨l, rfl⟩ := ha
    simp only [VR] at hv
    obtain ⟨a, rfl, hl⟩ := hv
    simp only [okA] at h
    exact ⟨hl, LR_ones h hl⟩
  · have h1 : oneA x = true := by cases x <;> simp_all [okA]
    have h2 : cellsOf x = [x] := by cases x <;> simp_all [cellsOf]
    have h3 := one_cells h1 hv
    rw [h2, cells_one h3]
    simp only [LR]
    exact ⟨⟨hv, trivial⟩, fun u hu => by simp at hu; exact hu ▸ h3⟩

theorem VR_pure {x : AV} {v : Value} {T : Tab} {w : World} {I : Nat → Prop} {m : Nat → Info} (h : pureA x = true) (hv : VR w I m T x v) : VR w I m noTab x v :=
  VR.mono (fun _ => false) (fun _ h => ⟨h, rfl⟩) x T noTab v (fun r p _ hd => by cases hd) (.inr h) hv
theorem puresA_get : ∀ {l : List AV}, puresA l = true → ∀ x, x ∈ l → pureA x = true
  | [], _, x, hx => by cases hx
  | y :: ys, h, x, hx => by
    simp only [puresA, rfs, Bool.and_eq_true] at h
    rcases List.mem_cons.1 hx with rfl | hx
    · exact h.1
    · exact puresA_get (l := ys) h.2 x hx

theorem zero_ok {y : Ty} : LR E.w E.I E.m noTab (zeroCells y) y.zero.cells.toList := by
  unfold zeroCells
  have := VR_cst (w := E.w) (I := E.I) (m := E.m) (T := noTab) y.zero
  generalize hz : y.zero = z at *
  cases z <;> simp only [cst, cellsOf, Value.cells, LR] <;> first
    | exact ⟨V_b.2 rfl, trivial⟩
    | exact LR_bs _
    | (simp only [cst] at this; exact ⟨this, trivial⟩)


theorem run_newVar (t : TypeId) (v : Value) (w : World) : (newVar t v).run P w = .ok ⟨w.heap.size, 0, none⟩ { w with heap := w.heap.push (.cells v.cells t) } := by
  simp [newVar, newRow]

theorem st_newVar (hS : St g B w0 I0 E) {t : TypeId} {W : Row} {v : Value} {cs : List AV} (hWt : W.t = t) (hn : W.n = 1) (hels : W.els = fun _ => cs) (hk : W.k = cs.length) (hp : 0 < W.k)
    (hcs : LR E.w E.I E.m (rowT W (tab E.H)) cs v.cells.toList) (h1 : ∀ u, u ∈ v.cells.toList → u.oneCell' = true) :
    ∃ E', St g B w0 I0 E' ∧ Ext allD E E' ∧ E'.H = E.H ++ [some W] ∧ E'.w = { E.w with heap := E.w.heap.push (.cells v.cells t) } ∧ E'.V (.ptr E.H.length 0 0) (.pointer (some ⟨E.w.heap.size, 0, none⟩)) := by
  have hlen : cs.length = v.cells.size := by have := LR_len hcs; rwa [Array.length_toList] at this
  obtain ⟨h1, h2⟩ := hS.newRow (W := W) (arr := v.cells) (fz := (0, 0)) (cap := 1) (fun i _ => by rw [hels, hk]) (fun _ => hn) (by omega) (by omega) (by omega) (.inr (Nat.le_refl _)) (fun _ => rfl) (fun i hi j x hx => by
    have hi0 : i = 0 := by omega
    subst hi0
    rw [hels] at hx
    obtain ⟨u, hu, hxu⟩ := LR_get hcs j x hx
    have hu1 := h1 u (List.mem_of_getElem? hu)
    rw [Array.getElem?_toList] at hu
    exact ⟨u, by simpa using hu, hxu, hu1⟩) (w' := { E.w with heap := E.w.heap.push (.cells v.cells t) }) (by rw [hWt]) rfl rfl rfl
  refine ⟨_, h1, h2, rfl, rfl, ?_⟩
  simp only [Env.V, VR]
  refine ⟨W.k, W.n, ?_, by omega, hp, by rw [upd_same], by rw [upd_same]; simp⟩
  simp [tab]
end
end Go.Proofs.YthmhobnhladhbaaDoor.AM
