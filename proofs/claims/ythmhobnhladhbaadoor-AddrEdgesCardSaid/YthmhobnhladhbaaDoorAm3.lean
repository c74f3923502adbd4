/- The abstract machine, part 3: the operations that change no memory, one by one. -/
import Derived.Test.YthmhobnhladhbaaDoorAm2
import Derived.Laws.BytesString
import Derived.Lib.Builder
namespace Go.Proofs.YthmhobnhladhbaaDoor.AM
open Go Go.RowKit
set_option linter.unusedSimpArgs false
set_option linter.unusedVariables false

/-- An operation's answer, in every world that grew out of this one. -/
def Yields (P : Program) (E : Env) (C : World → Prop) {R : Type} (k : AV → Option R) (r : R) (s : Sem Value) : Prop :=
  ∃ av v, k av = some r ∧ E.V av v ∧ ∀ w', C w' → s.run P w' = .ok v w'

theorem none_ne {R : Type} {r : R} {p : Prop} (h : (none : Option R) = some r) : p := by cases h

section
variable {P : Program} {L : Tys} {B : Nat → Prop} {E : Env} {C : World → Prop} {R : Type} {k : AV → Option R} {r : R}

theorem Yields.now {av : AV} {v : Value} {s : Sem Value} (hk : k av = some r) (hv : E.V av v) (h : ∀ w', s.run P w' = .ok v w') : Yields P E C k r s := ⟨av, v, hk, hv, fun w' _ => h w'⟩

theorem Yields.mono {C' : World → Prop} {s : Sem Value} (hC : ∀ w, C w → C' w) (h : Yields P E C' k r s) : Yields P E C k r s := by
  obtain ⟨av, v, h1, h2, h3⟩ := h
  exact ⟨av, v, h1, h2, fun w hw => h3 w (hC w hw)⟩

theorem V_b {v v' : Value} : E.V (.b v) v' ↔ v' = v := by simp [Env.V, VR]

theorem y_int {op : BinOp} {ka kb : IntKind} {a b : Int} {t : TypeId} (h : intA op ka kb a b k = some r) : Yields P E C k r (binOp op t (.int ka a) (.int kb b)) := by
  unfold intA at h
  split at h
  · split at h
    · exact none_ne h
    · rename_i hb
      exact .now h (V_b.2 rfl) fun w => by simp [binOp, Op.shift, hb]
  · split at h
    · exact none_ne h
    · rename_i hb
      exact .now h (V_b.2 rfl) fun w => by simp [binOp, Op.shift, hb]
  · rename_i h1 h2
    by_cases hk : ka = kb
    · subst hk
      simp only [decide_true, cnd_true] at h
      split at h
      · exact .now h (V_b.2 rfl) fun w => by simp [binOp, Op.intArith]
      · exact .now h (V_b.2 rfl) fun w => by simp [binOp, Op.intArith]
      · exact .now h (V_b.2 rfl) fun w => by simp [binOp, Op.intArith]
      · split at h
        · exact none_ne h
        · rename_i hb; exact .now h (V_b.2 rfl) fun w => by simp [binOp, Op.intDiv, hb]
      · split at h
        · exact none_ne h
        · rename_i hb; exact .now h (V_b.2 rfl) fun w => by simp [binOp, Op.intDiv, hb]
      · exact .now h (V_b.2 rfl) fun w => by simp only [binOp, if_neg (not_not_intro rfl)]; rfl
      · exact .now h (V_b.2 rfl) fun w => by simp only [binOp, if_neg (not_not_intro rfl)]; rfl
      · exact .now h (V_b.2 rfl) fun w => by simp only [binOp, if_neg (not_not_intro rfl)]; rfl
      · exact .now h (V_b.2 rfl) fun w => by simp only [binOp, if_neg (not_not_intro rfl)]; rfl
      · exact .now h (V_b.2 rfl) fun w => by simp [binOp, Op.intCmp]
      · exact .now h (V_b.2 rfl) fun w => by simp [binOp, Op.intCmp]
      · exact .now h (V_b.2 rfl) fun w => by simp [binOp, Op.intCmp]
      · exact .now h (V_b.2 rfl) fun w => by simp [binOp, Op.intCmp]
      · exact .now h (V_b.2 rfl) fun w => by simp [binOp, Op.intCmp]
      · exact .now h (V_b.2 rfl) fun w => by simp [binOp, Op.intCmp]
      · exact none_ne h
    · simp only [hk, decide_false, cnd_false] at h
      exact none_ne h

theorem y_str {op : BinOp} {a b : ByteArray} {t : TypeId} (h : strA op a b k = some r) : Yields P E C k r (binOp op t (.string a) (.string b)) := by
  unfold strA at h
  split at h
  · split at h
    · rename_i hb
      have hb := Nat.le_of_ble_eq_true hb
      exact .now h (V_b.2 rfl) fun w => by
        simp only [binOp, Op.stringOp]
        rw [if_neg (by rw [show IntKind.i64.max = 9223372036854775807 from rfl]; omega)]
        rfl
    · exact none_ne h
  · exact .now h (V_b.2 rfl) fun w => by simp [binOp, Op.stringOp]
  · exact .now h (V_b.2 rfl) fun w => by simp [binOp, Op.stringOp]
  · exact .now h (V_b.2 rfl) fun w => by simp [binOp, Op.stringOp]
  · exact .now h (V_b.2 rfl) fun w => by simp [binOp, Op.stringOp]
  · exact .now h (V_b.2 rfl) fun w => by simp [binOp, Op.stringOp]
  · exact .now h (V_b.2 rfl) fun w => by simp [binOp, Op.stringOp]
  · exact none_ne h

theorem y_flt {op : BinOp} {ka kb : FloatKind} {a b : Nat} {t : TypeId} (h : fltA op ka kb a b k = some r) : Yields P E C k r (binOp op t (.float ka a) (.float kb b)) := by
  unfold fltA at h
  by_cases hk : ka = kb
  · subst hk
    simp only [decide_true, cnd_true] at h
    split at h <;> first
      | exact none_ne h
      | exact .now h (V_b.2 rfl) fun w => by simp [binOp, Op.floatCmp]
  · simp only [hk, decide_false, cnd_false] at h
    exact none_ne h

theorem y_bool {op : BinOp} {a b : Bool} {t : TypeId} {y : Ty} (hy : TyOk P t y) (h : boolA op y.u a b k = some r) : Yields P E C k r (binOp op t (.bool a) (.bool b)) := by
  unfold boolA at h
  split at h
  · rename_i hu
    have hu' : P.underlying t = some .bool := by rw [hy.und, hu]
    have he : ∀ w, (Op.equal t (.bool a) (.bool b)).run P w = .ok (a == b) w := fun w => by
      simp only [Op.equal, Op.maxDepth]
      rw [show (10000 : Nat) = 9999 + 1 from rfl, Op.equalIn]
      simp [run_underlying hu']
    split at h
    · exact .now h (V_b.2 rfl) fun w => by simp [binOp, he]
    · exact .now h (V_b.2 rfl) fun w => by simp [binOp, he]
    · exact none_ne h
  · exact none_ne h

theorem y_guard {op : BinOp} {t : TypeId} {x y : Operand} {a b : Value} {s : Sem Value} (h1 : a ≠ .nilIface) (h2 : ∀ u, a ≠ .agg u) (h : Yields P E C k r s) : Yields P E C k r (do eqGuard op t x y a b; s) := by
  have hg : ∀ w, (eqGuard op t x y a b).run P w = .ok () w := fun w => by
    unfold eqGuard
    cases op <;> cases a <;> simp_all
  obtain ⟨av, v, hk, hv, hs⟩ := h
  exact ⟨av, v, hk, hv, fun w' hw => by rw [Sem.run_bind, hg]; exact hs w' hw⟩

theorem Yields.vnext {s : Sem Value} (h : Yields P E C k r s) : ∃ av v, k av = some r ∧ E.V av v ∧ ∀ w', C w' → (do pure (Next.value (← s)) : Sem Next).run P w' = .ok (.value v) w' := by
  obtain ⟨av, v, hk, hv, hs⟩ := h
  exact ⟨av, v, hk, hv, fun w' hw => by rw [Sem.run_bind, hs w' hw]; rfl⟩

/-- A load. -/
theorem y_load (hL : TysOk P L) (hR : Rows B E) (hI : ∀ b, E.I b → b < E.w.heap.size) {ev : Operand → AV} {ρ : Operand → Value} (hρ : ∀ x, E.V (ev x) (ρ x)) {t : TypeId} {a : Operand}
    (h : opP L E.H ev (.load t a) k = some r) : Yields P E (Below E.w.heap.size E.w) k r (Instr.loadAt t (ρ a)) := by
  simp only [opP] at h
  split at h
  · rename_i y hy
    have ha := hρ a
    split at h
    · rename_i r' i j he
      rw [he] at ha
      split at h
      · rename_i W hW
        simp only [Env.V, VR] at ha
        obtain ⟨k', n, hT, hi, hj, hal, hv⟩ := ha
        have hk : k' = W.k ∧ n = W.n := by simp only [tab, hW] at hT; cases hT; exact ⟨rfl, rfl⟩
        obtain ⟨rfl, rfl⟩ := hk
        obtain ⟨hB, hnI, hcap, arr, fz, hh, hsz, hfz, hcv, hcells⟩ := (hR r' W hW).mem hal
        have hlt : (E.m r').blk < E.w.heap.size := (Array.getElem?_eq_some_iff.1 hh).1
        rw [hv]
        refine run_loadAt_part (hL t y hy) (l := W.els i) (off := j) (a := ⟨(E.m r').blk, i * W.k, none⟩) rfl (T := rowT W (tab E.H)) (fun h => VR_rowT h) (fun j x hx => ?_) hlt h
        obtain ⟨v, hv, hx, _⟩ := hcells i hi j x hx
        exact ⟨v, by simp [World.cell?, hh, hv], hx⟩
      · exact none_ne h
    · rename_i l he
      rw [he] at ha
      simp only [Env.V, VR] at ha
      obtain ⟨ad, hv, hs, hb, hc⟩ := ha
      rw [hv]
      have := run_loadAt_part (hL t y hy) (l := l) (off := 0) (a := ad) hs (T := noTab) (E := E) (fun h => VR_noTab h) (fun j x hx => by
        obtain ⟨v, hv, hx, _⟩ := CR_get hc j x hx
        rw [Nat.zero_add, addr_add' hs] at hv
        exact ⟨v, hv, hx⟩) (hI _ hb) h
      have e : (⟨ad.block, ad.off + 0, none⟩ : Addr) = ad := by obtain ⟨b, o, s⟩ := ad; cases hs; rfl
      rwa [e] at this
    · exact none_ne h
  · exact none_ne h

theorem y_nilCheck {ev : Operand → AV} {ρ : Operand → Value} (hρ : ∀ x, E.V (ev x) (ρ x)) {x : Operand} (h : opP L E.H ev (.nilCheck x) k = some r) :
    ∃ av v, k av = some r ∧ E.V av v ∧ ∀ o : Oper, o.op = .nilCheck x → ∀ w', (execOp ρ o).run P w' = .ok (.value v) w' := by
  simp only [opP] at h
  have hx := hρ x
  split at h
  · rename_i r' i j he
    rw [he] at hx
    have hx' := hx
    simp only [Env.V, VR] at hx
    obtain ⟨_, _, _, _, _, _, hv⟩ := hx
    exact ⟨_, _, h, hx', fun o ho w => by simp [execOp, ho, hv]⟩
  · rename_i l he
    rw [he] at hx
    have hx' := hx
    simp only [Env.V, VR] at hx
    obtain ⟨_, hv, _⟩ := hx
    exact ⟨_, _, h, hx', fun o ho w => by simp [execOp, ho, hv]⟩
  · exact none_ne h

theorem y_un {op : UnOp} {x : AV} {vx : Value} (h : (match op, x with
    | .not, .b (.bool a) => k (.b (.bool (!a)))
    | .neg, .b (.int ka a) => k (.b (.int ka (ka.wrap (0 - a))))
    | _, _ => none) = some r) (hx : E.V x vx) : Yields P E C k r (Op.unary op vx) := by
  revert hx
  split at h
  · intro hx; rw [V_b] at hx; subst hx
    exact .now h (V_b.2 rfl) fun w => by simp [Op.unary]
  · intro hx; rw [V_b] at hx; subst hx
    exact .now h (V_b.2 rfl) fun w => by simp [Op.unary, Op.intArith]
  · exact none_ne h

theorem run_str {s d e : TypeId} {n c : Nat} {A : Option Addr} {xs : Nat → Int} {w : World} (hs : P.underlying s = some (.slice e)) (he : P.underlying e = some (.int .u8)) (hd : P.underlying d = some .string)
    (h : 0 < n → ∃ a, A = some a ∧ ∀ i, i < n → w.cell? (a.add i) = some (.int .u8 (xs i))) : (convert s d (.slice A n c)).run P w = .ok (.string (strOf n xs)) w := by
  rw [run_convert_bytes_string w s d e A n c hs he hd]
  cases A with
  | none =>
    have hn : n = 0 := by
      rcases Nat.eq_zero_or_pos n with h0 | h0
      · exact h0
      · obtain ⟨_, h1, _⟩ := h h0; cases h1
    subst hn
    simp [Conv.bytesToString, strOf, Sem.run_pure]
  | some a =>
    have hl : (loadCells a n).run P w = .ok (((List.range n).map xs).map (Value.int .u8)).toArray w := by
      rw [List.map_map]
      refine run_loadCells w a n (fun i => .int .u8 (xs i)) (fun j hj => ?_)
      obtain ⟨b, h1, h2⟩ := h (by omega)
      cases h1
      exact h2 j hj
    exact run_bytesToString w a n c _ hl

theorem cond_some' {c : Bool} {x : Option R} (h : cnd c x none = some r) : c = true ∧ x = some r := by
  cases c
  · cases h
  · exact ⟨rfl, h⟩
theorem row_of' {r' kk n : Nat} {W : Row} (hW : E.H[r']? = some (some W)) (hT : tab E.H r' = some (kk, n)) : kk = W.k ∧ n = W.n := by
  simp only [tab, hW] at hT; cases hT; exact ⟨rfl, rfl⟩
theorem lies_self {e : TypeId} {c count : Nat} (hc : P.cellsOf e = c) (h0 : 0 < c) (hn : 1 ≤ count) : liesAt P P.depth e count 0 e 1 = true := by
  have hd : P.depth = (2 * (P.types.size + Made.depth) + 1) + 1 := rfl
  rw [hd]
  simp only [liesAt, Bool.or_eq_true]
  left
  rw [hd]
  have h1 : ¬ c = 0 := by omega
  simp [rowAt, hc, hn, sameLayout, h1]
theorem y_convert (hL : TysOk P L) (hR : Rows B E) (hI : ∀ b, E.I b → b < E.w.heap.size) {ev : Operand → AV} {ρ : Operand → Value} (hρ : ∀ x, E.V (ev x) (ρ x)) {s d : TypeId} {x : Operand}
    (h : opP L E.H ev (.convert s d x) k = some r) : Yields P E (Below E.w.heap.size E.w) k r (convert s d (ρ x)) := by
  simp only [opP] at h
  have hx := hρ x
  split at h
  · rename_i _ ys yd kk n hs hd he
    rw [he, V_b] at hx
    split at h
    · rename_i kd hu
      have hu' : P.underlying d = some (.int kd) := by rw [(hL d yd hd).und, hu]
      exact .now h (V_b.2 rfl) fun w => by rw [hx]; simp [convert, run_underlying (hL s ys hs).und, run_underlying hu', Conv.intToInt]
    · exact none_ne h
  · rename_i _ ys yd a hs hd he
    rw [he, V_b] at hx
    split at h
    · rename_i hu
      have hu' : P.underlying d = some .string := by rw [(hL d yd hd).und, hu]
      exact .now h (V_b.2 rfl) fun w => by rw [hx]; simp [convert, run_underlying (hL s ys hs).und, run_underlying hu']
    · exact none_ne h
  · rename_i _ ys yd n xs hs hd he
    rw [he] at hx
    split at h
    · rename_i e hu hud
      have hu' : P.underlying s = some (.slice e) := by rw [(hL s ys hs).und, hu]
      have hud' : P.underlying d = some .string := by rw [(hL d yd hd).und, hud]
      split at h
      · rename_i ye hye
        split at h
        · rename_i hue
          have hue' : P.underlying e = some (.int .u8) := by rw [(hL e ye hye).und, hue]
          simp only [Env.V, VR, VS] at hx
          obtain ⟨A, c, hv, hnc, hx⟩ := hx
          refine ⟨_, _, h, V_b.2 rfl, fun w hw => ?_⟩
          rw [hv]
          refine run_str hu' hue' hud' fun h0 => ?_
          obtain ⟨a, rfl, hsp, hb, hc⟩ := hx h0
          refine ⟨a, rfl, fun i hi => ?_⟩
          have := hc i hi
          simp only [CT, CTy.size, Nat.mul_one] at this
          rw [cell_same (a := a.add i) (w' := w) (w := E.w) (by
            have hb' : (a.add i).block = a.block := by unfold Addr.add; split <;> rfl
            rw [hb']; exact hw.block _ (hI _ hb))]
          exact this
        · exact none_ne h
      · exact none_ne h
    · exact none_ne h
  · rename_i _ ys yd r' n hs hd he
    rw [he] at hx
    split at h
    · rename_i e hu hud
      have hu' : P.underlying s = some (.slice e) := by rw [(hL s ys hs).und, hu]
      have hud' : P.underlying d = some .string := by rw [(hL d yd hd).und, hud]
      split at h
      · rename_i ye hye
        split at h
        · rename_i hue
          have hue' : P.underlying e = some (.int .u8) := by rw [(hL e ye hye).und, hue]
          split at h
          · rename_i t' n' xs mn' bx' cv' hW
            simp only [Env.V, VR] at hx
            obtain ⟨⟨kk, hT⟩, hx⟩ := hx
            have hk0 := hR r' _ hW
            have hkn : kk = 1 ∧ n = n' := by simp only [tab, hW] at hT; cases hT; exact ⟨rfl, rfl⟩
            obtain ⟨rfl, rfl⟩ := hkn
            by_cases hal : (E.m r').al = true
            · rw [if_pos hal] at hx
              obtain ⟨c, hv, _, _⟩ := hx
              refine ⟨_, _, h, V_b.2 rfl, fun w hw => ?_⟩
              rw [hv]
              refine run_str hu' hue' hud' fun h0 => ⟨_, rfl, fun i hi => ?_⟩
              obtain ⟨_, _, _, arr, fz, hh, _, _, _, hc⟩ := hk0.mem hal
              obtain ⟨v, h1, h2, _⟩ := hc i hi 0 (.b (.int .u8 (xs i))) rfl
              simp only [rowT, VR] at h2
              subst h2
              rw [addr_add, Nat.zero_add]
              simp only [Nat.mul_one, Nat.add_zero] at h1
              have hb : w.heap[(E.m r').blk]? = some (.cells arr t' fz) := by rw [hw.block _ (Array.getElem?_eq_some_iff.1 hh).1]; exact hh
              simp [World.cell?, hb, h1]
            · rw [if_neg hal] at hx
              obtain ⟨hv, hn⟩ := hx
              subst hn
              refine ⟨_, _, h, V_b.2 rfl, fun w hw => ?_⟩
              rw [hv]
              exact run_str hu' hue' hud' fun h0 => absurd h0 (Nat.lt_irrefl _)
          · exact none_ne h
        · exact none_ne h
      · exact none_ne h
    · exact none_ne h
  · rename_i _ ys yd r' i j hs hd he
    rw [he] at hx
    have hx0 := hx
    simp only [Env.V, VR] at hx
    obtain ⟨kk, n, hT, hi, hj, hal, hv⟩ := hx
    split at h
    · rename_i t W hu hud hW
      have hu' : P.underlying s = some (.pointer t) := by rw [(hL s ys hs).und, hu]
      have hud' : P.underlying d = some .unsafePointer := by rw [(hL d yd hd).und, hud]
      split at h
      · rename_i yt hyt
        obtain ⟨hc, h⟩ := cond_some' h
        have hc' : 0 < yt.size := by have := Nat.le_of_ble_eq_true hc; omega
        obtain ⟨rfl, rfl⟩ := row_of' hW hT
        obtain ⟨_, _, hcap, arr, fz, hh, hsz, _⟩ := (hR r' W hW).mem hal
        obtain ⟨it, hit, _, hisz, _⟩ := (hL t yt hyt).info
        refine ⟨_, _, h, hx0, fun w hw => ?_⟩
        rw [hv]
        have hlt : (E.m r').blk < E.w.heap.size := (Array.getElem?_eq_some_iff.1 hh).1
        refine Lib.run_to_unsafe w ⟨(E.m r').blk, i * W.k + j, none⟩ hu' hud' hit (by rw [hisz]; omega) (e := W.t) (cells := arr.size) (by simp only [World.shape?]; rw [hw.block _ hlt, hh]) ?_
        show i * W.k + j < arr.size
        rw [hsz]
        have := Nat.mul_le_mul_right W.k (show i + 1 ≤ (E.m r').cap by omega)
        rw [Nat.succ_mul] at this
        omega
      · exact none_ne h
    · rename_i u W hu hud hW
      have hu' : P.underlying s = some .unsafePointer := by rw [(hL s ys hs).und, hu]
      have hud' : P.underlying d = some (.pointer u) := by rw [(hL d yd hd).und, hud]
      split at h
      · rename_i yu hyu
        obtain ⟨hc, h⟩ := cond_some' h
        simp only [Bool.and_eq_true] at hc
        have h1 : W.t = u := Nat.eq_of_beq_eq_true hc.1.1.1
        have h2 : i = 0 := Nat.eq_of_beq_eq_true hc.1.1.2
        have h3 : j = 0 := Nat.eq_of_beq_eq_true hc.1.2
        have h4 : W.k = yu.size := Nat.eq_of_beq_eq_true hc.2
        obtain ⟨rfl, rfl⟩ := row_of' hW hT
        obtain ⟨_, _, hcap, arr, fz, hh, hsz, _⟩ := (hR r' W hW).mem hal
        obtain ⟨it, hit, _, hisz, _⟩ := (hL u yu hyu).info
        refine ⟨_, _, h, hx0, fun w hw => ?_⟩
        rw [hv]
        have hlt : (E.m r').blk < E.w.heap.size := (Array.getElem?_eq_some_iff.1 hh).1
        have hcells : P.cellsOf u = W.k := by simp [Program.cellsOf, hit, hisz, h4]
        refine Lib.run_from_unsafe w ⟨(E.m r').blk, i * W.k + j, none⟩ hu' hud' hit (e := W.t) (cells := arr.size) (by simp only [World.shape?]; rw [hw.block _ hlt, hh]) ?_
        subst h1 h2 h3
        simp only [Nat.zero_mul, Nat.add_zero]
        rw [hcells, hsz, Nat.mul_div_cancel _ (by omega)]
        exact lies_self hcells (by omega) (by omega)
      · exact none_ne h
    · exact none_ne h
  · exact none_ne h

theorem y_ifc (hL : TysOk P L) {x : AV} {vx : Value} {t : TypeId} (h : (match tyAt L t with
    | some y => cnd (isIfcU y.u) none (k (.ifc t x))
    | none => none) = some r) (hx : E.V x vx) : Yields P E C k r (Instr.makeInterface t vx) := by
  split at h
  · rename_i y hy
    cases hu : isIfcU y.u with
    | true => rw [hu] at h; exact none_ne h
    | false =>
      rw [hu] at h
      refine .now h (v := .iface t vx) (by simp only [Env.V, VR]; exact ⟨_, rfl, hx⟩) fun w => ?_
      unfold Instr.makeInterface
      rw [Sem.run_bind, run_underlying (hL t y hy).und]
      simp only [Result.andThen_ok]
      cases hu2 : y.u <;> simp_all [isIfcU]
  · exact none_ne h

theorem L_map {ev : Operand → AV} {ρ : Operand → Value} (hρ : ∀ x, E.V (ev x) (ρ x)) : ∀ l : List Operand, E.L (l.map ev) (l.map ρ)
  | [] => by simp [Env.L, LR]
  | x :: xs => by simp only [Env.L, List.map_cons, LR]; exact ⟨hρ x, L_map hρ xs⟩

theorem y_func {ev : Operand → AV} {ρ : Operand → Value} (hρ : ∀ x, E.V (ev x) (ρ x)) {f : FuncId} {first c : Array Operand} (h : cnd first.isEmpty (k (.fn f (c.toList.map ev))) none = some r) :
    Yields P E C k r (Instr.makeFunc (.func f) (first.map ρ) (c.map ρ)) := by
  cases hf : first.isEmpty with
  | false => rw [hf] at h; exact none_ne h
  | true =>
    rw [hf] at h
    have : first = #[] := by simpa using hf
    subst this
    refine .now h (v := .func (.func f) #[] (c.map ρ)) (by simp only [Env.V, VR]; exact ⟨_, rfl, by rw [Array.toList_map]; exact L_map hρ _⟩) fun w => ?_
    simp [Instr.makeFunc]

theorem y_extract {x : AV} {vx : Value} {i : Nat} (h : (match x with
    | .tup l => match l[i]? with
      | some v => k v
      | none => none
    | _ => none) = some r) (hx : E.V x vx) : Yields P E C k r (Instr.extract vx i) := by
  revert hx
  split at h
  · rename_i l
    intro hx
    simp only [Env.V, VR] at hx
    obtain ⟨a, rfl, hl⟩ := hx
    split at h
    · rename_i y hy
      obtain ⟨v, hv, hvr⟩ := LR_get hl i y hy
      rw [Array.getElem?_toList] at hv
      exact .now h hvr fun w => by simp [Instr.extract, hv]
    · exact none_ne h
  · exact none_ne h

theorem y_assert (hL : TysOk P L) {x : AV} {vx : Value} {t u : TypeId} {ok : Bool} (h : (match tyAt L t, x with
    | some y, .ifc u v => cnd (isIfcU y.u) none (cnd (Nat.beq u t) (k (cnd ok (.tup [v, .b (.bool true)]) v)) (cnd ok (k (.tup [cst y.zero, .b (.bool false)])) none))
    | some y, .b .nilIface => cnd (isIfcU y.u) none (cnd ok (k (.tup [cst y.zero, .b (.bool false)])) none)
    | _, _ => none) = some r) (hx : E.V x vx) : Yields P E C k r (Instr.typeAssert vx u t ok) := by
  revert hx
  split at h
  · rename_i y t' v hy
    intro hx
    simp only [Env.V, VR] at hx
    obtain ⟨v', rfl, hv⟩ := hx
    cases hu : isIfcU y.u with
    | true => rw [hu] at h; exact none_ne h
    | false =>
      rw [hu] at h
      simp only [cnd_false] at h
      cases he : Nat.beq t' t with
      | true =>
        have ht : t' = t := Nat.eq_of_beq_eq_true he
        subst ht
        rw [he] at h
        simp only [cnd_true] at h
        cases ok with
        | true =>
          refine .now h (v := .tuple #[v', .bool true]) (by simp only [cnd_true, Env.V, VR]; exact ⟨_, rfl, by simp only [LR, VR]; exact ⟨hv, trivial, trivial⟩⟩) fun w => ?_
          unfold Instr.typeAssert
          simp only [Sem.run_bind, run_underlying (hL _ y hy).und, Result.andThen_ok]
          cases hu2 : y.u <;> simp_all [isIfcU]
        | false =>
          refine .now h (v := v') (by simp only [cnd_false]; exact hv) fun w => ?_
          unfold Instr.typeAssert
          simp only [Sem.run_bind, run_underlying (hL _ y hy).und, Result.andThen_ok]
          cases hu2 : y.u <;> simp_all [isIfcU]
      | false =>
        have ht : t' ≠ t := fun e => by subst e; simp at he
        rw [he] at h
        simp only [cnd_false] at h
        cases ok with
        | false => exact none_ne h
        | true =>
          refine .now h (v := .tuple #[y.zero, .bool false]) (by simp only [Env.V, VR]; exact ⟨_, rfl, by simp only [LR, VR]; exact ⟨VR_cst _, trivial, trivial⟩⟩) fun w => ?_
          unfold Instr.typeAssert
          simp only [Sem.run_bind, run_underlying (hL _ y hy).und, Result.andThen_ok]
          cases hu2 : y.u <;> simp_all [isIfcU, run_zeroValue (hL _ y hy)]
  · rename_i y hy
    intro hx
    rw [V_b] at hx
    subst hx
    cases hu : isIfcU y.u with
    | true => rw [hu] at h; exact none_ne h
    | false =>
      rw [hu] at h
      simp only [cnd_false] at h
      cases ok with
      | false => exact none_ne h
      | true =>
        refine .now h (v := .tuple #[y.zero, .bool false]) (by simp only [Env.V, VR]; exact ⟨_, rfl, by simp only [LR, VR]; exact ⟨VR_cst _, trivial, trivial⟩⟩) fun w => ?_
        unfold Instr.typeAssert
        simp only [Sem.run_bind, run_underlying (hL _ y hy).und, Result.andThen_ok]
        cases hu2 : y.u <;> simp_all [isIfcU, run_zeroValue (hL _ y hy)]
  · exact none_ne h
end
end Go.Proofs.YthmhobnhladhbaaDoor.AM
