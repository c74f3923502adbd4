/- The abstract machine, part 19: functions and loops told by typed functions of Lean. -/
import Derived.Test.YthmhobnhladhbaaDoorAm18
namespace Go.Proofs.YthmhobnhladhbaaDoor.AM
open Go Go.RowKit
set_option linter.unusedSimpArgs false
set_option linter.unusedVariables false

/-- What a function answers, as data. -/
inductive RT where
  | one (a : CTy)
  | many (τ : CTy)
def RT.El : RT → Type
  | .one a => AM.El a
  | .many τ => AM.El τ
def decL : (τ : CTy) → List AV → Option (El τ)
  | .unit, [] => some ()
  | .pair a b, x :: xs => match decV a (nrmV a x), decL b xs with
    | some y, some ys => some (y, ys)
    | _, _ => none
  | _, _ => none
def encL : (τ : CTy) → El τ → List AV
  | .unit, _ => []
  | .pair a b, x => encV a x.1 :: encL b x.2
  | _, _ => []
def encR : (ρ : RT) → ρ.El → AV
  | .one a, x => encV a x
  | .many τ, x => .tup (encL τ x)
def wrongV (pt : TypeId) (p : Int) : AV := .ifc pt (.agg [.b (.int .i64 p)])
def onX {α β : Type} (r : Except Int α) (kp : Int → β) (k : α → β) : β := match r with
  | .error p => kp p
  | .ok x => k x
/-- How a loop is left. -/
inductive Lx (A B : Type) where
  | out (a : A)
  | ret (b : B)
  | pan (p : Int)
def onL {A B β : Type} (r : Lx A B) (ko : A → β) (kr : B → β) (kp : Int → β) : β := match r with
  | .out a => ko a
  | .ret b => kr b
  | .pan p => kp p

def pcT (τa : CTy) (ρ : RT) (F : El τa → Option ρ.El) {R : Type} (args : List AV) (kk pk : AV → Option R) : Option R := match decL τa args with
  | some xs => (F xs).bind fun y => kk (encR ρ y)
  | none => none
def pcX (pt : TypeId) (τa : CTy) (ρ : RT) (F : El τa → Option (Except Int ρ.El)) {R : Type} (args : List AV) (kk pk : AV → Option R) : Option R := match decL τa args with
  | some xs => (F xs).bind fun y => onX y (fun p => pk (wrongV pt p)) fun y => kk (encR ρ y)
  | none => none

theorem decL_ok {w : World} {I : Nat → Prop} {m : Nat → Info} {T : Tab} : ∀ {τ : CTy} {l : List AV} {x : El τ} {vs : List Value}, decL τ l = some x → LR w I m T l vs → LR w I m T (encL τ x) vs
  | .unit, [], x, vs, _, h => by simpa only [encL] using h
  | .unit, _ :: _, x, vs, h, _ => by simp [decL] at h
  | .pair a b, [], x, vs, h, _ => by simp [decL] at h
  | .pair a b, y :: ys, x, [], _, h => by simp [LR] at h
  | .pair a b, y :: ys, x, v :: vs, h, hl => by
    simp only [decL] at h
    split at h
    · rename_i z zs hz hzs
      cases h
      simp only [LR] at hl
      simp only [encL, LR]
      refine ⟨?_, decL_ok hzs hl.2⟩
      have := nrmV_ok (τ := a) hl.1
      rwa [decV_ok hz] at this
    · cases h
  | .bool, l, x, vs, h, _ => by simp [decL] at h
  | .int _, l, x, vs, h, _ => by simp [decL] at h
  | .flt _, l, x, vs, h, _ => by simp [decL] at h
  | .str, l, x, vs, h, _ => by simp [decL] at h
  | .sl _, l, x, vs, h, _ => by simp [decL] at h

theorem pure_cel : ∀ (τ : CTy) (x : El τ), puresA (cel τ x) = true
  | .bool, x => rfl
  | .int _, x => rfl
  | .flt _, x => rfl
  | .str, x => rfl
  | .unit, x => rfl
  | .sl _, x => rfl
  | .pair a b, x => by
    simp only [cel]
    have happ : ∀ l l' : List AV, puresA l = true → puresA l' = true → puresA (l ++ l') = true := fun l l' h h' => by
      induction l with
      | nil => exact h'
      | cons y ys ih =>
        simp only [puresA, List.cons_append, rfs, Bool.and_eq_true] at h ⊢
        exact ⟨h.1, ih h.2⟩
    exact happ _ _ (pure_cel a x.1) (pure_cel b x.2)
theorem pure_encV (τ : CTy) (x : El τ) : pureA (encV τ x) = true := by
  cases τ with
  | pair a b => exact pure_cel (.pair a b) x
  | _ => rfl
theorem pure_encL : ∀ (τ : CTy) (x : El τ), puresA (encL τ x) = true
  | .unit, _ => rfl
  | .pair a b, x => by
    have h1 := pure_encV a x.1
    have h2 := pure_encL b x.2
    simp only [encL, puresA, rfs, Bool.and_eq_true]
    exact ⟨h1, h2⟩
  | .bool, _ => rfl
  | .int _, _ => rfl
  | .flt _, _ => rfl
  | .str, _ => rfl
  | .sl _, _ => rfl
theorem pure_encR (ρ : RT) (y : ρ.El) : pureA (encR ρ y) = true := by
  cases ρ with
  | one a => exact pure_encV a y
  | many τ => exact pure_encL τ y

section
variable {P : Program} {g : Glob} {L : Tys}
theorem Ans.of_dec {f : FuncId} {τ : CTy} {args : List AV} {xs : El τ} {out : Out} (hd : decL τ args = some xs) (h : Ans P g f (encL τ xs) out) : Ans P g f args out :=
  fun w I vs h1 h2 h3 h4 => h w I vs h1 h2 h3 (decL_ok hd h4)

theorem pcT_ok {f : FuncId} {τa : CTy} {ρ : RT} {F : El τa → Option ρ.El} (he : Enters P f) (h : ∀ xs y, F xs = some y → Ans P g f (encL τa xs) (.ret (encR ρ y))) : EntryOk P g ⟨f, pcT τa ρ F, none, none⟩ := by
  refine ⟨fun _ => he, fun _ _ _ h => (by cases h), fun h => (by cases h), fun _ h => (by cases h), fun _ _ R args kk pk r hr => ?_⟩
  simp only [pcT] at hr
  split at hr
  · rename_i xs hx
    cases hF : F xs with
    | none => rw [hF] at hr; cases hr
    | some y =>
      rw [hF] at hr
      exact .inl ⟨_, hr, pure_encR _ _, (h xs y hF).of_dec hx⟩
  · cases hr
theorem pcX_ok {f : FuncId} {pt : TypeId} {τa : CTy} {ρ : RT} {F : El τa → Option (Except Int ρ.El)} (he : Enters P f) (h : ∀ xs y, F xs = some (.ok y) → Ans P g f (encL τa xs) (.ret (encR ρ y)))
    (h2 : ∀ xs p, F xs = some (.error p) → Ans P g f (encL τa xs) (.pan (wrongV pt p))) : EntryOk P g ⟨f, pcX pt τa ρ F, none, none⟩ := by
  refine ⟨fun _ => he, fun _ _ _ h => (by cases h), fun h => (by cases h), fun _ h => (by cases h), fun _ _ R args kk pk r hr => ?_⟩
  simp only [pcX] at hr
  split at hr
  · rename_i xs hx
    cases hF : F xs with
    | none => rw [hF] at hr; cases hr
    | some y =>
      rw [hF] at hr
      cases y with
      | ok y => exact .inl ⟨_, hr, pure_encR _ _, (h xs y hF).of_dec hx⟩
      | error p => exact .inr ⟨_, hr, rfl, (h2 xs p hF).of_dec hx⟩
  · cases hr
end

/-- What is nil. -/
inductive Cn where
  | nilp
  | nils
  | nili
def cnV : Cn → Value
  | .nilp => .pointer none
  | .nils => .slice none 0 0
  | .nili => .nilIface
def isCn : Cn → Value → Bool
  | .nilp, .pointer none => true
  | .nils, .slice none 0 0 => true
  | .nili, .nilIface => true
  | _, _ => false
theorem isCn_ok {c : Cn} {v : Value} (h : isCn c v = true) : v = cnV c := by
  unfold isCn at h
  split at h <;> first
    | rfl
    | cases h
/-- How a slot stands at a loop's head. -/
inductive Sl where
  | top
  | dat (τ : CTy)
  | row (r : Nat)
  | ptr (r i j : Nat)
  | cn (c : Cn)
  | fnc (f : FuncId)
def slTy : List Sl → CTy
  | [] => .unit
  | .dat τ :: sp => .pair τ (slTy sp)
  | .top :: sp => slTy sp
  | .row _ :: sp => slTy sp
  | .ptr _ _ _ :: sp => slTy sp
  | .cn _ :: sp => slTy sp
  | .fnc _ :: sp => slTy sp
def encF (ns : Nat → Nat) : (sp : List Sl) → El (slTy sp) → List AV
  | [], _ => []
  | .dat τ :: sp, σ => encV τ σ.1 :: encF ns sp σ.2
  | .top :: sp, σ => .top :: encF ns sp σ
  | .row r :: sp, σ => .sl r (ns r) :: encF ns sp σ
  | .ptr r i j :: sp, σ => .ptr r i j :: encF ns sp σ
  | .cn c :: sp, σ => .b (cnV c) :: encF ns sp σ
  | .fnc f :: sp, σ => .fn f [] :: encF ns sp σ
def decF : (sp : List Sl) → List AV → Option (El (slTy sp))
  | [], fr => match fr with
    | [] => some ()
    | _ :: _ => none
  | .dat τ :: sp, fr => match fr with
    | x :: xs => match decV τ x, decF sp xs with
      | some y, some ys => some (y, ys)
      | _, _ => none
    | [] => none
  | .top :: sp, fr => match fr with
    | .top :: xs => decF sp xs
    | _ => none
  | .row r :: sp, fr => match fr with
    | .sl r' _ :: xs => cnd (Nat.beq r' r) (decF sp xs) none
    | _ => none
  | .ptr r i j :: sp, fr => match fr with
    | .ptr r' i' j' :: xs => cnd (Nat.beq r' r && Nat.beq i' i && Nat.beq j' j) (decF sp xs) none
    | _ => none
  | .cn c :: sp, fr => match fr with
    | .b v :: xs => cnd (isCn c v) (decF sp xs) none
    | _ => none
  | .fnc f :: sp, fr => match fr with
    | .fn f' [] :: xs => cnd (Nat.beq f' f) (decF sp xs) none
    | _ => none
theorem decF_ok {ns : Nat → Nat} : ∀ {sp : List Sl} {fr : List AV} {σ : El (slTy sp)}, (∀ q n, AV.sl q n ∈ fr → ns q = n) → decF sp fr = some σ → fr = encF ns sp σ
  | [], fr, _, _, h => by
    unfold decF at h
    split at h
    · rfl
    · cases h
  | .dat τ :: sp, fr, σ, hn, h => by
    unfold decF at h
    split at h
    · rename_i x xs
      split at h
      · rename_i y ys hy hys
        cases h
        simp only [encF]
        rw [← decV_ok hy, ← decF_ok (fun q n hm => hn q n (List.mem_cons_of_mem _ hm)) hys]
      · cases h
    · cases h
  | .top :: sp, fr, σ, hn, h => by
    rcases fr with _ | ⟨x, xs⟩
    · exact none_ne (show none = some σ from h)
    · cases x with
      | top =>
        have h : decF sp xs = some σ := h
        simp only [encF]
        rw [← decF_ok (fun q n hm => hn q n (List.mem_cons_of_mem _ hm)) h]
      | _ => exact none_ne (show none = some σ from h)
  | .row r :: sp, fr, σ, hn, h => by
    unfold decF at h
    split at h
    · rename_i r' n xs
      obtain ⟨hr, h'⟩ := cond_some h
      clear h
      have hr : r' = r := Nat.eq_of_beq_eq_true hr
      subst hr
      simp only [encF]
      rw [← decF_ok (fun q n hm => hn q n (List.mem_cons_of_mem _ hm)) h', hn r' n (List.mem_cons_self)]
    · cases h
  | .ptr r i j :: sp, fr, σ, hn, h => by
    unfold decF at h
    split at h
    · rename_i r' i' j' xs
      obtain ⟨hr, h'⟩ := cond_some h
      clear h
      simp only [Bool.and_eq_true] at hr
      have h1 : r' = r := Nat.eq_of_beq_eq_true hr.1.1
      have h2 : i' = i := Nat.eq_of_beq_eq_true hr.1.2
      have h3 : j' = j := Nat.eq_of_beq_eq_true hr.2
      subst h1 h2 h3
      simp only [encF]
      rw [← decF_ok (fun q n hm => hn q n (List.mem_cons_of_mem _ hm)) h']
    · cases h
  | .cn c :: sp, fr, σ, hn, h => by
    unfold decF at h
    split at h
    · rename_i v xs
      obtain ⟨hr, h'⟩ := cond_some h
      clear h
      simp only [encF]
      rw [← decF_ok (fun q n hm => hn q n (List.mem_cons_of_mem _ hm)) h', isCn_ok hr]
    · cases h
  | .fnc f :: sp, fr, σ, hn, h => by
    unfold decF at h
    split at h
    · rename_i f' xs
      obtain ⟨hr, h'⟩ := cond_some h
      clear h
      have hr : f' = f := Nat.eq_of_beq_eq_true hr
      subst hr
      simp only [encF]
      rw [← decF_ok (fun q n hm => hn q n (List.mem_cons_of_mem _ hm)) h']
    · cases h

/-- How a row stands at a loop's head. -/
inductive RS where
  | dead
  | row (t k : Nat) (τ : CTy) (mn cv : Bool)
  | box (t k : Nat) (pf : Bool) (c : List Sl)
  | ghost (c : List Sl)
def rsTy : List RS → CTy
  | [] => .unit
  | .dead :: sp => rsTy sp
  | .row _ _ τ _ _ :: sp => .pair (.sl τ) (rsTy sp)
  | .box _ _ _ c :: sp => .pair (slTy c) (rsTy sp)
  | .ghost c :: sp => .pair (slTy c) (rsTy sp)
def nsOf : (sp : List RS) → El (rsTy sp) → Nat → Nat
  | [], _, _ => 0
  | .dead :: sp, σ, r => match r with
    | 0 => 0
    | r + 1 => nsOf sp σ r
  | .row _ _ _ _ _ :: sp, σ, r => match r with
    | 0 => Sq.n σ.1
    | r + 1 => nsOf sp σ.2 r
  | .box _ _ _ _ :: sp, σ, r => match r with
    | 0 => 1
    | r + 1 => nsOf sp σ.2 r
  | .ghost _ :: sp, σ, r => match r with
    | 0 => 0
    | r + 1 => nsOf sp σ.2 r
def encH (ns : Nat → Nat) : (sp : List RS) → El (rsTy sp) → AHeap
  | [], _ => []
  | .dead :: sp, σ => none :: encH ns sp σ
  | .row t k τ mn cv :: sp, σ => some ⟨t, k, Sq.n σ.1, .typ τ (Sq.at' σ.1), mn, true, false, cv⟩ :: encH ns sp σ.2
  | .box t k pf c :: sp, σ => some ⟨t, k, 1, .box (encF ns c σ.1), false, pf, true, false⟩ :: encH ns sp σ.2
  | .ghost c :: sp, σ => some ⟨0, 0, 0, .box (encF ns c σ.1), true, false, false, false⟩ :: encH ns sp σ.2
def beqB : Bool → Bool → Bool
  | true, true => true
  | false, false => true
  | _, _ => false
theorem beqB_eq {a b : Bool} (h : beqB a b = true) : a = b := by cases a <;> cases b <;> simp_all [beqB]
def decH : (sp : List RS) → AHeap → Option (El (rsTy sp))
  | [], H => match H with
    | [] => some ()
    | _ :: _ => none
  | .dead :: sp, H => match H with
    | none :: H => decH sp H
    | _ => none
  | .row t k τ mn cv :: sp, H => match H with
    | some ⟨t', k', n, .typ τ' xs, mn', pf', bx', cv'⟩ :: H => cnd (Nat.beq t' t && Nat.beq k' k && beqB mn' mn && beqB pf' true && beqB bx' false && beqB cv' cv) (if h : τ' = τ then match decH sp H with
        | some σ => some ((⟨n, fun i => castEl h (xs i)⟩ : Sq (El τ)), σ)
        | none => none else none) none
    | _ => none
  | .box t k pf c :: sp, H => match H with
    | some ⟨t', k', n, .box l, mn', pf', bx', cv'⟩ :: H => cnd (Nat.beq t' t && Nat.beq k' k && Nat.beq n 1 && beqB mn' false && beqB pf' pf && beqB bx' true && beqB cv' false) (match decF c l, decH sp H with
        | some x, some σ => some (x, σ)
        | _, _ => none) none
    | _ => none
  | .ghost c :: sp, H => match H with
    | some ⟨t', k', n, .box l, mn', pf', bx', cv'⟩ :: H => cnd (Nat.beq t' 0 && Nat.beq k' 0 && Nat.beq n 0 && beqB mn' true && beqB pf' false && beqB bx' false && beqB cv' false) (match decF c l, decH sp H with
        | some x, some σ => some (x, σ)
        | _, _ => none) none
    | _ => none
theorem decH_ok {ns : Nat → Nat} : ∀ {sp : List RS} {H : AHeap} {σ : El (rsTy sp)}, (∀ (q : Nat) (W : Row) (l : List AV), H[q]? = some (some W) → (W.box = true ∨ W.k = 0 ∧ W.pf = false) → W.ex = .box l → ∀ q' n, AV.sl q' n ∈ l → ns q' = n) → decH sp H = some σ →
    H = encH ns sp σ ∧ ∀ (q : Nat) (W : Row), H[q]? = some (some W) → nsOf sp σ q = W.n
  | [], H, σ, hn, h => by
    unfold decH at h
    split at h
    · exact ⟨rfl, fun q W h => by simp at h⟩
    · cases h
  | .dead :: sp, H, σ, hn, h => by
    rcases H with _ | ⟨x, H⟩
    · exact none_ne (show none = some σ from h)
    · cases x with
      | none =>
        have h : decH sp H = some σ := h
        obtain ⟨h1, h2⟩ := decH_ok (sp := sp) (fun q W l hq => hn (q + 1) W l (by simpa using hq)) h
        refine ⟨by simp only [encH]; rw [← h1], fun q W hq => ?_⟩
        cases q with
        | zero => simp at hq
        | succ q => exact h2 q W (by simpa using hq)
      | some _ => exact none_ne (show none = some σ from h)
  | .row t k τ mn cv :: sp, H, σ, hn, h => by
    unfold decH at h
    split at h
    · rename_i t' k' n τ' xs mn' pf' bx' cv' H
      obtain ⟨hc, h'⟩ := cond_some h
      clear h
      simp only [Bool.and_eq_true] at hc
      obtain ⟨⟨⟨⟨⟨c1, c2⟩, c3⟩, c4⟩, c5⟩, c6⟩ := hc
      have c1 := Nat.eq_of_beq_eq_true c1
      have c2 := Nat.eq_of_beq_eq_true c2
      have c3 := beqB_eq c3
      have c4 := beqB_eq c4
      have c5 := beqB_eq c5
      have c6 := beqB_eq c6
      subst c1 c2 c3 c4 c5 c6
      split at h'
      · rename_i hτ
        subst hτ
        split at h'
        · rename_i σ' hσ
          cases h'
          obtain ⟨h1, h2⟩ := decH_ok (sp := sp) (fun q W l hq => hn (q + 1) W l (by simpa using hq)) hσ
          refine ⟨by simp only [encH]; rw [← h1]; rfl, fun q W hq => ?_⟩
          cases q with
          | zero => simp at hq; subst hq; rfl
          | succ q => exact h2 q W (by simpa using hq)
        · cases h'
      · cases h'
    · cases h
  | .box t k pf c :: sp, H, σ, hn, h => by
    unfold decH at h
    split at h
    · rename_i t' k' n l mn' pf' bx' cv' H
      obtain ⟨hc, h'⟩ := cond_some h
      clear h
      simp only [Bool.and_eq_true] at hc
      obtain ⟨⟨⟨⟨⟨⟨c1, c2⟩, c3⟩, c4⟩, c5⟩, c6⟩, c7⟩ := hc
      have c1 := Nat.eq_of_beq_eq_true c1
      have c2 := Nat.eq_of_beq_eq_true c2
      have c3 := Nat.eq_of_beq_eq_true c3
      have c4 := beqB_eq c4
      have c5 := beqB_eq c5
      have c6 := beqB_eq c6
      have c7 := beqB_eq c7
      subst c1 c2 c3 c4 c5 c6 c7
      split at h'
      · rename_i x σ' hx hσ
        cases h'
        obtain ⟨h1, h2⟩ := decH_ok (sp := sp) (fun q W l hq => hn (q + 1) W l (by simpa using hq)) hσ
        have h3 := decF_ok (ns := ns) (fun q' n hm => hn 0 _ l rfl (.inl rfl) rfl q' n hm) hx
        refine ⟨by simp only [encH]; rw [← h1, ← h3], fun q W hq => ?_⟩
        cases q with
        | zero => simp at hq; subst hq; rfl
        | succ q => exact h2 q W (by simpa using hq)
      · cases h'
    · cases h
  | .ghost c :: sp, H, σ, hn, h => by
    unfold decH at h
    split at h
    · rename_i t' k' n l mn' pf' bx' cv' H
      obtain ⟨hc, h'⟩ := cond_some h
      clear h
      simp only [Bool.and_eq_true] at hc
      obtain ⟨⟨⟨⟨⟨⟨c1, c2⟩, c3⟩, c4⟩, c5⟩, c6⟩, c7⟩ := hc
      have c1 := Nat.eq_of_beq_eq_true c1
      have c2 := Nat.eq_of_beq_eq_true c2
      have c3 := Nat.eq_of_beq_eq_true c3
      have c4 := beqB_eq c4
      have c5 := beqB_eq c5
      have c6 := beqB_eq c6
      have c7 := beqB_eq c7
      subst c1 c2 c3 c4 c5 c6 c7
      split at h'
      · rename_i x σ' hx hσ
        cases h'
        obtain ⟨h1, h2⟩ := decH_ok (sp := sp) (fun q W l hq => hn (q + 1) W l (by simpa using hq)) hσ
        have h3 := decF_ok (ns := ns) (fun q' n hm => hn 0 _ l rfl (.inr ⟨rfl, rfl⟩) rfl q' n hm) hx
        refine ⟨by simp only [encH]; rw [← h1, ← h3], fun q W hq => ?_⟩
        cases q with
        | zero => simp at hq; subst hq; rfl
        | succ q => exact h2 q W (by simpa using hq)
      · cases h'
    · cases h

section
variable {R : Type}
/-- A loop that is told by a typed function. -/
def runL (sp : List Sl) (rp : List RS) (F : El (slTy sp) → El (rsTy rp) → (XE → List AV → AHeap → Option R) → Option R) (k : XE → List AV → AHeap → Option R) (fr : List AV) (H : AHeap) : Option R :=
  match decH rp H, decF sp fr with
  | some ρ, some σ => F σ ρ k
  | _, _ => none
theorem runL_ok {sp : List Sl} {rp : List RS} {F : El (slTy sp) → El (rsTy rp) → (XE → List AV → AHeap → Option R) → Option R} {k : XE → List AV → AHeap → Option R} {fr : List AV} {H : AHeap} {r : R} (ht : Tied fr H) (h : runL sp rp F k fr H = some r) :
    ∃ σ ρ, fr = encF (nsOf rp ρ) sp σ ∧ H = encH (nsOf rp ρ) rp ρ ∧ F σ ρ k = some r := by
  unfold runL at h
  split at h
  · rename_i ρ σ hρ hσ
    have h0 := decH_ok (ns := fun q => match H[q]? with
      | some (some W) => W.n
      | _ => 0) (fun q W l hq hb he q' n hm => by
        obtain ⟨W', hW', hn⟩ := ht.2 q W l hq hb he q' n hm
        simp only [hW', hn]) hρ
    have hns : ∀ q W, H[q]? = some (some W) → nsOf rp ρ q = W.n := h0.2
    have h1 := decH_ok (ns := nsOf rp ρ) (fun q W l hq hb he q' n hm => by
        obtain ⟨W', hW', hn⟩ := ht.2 q W l hq hb he q' n hm
        rw [hns q' W' hW', hn]) hρ
    refine ⟨σ, ρ, decF_ok (fun q n hm => ?_) hσ, h1.1, h⟩
    obtain ⟨W, hW, hn⟩ := ht.1 q n hm
    rw [hns q W hW, hn]
  · cases h
/-- A loop's rounds, from a state that is told by data. -/
def loopI (L : Tys) (Γ : Callees R) (hint : Hint R) (n : Nat) (c : Code) (cur : Nat) (sp : List Sl) (rp : List RS) (k : XE → List AV → AHeap → Option R) (m : Nat) (σ : El (slTy sp)) (ρ : El (rsTy rp)) : Option R :=
  iterA (hint.live cur) (fun k fr H => exec L Γ hint n c cur k fr H) k m (encF (nsOf rp ρ) sp σ) (encH (nsOf rp ρ) rp ρ)
/-- A loop's run is right if it is so wherever it is told by the data. -/
theorem runOk_of {L : Tys} {Γ : Callees R} {hint : Hint R} {n : Nat} {c : Code} {cur : Nat} {sp : List Sl} {rp : List RS} {F : El (slTy sp) → El (rsTy rp) → (XE → List AV → AHeap → Option R) → Option R} (hf : hint.run cur = some (runL sp rp F))
    (h : ∀ k σ ρ, iterA (hint.live cur) (fun k fr H => exec L Γ hint n c cur k fr H) k n (encF (nsOf rp ρ) sp σ) (encH (nsOf rp ρ) rp ρ) = F σ ρ k) : RunOk L Γ hint n c cur := fun f hf' k fr H r ht hr => by
  rw [hf] at hf'
  cases hf'
  obtain ⟨σ, ρ, rfl, rfl, hr'⟩ := runL_ok ht hr
  rw [h]
  exact hr'
theorem runOk_none {L : Tys} {Γ : Callees R} {hint : Hint R} {n : Nat} {c : Code} {cur : Nat} (hf : hint.run cur = none) : RunOk L Γ hint n c cur := fun f hf' => by rw [hf] at hf'; cases hf'

theorem run_ret {T U : Type} {x : Option U} {F : Option T} {φ : T → Option U} (hE : x = F.bind φ) {y : T} (h : F = some y) : x = φ y := by rw [hE, h]; rfl
theorem ite_bind {α β : Type} {p : Prop} [Decidable p] {a b : Option α} {f : α → Option β} : (if p then a else b).bind f = if p then a.bind f else b.bind f := by split <;> rfl
theorem onL_bind {A B α β : Type} {r : Lx A B} {ko : A → Option α} {kr : B → Option α} {kp : Int → Option α} {f : α → Option β} : (onL r ko kr kp).bind f = onL r (fun a => (ko a).bind f) (fun a => (kr a).bind f) (fun a => (kp a).bind f) := by cases r <;> rfl
theorem onX_bind {A α β : Type} {r : Except Int A} {ko : A → Option α} {kp : Int → Option α} {f : α → Option β} : (onX r kp ko).bind f = onX r (fun a => (kp a).bind f) (fun a => (ko a).bind f) := by cases r <;> rfl
theorem none_bind {α β : Type} {f : α → Option β} : (none : Option α).bind f = none := rfl
theorem some_bind {α β : Type} {a : α} {f : α → Option β} : (some a).bind f = f a := rfl
theorem bind_bind {α β γ : Type} {x : Option α} {f : α → Option β} {g : β → Option γ} : (x.bind f).bind g = x.bind fun a => (f a).bind g := by cases x <;> rfl
end

/-- An argument, or an answer: a slot; a struct with live slices. -/
inductive RSp where
  | one (s : Sl)
  | agg (l : List Sl)
def rspTy : List RSp → CTy
  | [] => .unit
  | .one s :: sp => .pair (slTy [s]) (rspTy sp)
  | .agg l :: sp => .pair (slTy l) (rspTy sp)
def encO (ns : Nat → Nat) : (sp : List RSp) → El (rspTy sp) → List AV
  | [], _ => []
  | .one s :: sp, σ => (encF ns [s] σ.1).getD 0 .top :: encO ns sp σ.2
  | .agg l :: sp, σ => .agg (encF ns l σ.1) :: encO ns sp σ.2
def nrmS : Sl → AV → AV
  | .dat τ, x => nrmV τ x
  | _, x => x
def nrmSL : List Sl → List AV → List AV
  | s :: sp, x :: xs => nrmS s x :: nrmSL sp xs
  | _, l => l
def decO : (sp : List RSp) → List AV → Option (El (rspTy sp))
  | [], l => match l with
    | [] => some ()
    | _ :: _ => none
  | .one s :: sp, l => match l with
    | x :: xs => match decF [s] [nrmS s x], decO sp xs with
      | some y, some ys => some (y, ys)
      | _, _ => none
    | [] => none
  | .agg l :: sp, l' => match l' with
    | .agg c :: xs => match decF l (nrmSL l c), decO sp xs with
      | some y, some ys => some (y, ys)
      | _, _ => none
    | _ => none
theorem nrmS_ok {E : Env} {s : Sl} {x : AV} {v : Value} (h : E.V x v) : E.V (nrmS s x) v := by
  unfold nrmS
  split
  · exact nrmV_ok h
  · exact h
theorem nrmSL_ok {E : Env} : ∀ {sp : List Sl} {l : List AV} {vs : List Value}, E.L l vs → E.L (nrmSL sp l) vs
  | [], l, vs, h => by simpa only [nrmSL] using h
  | s :: sp, [], vs, h => by simpa only [nrmSL] using h
  | s :: sp, x :: xs, [], h => by simp [Env.L, LR] at h
  | s :: sp, x :: xs, v :: vs, h => by
    simp only [Env.L, LR] at h
    simp only [nrmSL, Env.L, LR]
    exact ⟨nrmS_ok h.1, nrmSL_ok h.2⟩
/-- Values that are told so are told by the data. -/
theorem decO_ok {E : Env} {ns : Nat → Nat} (hns : ∀ q W, E.H[q]? = some (some W) → ns q = W.n) : ∀ {sp : List RSp} {l : List AV} {vs : List Value} {σ : El (rspTy sp)}, E.L l vs → decO sp l = some σ → E.L (encO ns sp σ) vs
  | [], l, vs, σ, hl, h => by
    unfold decO at h
    split at h
    · simpa only [encO] using hl
    · cases h
  | .one s :: sp, l, vs, σ, hl, h => by
    unfold decO at h
    split at h
    · rename_i x xs
      cases vs with
      | nil => simp [Env.L, LR] at hl
      | cons v vs =>
        simp only [Env.L, LR] at hl
        split at h
        · rename_i y ys hy hys
          cases h
          have h1 : E.L [nrmS s x] [v] := by simp only [Env.L, LR]; exact ⟨nrmS_ok hl.1, trivial⟩
          have h2 := decF_ok (ns := ns) (fun q n hm => by
            obtain ⟨W, hW, hn⟩ := tied_old h1 q n hm
            rw [hns q W hW, hn]) hy
          simp only [encO, Env.L, LR]
          refine ⟨?_, decO_ok hns hl.2 hys⟩
          rw [← h2]
          exact nrmS_ok hl.1
        · cases h
    · cases h
  | .agg sl :: sp, l, vs, σ, hl, h => by
    unfold decO at h
    split at h
    · rename_i c xs
      cases vs with
      | nil => simp [Env.L, LR] at hl
      | cons v vs =>
        simp only [Env.L, LR] at hl
        split at h
        · rename_i y ys hy hys
          cases h
          have h0 := hl.1
          simp only [VR] at h0
          obtain ⟨a, hv, hc⟩ := h0
          have h1 : E.L (nrmSL sl c) a.toList := nrmSL_ok hc
          have h2 := decF_ok (ns := ns) (fun q n hm => by
            obtain ⟨W, hW, hn⟩ := tied_old h1 q n hm
            rw [hns q W hW, hn]) hy
          simp only [encO, Env.L, LR]
          refine ⟨?_, decO_ok hns hl.2 hys⟩
          rw [← h2]
          simp only [VR]
          exact ⟨a, hv, h1⟩
        · cases h
    · cases h
def noPc {R : Type} (_ : List AV) (_ _ : AV → Option R) : Option R := none
/-- What a function answers that is handed live memory of this form. -/
def csT (sp : List RSp) (rp : List RS) {T : Type} (F : El (rspTy sp) → El (rsTy rp) → Option T) (O : T → OutS) (R : Type) (args : List AV) (H : AHeap) : Option ((OutS → Option R) → Option R) :=
  match decH rp H, decO sp args with
  | some ρ, some σ => some fun k => (F σ ρ).bind fun y => k (O y)
  | _, _ => none
theorem csT_ok {P : Program} {g : Glob} {f : FuncId} {sp : List RSp} {rp : List RS} {T : Type} {F : El (rspTy sp) → El (rsTy rp) → Option T} {O : T → OutS} (he : Enters P f)
    (h : ∀ σ ρ y, F σ ρ = some y → AnsS P g f (encO (nsOf rp ρ) sp σ) (encH (nsOf rp ρ) rp ρ) (O y)) : EntryOk P g ⟨f, noPc, none, some (csT sp rp F O)⟩ := by
  refine ⟨fun _ => he, fun _ _ _ h => (by cases h), fun h => (by cases h), fun run hr => ?_, fun _ h => (by cases h)⟩
  cases hr
  refine ⟨rfl, fun R args H F' k r ho hk => ?_⟩
  unfold csT at ho
  split at ho
  · rename_i ρ σ hρ hσ
    cases ho
    obtain ⟨y, hF, hk⟩ := Option.bind_eq_some_iff.1 hk
    refine ⟨O y, hk, ?_⟩
    intro gs B E vs hS hH hargs
    subst hH
    have ht := tied_of hS hargs
    have h0 := decH_ok (ns := fun q => match E.H[q]? with
      | some (some W) => W.n
      | _ => 0) (fun q W l hq hb he q' n hm => by
        obtain ⟨W', hW', hn⟩ := ht.2 q W l hq hb he q' n hm
        simp only [hW', hn]) hρ
    have hns : ∀ q W, E.H[q]? = some (some W) → nsOf rp ρ q = W.n := h0.2
    have h1 := decH_ok (ns := nsOf rp ρ) (fun q W l hq hb he q' n hm => by
        obtain ⟨W', hW', hn⟩ := ht.2 q W l hq hb he q' n hm
        rw [hns q' W' hW', hn]) hρ
    exact h σ ρ y hF gs B E vs hS h1.1 (decO_ok hns hargs hσ)
  · cases ho
end Go.Proofs.YthmhobnhladhbaaDoor.AM
