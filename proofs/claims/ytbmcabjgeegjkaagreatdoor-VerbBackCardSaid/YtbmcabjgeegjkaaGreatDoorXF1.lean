/- Typed functions that tell what the Go functions of this seat answer, and proofs of it, by program (gen.py). -/
import Derived.Test.YtbmcabjgeegjkaaGreatDoorXF0
set_option linter.all false
set_option maxRecDepth 1000000
set_option maxHeartbeats 0
namespace Go.Proofs.YtbmcabjgeegjkaaGreatDoor.AM
open Go Go.RowKit
noncomputable section
/- pouch/verb.only -/
def v_only_B (n : Nat) {R : Type} (v : T0) (k : (T0 × Bool × Unit) → Option R) : Option R :=
 if (v.1 == (1 : Int)) = true then
  (ad_IsDomain n v.2.1).bind fun v1 =>
  k ((v.1, (v.2.1, (false, (((⟨#[]⟩ : BA), ((⟨#[]⟩ : BA), ())), ((0 : Int), ()))))), (v1, ()))
 else
  if (v.1 == (2 : Int)) = true then
   (ad_IsDomain n v.2.1).bind fun v2 =>
   k ((v.1, (v.2.1, (false, (((⟨#[]⟩ : BA), ((⟨#[]⟩ : BA), ())), ((0 : Int), ()))))), (v2, ()))
  else
   if (v.1 == (3 : Int)) = true then
    dup 1 (
     if (!v.2.2.1) = true then
      if v.2.2.1 = false then
       (ad_May n (v.2.2.2.1.1, (v.2.2.2.1.2.1, ()))).bind fun v3 =>
       if v3 = true then
        if (decide (v.2.2.2.2.1 ≥ (-1 : Int))) = true then
         dup 1 (
          k ((v.1, ((⟨#[]⟩ : BA), (v.2.2.1, ((v.2.2.2.1.1, (v.2.2.2.1.2.1, ())), (v.2.2.2.2.1, ()))))), ((decide (v.2.2.2.2.1 ≤ (1073741824 : Int))), ())))
        else
         dup 1 (
          k ((v.1, ((⟨#[]⟩ : BA), (v.2.2.1, ((v.2.2.2.1.1, (v.2.2.2.1.2.1, ())), (v.2.2.2.2.1, ()))))), (false, ())))
       else
        dup 1 (
         k ((v.1, ((⟨#[]⟩ : BA), (v.2.2.1, ((v.2.2.2.1.1, (v.2.2.2.1.2.1, ())), (v.2.2.2.2.1, ()))))), (false, ())))
      else
       if (decide (v.2.2.2.2.1 ≥ (-1 : Int))) = true then
        dup 1 (
         k ((v.1, ((⟨#[]⟩ : BA), (v.2.2.1, ((v.2.2.2.1.1, (v.2.2.2.1.2.1, ())), (v.2.2.2.2.1, ()))))), ((decide (v.2.2.2.2.1 ≤ (1073741824 : Int))), ())))
       else
        dup 1 (
         k ((v.1, ((⟨#[]⟩ : BA), (v.2.2.1, ((v.2.2.2.1.1, (v.2.2.2.1.2.1, ())), (v.2.2.2.2.1, ()))))), (false, ())))
     else
      if v.2.2.1 = false then
       (ad_May n (v.2.2.2.1.1, (v.2.2.2.1.2.1, ()))).bind fun v4 =>
       if v4 = true then
        if (decide (v.2.2.2.2.1 ≥ (-1 : Int))) = true then
         dup 1 (
          k ((v.1, ((⟨#[]⟩ : BA), (v.2.2.1, (((⟨#[]⟩ : BA), ((⟨#[]⟩ : BA), ())), (v.2.2.2.2.1, ()))))), ((decide (v.2.2.2.2.1 ≤ (1073741824 : Int))), ())))
        else
         dup 1 (
          k ((v.1, ((⟨#[]⟩ : BA), (v.2.2.1, (((⟨#[]⟩ : BA), ((⟨#[]⟩ : BA), ())), (v.2.2.2.2.1, ()))))), (false, ())))
       else
        dup 1 (
         k ((v.1, ((⟨#[]⟩ : BA), (v.2.2.1, (((⟨#[]⟩ : BA), ((⟨#[]⟩ : BA), ())), (v.2.2.2.2.1, ()))))), (false, ())))
      else
       if (decide (v.2.2.2.2.1 ≥ (-1 : Int))) = true then
        dup 1 (
         k ((v.1, ((⟨#[]⟩ : BA), (v.2.2.1, (((⟨#[]⟩ : BA), ((⟨#[]⟩ : BA), ())), (v.2.2.2.2.1, ()))))), ((decide (v.2.2.2.2.1 ≤ (1073741824 : Int))), ())))
       else
        dup 1 (
         k ((v.1, ((⟨#[]⟩ : BA), (v.2.2.1, (((⟨#[]⟩ : BA), ((⟨#[]⟩ : BA), ())), (v.2.2.2.2.1, ()))))), (false, ()))))
   else
    if (v.1 == (4 : Int)) = true then
     (ad_May n (v.2.2.2.1.1, (v.2.2.2.1.2.1, ()))).bind fun v7 =>
     k ((v.1, ((⟨#[]⟩ : BA), (false, ((v.2.2.2.1.1, (v.2.2.2.1.2.1, ())), ((0 : Int), ()))))), (v7, ()))
    else
     if (v.1 == (7 : Int)) = true then
      (v_words n v.2.1).bind fun v8 =>
      if v8 = false then
       if (v.2.1.toList == (⟨#[]⟩ : BA).toList) = true then
        dup 1 (
         k ((v.1, (v.2.1, (false, (((⟨#[]⟩ : BA), ((⟨#[]⟩ : BA), ())), ((0 : Int), ()))))), ((v.1 == (7 : Int)), ())))
       else
        dup 1 (
         k ((v.1, (v.2.1, (false, (((⟨#[]⟩ : BA), ((⟨#[]⟩ : BA), ())), ((0 : Int), ()))))), (false, ())))
      else
       dup 1 (
        k ((v.1, (v.2.1, (false, (((⟨#[]⟩ : BA), ((⟨#[]⟩ : BA), ())), ((0 : Int), ()))))), (true, ())))
     else
      if (v.1 == (9 : Int)) = true then
       (v_words n v.2.1).bind fun v9 =>
       if v9 = false then
        if (v.2.1.toList == (⟨#[]⟩ : BA).toList) = true then
         dup 1 (
          k ((v.1, (v.2.1, (false, (((⟨#[]⟩ : BA), ((⟨#[]⟩ : BA), ())), ((0 : Int), ()))))), ((v.1 == (7 : Int)), ())))
        else
         dup 1 (
          k ((v.1, (v.2.1, (false, (((⟨#[]⟩ : BA), ((⟨#[]⟩ : BA), ())), ((0 : Int), ()))))), (false, ())))
       else
        dup 1 (
         k ((v.1, (v.2.1, (false, (((⟨#[]⟩ : BA), ((⟨#[]⟩ : BA), ())), ((0 : Int), ()))))), (true, ())))
      else
       if (v.1 == (5 : Int)) = true then
        k ((v.1, ((⟨#[]⟩ : BA), (false, (((⟨#[]⟩ : BA), ((⟨#[]⟩ : BA), ())), ((0 : Int), ()))))), (true, ()))
       else
        if (v.1 == (6 : Int)) = true then
         k ((v.1, ((⟨#[]⟩ : BA), (false, (((⟨#[]⟩ : BA), ((⟨#[]⟩ : BA), ())), ((0 : Int), ()))))), (true, ()))
        else
         if (v.1 == (8 : Int)) = true then
          k ((v.1, ((⟨#[]⟩ : BA), (false, (((⟨#[]⟩ : BA), ((⟨#[]⟩ : BA), ())), ((0 : Int), ()))))), (true, ()))
         else
          k ((v.1, ((⟨#[]⟩ : BA), (false, (((⟨#[]⟩ : BA), ((⟨#[]⟩ : BA), ())), ((0 : Int), ()))))), (false, ()))
def v_only (n : Nat) (v : T0) : Option (T0 × Bool × Unit) := v_only_B n v some
theorem v_only_N (n : Nat) {R S : Type} (v : T0) (k : (T0 × Bool × Unit) → Option R) (φ : R → Option S) : v_only_B n v (fun a => (k a).bind φ) = (v_only_B n v k).bind φ := by
  unfold v_only_B
  first | (simp only [dup_self, both_self, iB, bB, oL, oX, nB]) | rfl
def v_only_hint (n : Nat) : Hint Out := { live := fun c => [], run := fun c => none, xm := fun c q => none, sch := fun c => (cond (Nat.beq c 18) (some [(1, 0), (0, 1), (2, 1), (3, 3), (4, 0), (5, 0), (6, 3), (7, 0), (8, 0), (9, 0), (14, 5), (10, 7), (11, 6), (12, 6), (13, 6), (15, 6)]) (cond (Nat.beq c 14) (some [(1, 0), (0, 1), (2, 1), (3, 3), (4, 2), (5, 0)]) (cond (Nat.beq c 11) (some [(1, 0), (0, 1), (2, 1), (3, 0), (4, 0), (5, 1), (6, 3), (7, 0), (8, 0), (9, 0), (10, 3), (11, 0), (12, 0), (13, 0), (14, 0), (18, 5), (15, 7), (16, 6), (17, 6), (19, 6)]) (cond (Nat.beq c 8) (some [(0, 0), (2, 0), (1, 1), (4, 0), (5, 5), (3, 7), (6, 6), (7, 2)]) (cond (Nat.beq c 6) (some [(1, 0), (0, 1), (2, 1), (3, 3), (4, 2), (5, 0)]) none))))) }
theorem v_only_runs (n : Nat) : RunsOk tys (callees Out (v_words_es n)) (v_only_hint n) n (bodyOf Tryz.f52) 0 := runs_noloop (fun _ => rfl) _ _ (by kernel_rfl)
theorem v_only_at : Tryz.prog.funcs[52]? = some Tryz.f52 := by kernel_rfl
theorem v_only_ent (n : Nat) : Enters Tryz.prog 52 := enters_of (c := bodyOf Tryz.f52) v_only_at (by kernel_rfl) (by kernel_rfl)
theorem v_only_E (n : Nat) (v : T0) : fnA tys (callees Out (v_words_es n)) (v_only_hint n) n Tryz.f52 (encL (.pair (.pair (.int .i64) (.pair .str (.pair .bool (.pair (.pair .str (.pair .str .unit)) (.pair (.int .i64) .unit))))) .unit) (v, ())) [] (soloA fun v => some (.ret v)) (soloA fun v => some (.pan v)) = v_only_B n v (fun y => some (.ret (encR (.many (.pair (.pair (.int .i64) (.pair .str (.pair .bool (.pair (.pair .str (.pair .str .unit)) (.pair (.int .i64) .unit))))) (.pair .bool .unit))) y))) := by kernel_rfl
def v_only_en (n : Nat) : Entry := ⟨52, pcT (.pair (.pair (.int .i64) (.pair .str (.pair .bool (.pair (.pair .str (.pair .str .unit)) (.pair (.int .i64) .unit))))) .unit) (.many (.pair (.pair (.int .i64) (.pair .str (.pair .bool (.pair (.pair .str (.pair .str .unit)) (.pair (.int .i64) .unit))))) (.pair .bool .unit))) (fun xs => v_only n xs.1), none, none⟩
theorem v_only_ok (n : Nat) : EntryOk Tryz.prog gl (v_only_en n) :=
  pcT_ok (v_only_ent n) fun xs y h => ans_of_fn tys_ok (v_words_es_ok n) mixed (hint := v_only_hint n) (n := n) (fn := Tryz.f52) v_only_at (runsC (v_only_runs n)) (run_ret (φ := (fun y => some (Out.ret (encR (.many (.pair (.pair (.int .i64) (.pair .str (.pair .bool (.pair (.pair .str (.pair .str .unit)) (.pair (.int .i64) .unit))))) (.pair .bool .unit))) y)))) ((v_only_E n xs.1).trans (v_only_N (R := (T0 × Bool × Unit)) (S := Out) n xs.1 some (fun y => some (Out.ret (encR (.many (.pair (.pair (.int .i64) (.pair .str (.pair .bool (.pair (.pair .str (.pair .str .unit)) (.pair (.int .i64) .unit))))) (.pair .bool .unit))) y))))) h)
def v_only_es (n : Nat) : List Entry := v_only_en n :: v_words_es n
theorem v_only_es_ok (n : Nat) : AllOk Tryz.prog gl (v_only_es n) := .cons (v_only_ok n) (v_words_es_ok n)
/- pouch/verb.May -/
def v_May_B (n : Nat) {R : Type} (v : T0) (k : Bool → Option R) : Option R :=
 (v_only n (v.1, (v.2.1, (v.2.2.1, ((v.2.2.2.1.1, (v.2.2.2.1.2.1, ())), (v.2.2.2.2.1, ())))))).bind fun v1 =>
 if v1.2.1 = true then
  k ((v1.1.1 == v.1) && ((v1.1.2.1.toList == v.2.1.toList) && ((v1.1.2.2.1 == v.2.2.1) && (((v1.1.2.2.2.1.1.toList == v.2.2.2.1.1.toList) && ((v1.1.2.2.2.1.2.1.toList == v.2.2.2.1.2.1.toList) && true)) && ((v1.1.2.2.2.2.1 == v.2.2.2.2.1) && true)))))
 else
  k false
def v_May (n : Nat) (v : T0) : Option Bool := v_May_B n v some
theorem v_May_N (n : Nat) {R S : Type} (v : T0) (k : Bool → Option R) (φ : R → Option S) : v_May_B n v (fun a => (k a).bind φ) = (v_May_B n v k).bind φ := by
  unfold v_May_B
  first | (simp only [dup_self, both_self, iB, bB, oL, oX, nB]) | rfl
def v_May_hint (n : Nat) : Hint Out := { live := fun c => [], run := fun c => none, xm := fun c q => none }
theorem v_May_runs (n : Nat) : RunsOk tys (callees Out (v_only_es n)) (v_May_hint n) n (bodyOf Tryz.f34) 0 := runs_noloop (fun _ => rfl) _ _ (by kernel_rfl)
theorem v_May_at : Tryz.prog.funcs[34]? = some Tryz.f34 := by kernel_rfl
theorem v_May_ent (n : Nat) : Enters Tryz.prog 34 := enters_of (c := bodyOf Tryz.f34) v_May_at (by kernel_rfl) (by kernel_rfl)
theorem v_May_E (n : Nat) (v : T0) : fnA tys (callees Out (v_only_es n)) (v_May_hint n) n Tryz.f34 (encL (.pair (.pair (.int .i64) (.pair .str (.pair .bool (.pair (.pair .str (.pair .str .unit)) (.pair (.int .i64) .unit))))) .unit) (v, ())) [] (soloA fun v => some (.ret v)) (soloA fun v => some (.pan v)) = v_May_B n v (fun y => some (.ret (encR (.one .bool) y))) := by kernel_rfl
def v_May_en (n : Nat) : Entry := ⟨34, pcT (.pair (.pair (.int .i64) (.pair .str (.pair .bool (.pair (.pair .str (.pair .str .unit)) (.pair (.int .i64) .unit))))) .unit) (.one .bool) (fun xs => v_May n xs.1), none, none⟩
theorem v_May_ok (n : Nat) : EntryOk Tryz.prog gl (v_May_en n) :=
  pcT_ok (v_May_ent n) fun xs y h => ans_of_fn tys_ok (v_only_es_ok n) mixed (hint := v_May_hint n) (n := n) (fn := Tryz.f34) v_May_at (runsC (v_May_runs n)) (run_ret (φ := (fun y => some (Out.ret (encR (.one .bool) y)))) ((v_May_E n xs.1).trans (v_May_N (R := Bool) (S := Out) n xs.1 some (fun y => some (Out.ret (encR (.one .bool) y))))) h)
def v_May_es (n : Nat) : List Entry := v_May_en n :: v_only_es n
theorem v_May_es_ok (n : Nat) : AllOk Tryz.prog gl (v_May_es n) := .cons (v_May_ok n) (v_only_es_ok n)
/- pouch/addr.Domain -/
def ad_Domain_B (n : Nat) {R : Type} (s : BA) (k : (BA × Int × Unit) → Option R) : Option R :=
 (ad_small n s).bind fun v =>
 (ad_IsDomain n v).bind fun v1 =>
 if (!v1) = true then
  k ((⟨#[]⟩ : BA), ((8 : Int), ()))
 else
  k (v, ((0 : Int), ()))
def ad_Domain (n : Nat) (s : BA) : Option (BA × Int × Unit) := ad_Domain_B n s some
theorem ad_Domain_N (n : Nat) {R S : Type} (s : BA) (k : (BA × Int × Unit) → Option R) (φ : R → Option S) : ad_Domain_B n s (fun a => (k a).bind φ) = (ad_Domain_B n s k).bind φ := by
  unfold ad_Domain_B
  first | (simp only [dup_self, both_self, iB, bB, oL, oX, nB]) | rfl
def ad_Domain_hint (n : Nat) : Hint Out := { live := fun c => [], run := fun c => none, xm := fun c q => none }
theorem ad_Domain_runs (n : Nat) : RunsOk tys (callees Out (v_May_es n)) (ad_Domain_hint n) n (bodyOf Tryz.f48) 0 := runs_noloop (fun _ => rfl) _ _ (by kernel_rfl)
theorem ad_Domain_at : Tryz.prog.funcs[48]? = some Tryz.f48 := by kernel_rfl
theorem ad_Domain_ent (n : Nat) : Enters Tryz.prog 48 := enters_of (c := bodyOf Tryz.f48) ad_Domain_at (by kernel_rfl) (by kernel_rfl)
theorem ad_Domain_E (n : Nat) (s : BA) : fnA tys (callees Out (v_May_es n)) (ad_Domain_hint n) n Tryz.f48 (encL (.pair .str .unit) (s, ())) [] (soloA fun v => some (.ret v)) (soloA fun v => some (.pan v)) = ad_Domain_B n s (fun y => some (.ret (encR (.many (.pair .str (.pair (.int .i64) .unit))) y))) := by kernel_rfl
def ad_Domain_en (n : Nat) : Entry := ⟨48, pcT (.pair .str .unit) (.many (.pair .str (.pair (.int .i64) .unit))) (fun xs => ad_Domain n xs.1), none, none⟩
theorem ad_Domain_ok (n : Nat) : EntryOk Tryz.prog gl (ad_Domain_en n) :=
  pcT_ok (ad_Domain_ent n) fun xs y h => ans_of_fn tys_ok (v_May_es_ok n) mixed (hint := ad_Domain_hint n) (n := n) (fn := Tryz.f48) ad_Domain_at (runsC (ad_Domain_runs n)) (run_ret (φ := (fun y => some (Out.ret (encR (.many (.pair .str (.pair (.int .i64) .unit))) y)))) ((ad_Domain_E n xs.1).trans (ad_Domain_N (R := (BA × Int × Unit)) (S := Out) n xs.1 some (fun y => some (Out.ret (encR (.many (.pair .str (.pair (.int .i64) .unit))) y))))) h)
def ad_Domain_es (n : Nat) : List Entry := ad_Domain_en n :: v_May_es n
theorem ad_Domain_es_ok (n : Nat) : AllOk Tryz.prog gl (ad_Domain_es n) := .cons (ad_Domain_ok n) (v_May_es_ok n)
/- pouch/verb.read -/
def v_read_B (n : Nat) {R : Type} (s : BA) (k : T0 → Option R) (kp : Int → Option R) : Option R :=
 if (decide ((s.size : Int) ≥ (4 : Int))) = true then
  if 0 ≤ (4 : Int) ∧ (4 : Int) ≤ (s.size : Int) then
   (v_kind n (s.extract (Int.toNat (0 : Int)) (Int.toNat (4 : Int)))).bind fun v =>
   if (decide (v > (0 : Int))) = true then
    if ((s.size : Int) == (4 : Int)) = false then
     if 0 ≤ (4 : Int) ∧ (4 : Int) < (s.size : Int) then
      (v_must n ((bt s (4 : Int)) == (32 : Int)) (3 : Int)).bind fun x_1 => onX x_1 (fun p =>
       kp p) (fun v1 =>
      if 0 ≤ (4 : Int) ∧ (4 : Int) ≤ (s.size : Int) then
       (v_kind n (s.extract (Int.toNat (0 : Int)) (Int.toNat (4 : Int)))).bind fun v2 =>
       if 0 ≤ (4 : Int) ∧ (4 : Int) ≤ (s.size : Int) then
        if (v2 == (3 : Int)) = true then
         (v_after n (s.extract (Int.toNat (4 : Int)) (Int.toNat (s.size : Int))) (⟨#[32, 70, 82, 79, 77, 58]⟩ : BA)).bind fun x_2 => onX x_2 (fun p1 =>
          kp p1) (fun v3 =>
         (v_path n v3).bind fun x_3 => onX x_3 (fun p2 =>
          kp p2) (fun v4 =>
         (v_size n v4.2.2.1).bind fun x_4 => onX x_4 (fun p3 =>
          kp p3) (fun v5 =>
         (v_May n (v2, ((⟨#[]⟩ : BA), (v4.2.1, ((v4.1.1, (v4.1.2.1, ())), (v5, ())))))).bind fun v6 =>
         (v_must n v6 (8 : Int)).bind fun x_5 => onX x_5 (fun p4 =>
          kp p4) (fun v7 =>
         k (v2, ((⟨#[]⟩ : BA), (v4.2.1, ((v4.1.1, (v4.1.2.1, ())), (v5, ())))))))))
        else
         if (v2 == (4 : Int)) = true then
          (v_after n (s.extract (Int.toNat (4 : Int)) (Int.toNat (s.size : Int))) (⟨#[32, 84, 79, 58]⟩ : BA)).bind fun x_6 => onX x_6 (fun p5 =>
           kp p5) (fun v8 =>
          (v_path n v8).bind fun x_7 => onX x_7 (fun p6 =>
           kp p6) (fun v9 =>
          (v_must n (v9.2.2.1.toList == (⟨#[]⟩ : BA).toList) (8 : Int)).bind fun x_8 => onX x_8 (fun p7 =>
           kp p7) (fun v10 =>
          (v_May n (v2, ((⟨#[]⟩ : BA), (v9.2.1, ((v9.1.1, (v9.1.2.1, ())), ((0 : Int), ())))))).bind fun v11 =>
          (v_must n v11 (8 : Int)).bind fun x_9 => onX x_9 (fun p8 =>
           kp p8) (fun v12 =>
          k (v2, ((⟨#[]⟩ : BA), (v9.2.1, ((v9.1.1, (v9.1.2.1, ())), ((0 : Int), ())))))))))
         else
          if (v2 == (1 : Int)) = true then
           (st_TrimPrefix n (s.extract (Int.toNat (4 : Int)) (Int.toNat (s.size : Int))) (⟨#[32]⟩ : BA)).bind fun v13 =>
           (ad_Domain n v13).bind fun v14 =>
           (v_must n (v14.2.1 == (0 : Int)) (8 : Int)).bind fun x_10 => onX x_10 (fun p9 =>
            kp p9) (fun v15 =>
           (v_May n (v2, (v14.1, (false, (((⟨#[]⟩ : BA), ((⟨#[]⟩ : BA), ())), ((0 : Int), ())))))).bind fun v16 =>
           (v_must n v16 (8 : Int)).bind fun x_11 => onX x_11 (fun p10 =>
            kp p10) (fun v17 =>
           k (v2, (v14.1, (false, (((⟨#[]⟩ : BA), ((⟨#[]⟩ : BA), ())), ((0 : Int), ())))))))
          else
           if (v2 == (2 : Int)) = true then
            (st_TrimPrefix n (s.extract (Int.toNat (4 : Int)) (Int.toNat (s.size : Int))) (⟨#[32]⟩ : BA)).bind fun v18 =>
            (ad_Domain n v18).bind fun v19 =>
            (v_must n (v19.2.1 == (0 : Int)) (8 : Int)).bind fun x_12 => onX x_12 (fun p11 =>
             kp p11) (fun v20 =>
            (v_May n (v2, (v19.1, (false, (((⟨#[]⟩ : BA), ((⟨#[]⟩ : BA), ())), ((0 : Int), ())))))).bind fun v21 =>
            (v_must n v21 (8 : Int)).bind fun x_13 => onX x_13 (fun p12 =>
             kp p12) (fun v22 =>
            k (v2, (v19.1, (false, (((⟨#[]⟩ : BA), ((⟨#[]⟩ : BA), ())), ((0 : Int), ())))))))
           else
            (v_must n (!((s.extract (Int.toNat (4 : Int)) (Int.toNat (s.size : Int))).toList == (⟨#[32]⟩ : BA).toList)) (8 : Int)).bind fun x_14 => onX x_14 (fun p13 =>
             kp p13) (fun v23 =>
            (st_TrimPrefix n (s.extract (Int.toNat (4 : Int)) (Int.toNat (s.size : Int))) (⟨#[32]⟩ : BA)).bind fun v24 =>
            (v_May n (v2, (v24, (false, (((⟨#[]⟩ : BA), ((⟨#[]⟩ : BA), ())), ((0 : Int), ())))))).bind fun v25 =>
            (v_must n v25 (8 : Int)).bind fun x_15 => onX x_15 (fun p14 =>
             kp p14) (fun v26 =>
            k (v2, (v24, (false, (((⟨#[]⟩ : BA), ((⟨#[]⟩ : BA), ())), ((0 : Int), ())))))))
       else
        none
      else
       none)
     else
      none
    else
     (v_must n true (3 : Int)).bind fun x_16 => onX x_16 (fun p15 =>
      kp p15) (fun v27 =>
     if 0 ≤ (4 : Int) ∧ (4 : Int) ≤ (s.size : Int) then
      (v_kind n (s.extract (Int.toNat (0 : Int)) (Int.toNat (4 : Int)))).bind fun v28 =>
      if 0 ≤ (4 : Int) ∧ (4 : Int) ≤ (s.size : Int) then
       if (v28 == (3 : Int)) = true then
        (v_after n (s.extract (Int.toNat (4 : Int)) (Int.toNat (s.size : Int))) (⟨#[32, 70, 82, 79, 77, 58]⟩ : BA)).bind fun x_17 => onX x_17 (fun p16 =>
         kp p16) (fun v29 =>
        (v_path n v29).bind fun x_18 => onX x_18 (fun p17 =>
         kp p17) (fun v30 =>
        (v_size n v30.2.2.1).bind fun x_19 => onX x_19 (fun p18 =>
         kp p18) (fun v31 =>
        (v_May n (v28, ((⟨#[]⟩ : BA), (v30.2.1, ((v30.1.1, (v30.1.2.1, ())), (v31, ())))))).bind fun v32 =>
        (v_must n v32 (8 : Int)).bind fun x_20 => onX x_20 (fun p19 =>
         kp p19) (fun v33 =>
        k (v28, ((⟨#[]⟩ : BA), (v30.2.1, ((v30.1.1, (v30.1.2.1, ())), (v31, ())))))))))
       else
        if (v28 == (4 : Int)) = true then
         (v_after n (s.extract (Int.toNat (4 : Int)) (Int.toNat (s.size : Int))) (⟨#[32, 84, 79, 58]⟩ : BA)).bind fun x_21 => onX x_21 (fun p20 =>
          kp p20) (fun v34 =>
         (v_path n v34).bind fun x_22 => onX x_22 (fun p21 =>
          kp p21) (fun v35 =>
         (v_must n (v35.2.2.1.toList == (⟨#[]⟩ : BA).toList) (8 : Int)).bind fun x_23 => onX x_23 (fun p22 =>
          kp p22) (fun v36 =>
         (v_May n (v28, ((⟨#[]⟩ : BA), (v35.2.1, ((v35.1.1, (v35.1.2.1, ())), ((0 : Int), ())))))).bind fun v37 =>
         (v_must n v37 (8 : Int)).bind fun x_24 => onX x_24 (fun p23 =>
          kp p23) (fun v38 =>
         k (v28, ((⟨#[]⟩ : BA), (v35.2.1, ((v35.1.1, (v35.1.2.1, ())), ((0 : Int), ())))))))))
        else
         if (v28 == (1 : Int)) = true then
          (st_TrimPrefix n (s.extract (Int.toNat (4 : Int)) (Int.toNat (s.size : Int))) (⟨#[32]⟩ : BA)).bind fun v39 =>
          (ad_Domain n v39).bind fun v40 =>
          (v_must n (v40.2.1 == (0 : Int)) (8 : Int)).bind fun x_25 => onX x_25 (fun p24 =>
           kp p24) (fun v41 =>
          (v_May n (v28, (v40.1, (false, (((⟨#[]⟩ : BA), ((⟨#[]⟩ : BA), ())), ((0 : Int), ())))))).bind fun v42 =>
          (v_must n v42 (8 : Int)).bind fun x_26 => onX x_26 (fun p25 =>
           kp p25) (fun v43 =>
          k (v28, (v40.1, (false, (((⟨#[]⟩ : BA), ((⟨#[]⟩ : BA), ())), ((0 : Int), ())))))))
         else
          if (v28 == (2 : Int)) = true then
           (st_TrimPrefix n (s.extract (Int.toNat (4 : Int)) (Int.toNat (s.size : Int))) (⟨#[32]⟩ : BA)).bind fun v44 =>
           (ad_Domain n v44).bind fun v45 =>
           (v_must n (v45.2.1 == (0 : Int)) (8 : Int)).bind fun x_27 => onX x_27 (fun p26 =>
            kp p26) (fun v46 =>
           (v_May n (v28, (v45.1, (false, (((⟨#[]⟩ : BA), ((⟨#[]⟩ : BA), ())), ((0 : Int), ())))))).bind fun v47 =>
           (v_must n v47 (8 : Int)).bind fun x_28 => onX x_28 (fun p27 =>
            kp p27) (fun v48 =>
           k (v28, (v45.1, (false, (((⟨#[]⟩ : BA), ((⟨#[]⟩ : BA), ())), ((0 : Int), ())))))))
          else
           (v_must n (!((s.extract (Int.toNat (4 : Int)) (Int.toNat (s.size : Int))).toList == (⟨#[32]⟩ : BA).toList)) (8 : Int)).bind fun x_29 => onX x_29 (fun p28 =>
            kp p28) (fun v49 =>
           (st_TrimPrefix n (s.extract (Int.toNat (4 : Int)) (Int.toNat (s.size : Int))) (⟨#[32]⟩ : BA)).bind fun v50 =>
           (v_May n (v28, (v50, (false, (((⟨#[]⟩ : BA), ((⟨#[]⟩ : BA), ())), ((0 : Int), ())))))).bind fun v51 =>
           (v_must n v51 (8 : Int)).bind fun x_30 => onX x_30 (fun p29 =>
            kp p29) (fun v52 =>
           k (v28, (v50, (false, (((⟨#[]⟩ : BA), ((⟨#[]⟩ : BA), ())), ((0 : Int), ())))))))
      else
       none
     else
      none)
   else
    (v_must n false (3 : Int)).bind fun x_31 => onX x_31 (fun p30 =>
     kp p30) (fun v53 =>
    if 0 ≤ (4 : Int) ∧ (4 : Int) ≤ (s.size : Int) then
     (v_kind n (s.extract (Int.toNat (0 : Int)) (Int.toNat (4 : Int)))).bind fun v54 =>
     if 0 ≤ (4 : Int) ∧ (4 : Int) ≤ (s.size : Int) then
      if (v54 == (3 : Int)) = true then
       (v_after n (s.extract (Int.toNat (4 : Int)) (Int.toNat (s.size : Int))) (⟨#[32, 70, 82, 79, 77, 58]⟩ : BA)).bind fun x_32 => onX x_32 (fun p31 =>
        kp p31) (fun v55 =>
       (v_path n v55).bind fun x_33 => onX x_33 (fun p32 =>
        kp p32) (fun v56 =>
       (v_size n v56.2.2.1).bind fun x_34 => onX x_34 (fun p33 =>
        kp p33) (fun v57 =>
       (v_May n (v54, ((⟨#[]⟩ : BA), (v56.2.1, ((v56.1.1, (v56.1.2.1, ())), (v57, ())))))).bind fun v58 =>
       (v_must n v58 (8 : Int)).bind fun x_35 => onX x_35 (fun p34 =>
        kp p34) (fun v59 =>
       k (v54, ((⟨#[]⟩ : BA), (v56.2.1, ((v56.1.1, (v56.1.2.1, ())), (v57, ())))))))))
      else
       if (v54 == (4 : Int)) = true then
        (v_after n (s.extract (Int.toNat (4 : Int)) (Int.toNat (s.size : Int))) (⟨#[32, 84, 79, 58]⟩ : BA)).bind fun x_36 => onX x_36 (fun p35 =>
         kp p35) (fun v60 =>
        (v_path n v60).bind fun x_37 => onX x_37 (fun p36 =>
         kp p36) (fun v61 =>
        (v_must n (v61.2.2.1.toList == (⟨#[]⟩ : BA).toList) (8 : Int)).bind fun x_38 => onX x_38 (fun p37 =>
         kp p37) (fun v62 =>
        (v_May n (v54, ((⟨#[]⟩ : BA), (v61.2.1, ((v61.1.1, (v61.1.2.1, ())), ((0 : Int), ())))))).bind fun v63 =>
        (v_must n v63 (8 : Int)).bind fun x_39 => onX x_39 (fun p38 =>
         kp p38) (fun v64 =>
        k (v54, ((⟨#[]⟩ : BA), (v61.2.1, ((v61.1.1, (v61.1.2.1, ())), ((0 : Int), ())))))))))
       else
        if (v54 == (1 : Int)) = true then
         (st_TrimPrefix n (s.extract (Int.toNat (4 : Int)) (Int.toNat (s.size : Int))) (⟨#[32]⟩ : BA)).bind fun v65 =>
         (ad_Domain n v65).bind fun v66 =>
         (v_must n (v66.2.1 == (0 : Int)) (8 : Int)).bind fun x_40 => onX x_40 (fun p39 =>
          kp p39) (fun v67 =>
         (v_May n (v54, (v66.1, (false, (((⟨#[]⟩ : BA), ((⟨#[]⟩ : BA), ())), ((0 : Int), ())))))).bind fun v68 =>
         (v_must n v68 (8 : Int)).bind fun x_41 => onX x_41 (fun p40 =>
          kp p40) (fun v69 =>
         k (v54, (v66.1, (false, (((⟨#[]⟩ : BA), ((⟨#[]⟩ : BA), ())), ((0 : Int), ())))))))
        else
         if (v54 == (2 : Int)) = true then
          (st_TrimPrefix n (s.extract (Int.toNat (4 : Int)) (Int.toNat (s.size : Int))) (⟨#[32]⟩ : BA)).bind fun v70 =>
          (ad_Domain n v70).bind fun v71 =>
          (v_must n (v71.2.1 == (0 : Int)) (8 : Int)).bind fun x_42 => onX x_42 (fun p41 =>
           kp p41) (fun v72 =>
          (v_May n (v54, (v71.1, (false, (((⟨#[]⟩ : BA), ((⟨#[]⟩ : BA), ())), ((0 : Int), ())))))).bind fun v73 =>
          (v_must n v73 (8 : Int)).bind fun x_43 => onX x_43 (fun p42 =>
           kp p42) (fun v74 =>
          k (v54, (v71.1, (false, (((⟨#[]⟩ : BA), ((⟨#[]⟩ : BA), ())), ((0 : Int), ())))))))
         else
          (v_must n (!((s.extract (Int.toNat (4 : Int)) (Int.toNat (s.size : Int))).toList == (⟨#[32]⟩ : BA).toList)) (8 : Int)).bind fun x_44 => onX x_44 (fun p43 =>
           kp p43) (fun v75 =>
          (st_TrimPrefix n (s.extract (Int.toNat (4 : Int)) (Int.toNat (s.size : Int))) (⟨#[32]⟩ : BA)).bind fun v76 =>
          (v_May n (v54, (v76, (false, (((⟨#[]⟩ : BA), ((⟨#[]⟩ : BA), ())), ((0 : Int), ())))))).bind fun v77 =>
          (v_must n v77 (8 : Int)).bind fun x_45 => onX x_45 (fun p44 =>
           kp p44) (fun v78 =>
          k (v54, (v76, (false, (((⟨#[]⟩ : BA), ((⟨#[]⟩ : BA), ())), ((0 : Int), ())))))))
     else
      none
    else
     none)
  else
   none
 else
  (v_must n false (3 : Int)).bind fun x_46 => onX x_46 (fun p45 =>
   kp p45) (fun v79 =>
  if 0 ≤ (4 : Int) ∧ (4 : Int) ≤ (s.size : Int) then
   (v_kind n (s.extract (Int.toNat (0 : Int)) (Int.toNat (4 : Int)))).bind fun v80 =>
   if 0 ≤ (4 : Int) ∧ (4 : Int) ≤ (s.size : Int) then
    if (v80 == (3 : Int)) = true then
     (v_after n (s.extract (Int.toNat (4 : Int)) (Int.toNat (s.size : Int))) (⟨#[32, 70, 82, 79, 77, 58]⟩ : BA)).bind fun x_47 => onX x_47 (fun p46 =>
      kp p46) (fun v81 =>
     (v_path n v81).bind fun x_48 => onX x_48 (fun p47 =>
      kp p47) (fun v82 =>
     (v_size n v82.2.2.1).bind fun x_49 => onX x_49 (fun p48 =>
      kp p48) (fun v83 =>
     (v_May n (v80, ((⟨#[]⟩ : BA), (v82.2.1, ((v82.1.1, (v82.1.2.1, ())), (v83, ())))))).bind fun v84 =>
     (v_must n v84 (8 : Int)).bind fun x_50 => onX x_50 (fun p49 =>
      kp p49) (fun v85 =>
     k (v80, ((⟨#[]⟩ : BA), (v82.2.1, ((v82.1.1, (v82.1.2.1, ())), (v83, ())))))))))
    else
     if (v80 == (4 : Int)) = true then
      (v_after n (s.extract (Int.toNat (4 : Int)) (Int.toNat (s.size : Int))) (⟨#[32, 84, 79, 58]⟩ : BA)).bind fun x_51 => onX x_51 (fun p50 =>
       kp p50) (fun v86 =>
      (v_path n v86).bind fun x_52 => onX x_52 (fun p51 =>
       kp p51) (fun v87 =>
      (v_must n (v87.2.2.1.toList == (⟨#[]⟩ : BA).toList) (8 : Int)).bind fun x_53 => onX x_53 (fun p52 =>
       kp p52) (fun v88 =>
      (v_May n (v80, ((⟨#[]⟩ : BA), (v87.2.1, ((v87.1.1, (v87.1.2.1, ())), ((0 : Int), ())))))).bind fun v89 =>
      (v_must n v89 (8 : Int)).bind fun x_54 => onX x_54 (fun p53 =>
       kp p53) (fun v90 =>
      k (v80, ((⟨#[]⟩ : BA), (v87.2.1, ((v87.1.1, (v87.1.2.1, ())), ((0 : Int), ())))))))))
     else
      if (v80 == (1 : Int)) = true then
       (st_TrimPrefix n (s.extract (Int.toNat (4 : Int)) (Int.toNat (s.size : Int))) (⟨#[32]⟩ : BA)).bind fun v91 =>
       (ad_Domain n v91).bind fun v92 =>
       (v_must n (v92.2.1 == (0 : Int)) (8 : Int)).bind fun x_55 => onX x_55 (fun p54 =>
        kp p54) (fun v93 =>
       (v_May n (v80, (v92.1, (false, (((⟨#[]⟩ : BA), ((⟨#[]⟩ : BA), ())), ((0 : Int), ())))))).bind fun v94 =>
       (v_must n v94 (8 : Int)).bind fun x_56 => onX x_56 (fun p55 =>
        kp p55) (fun v95 =>
       k (v80, (v92.1, (false, (((⟨#[]⟩ : BA), ((⟨#[]⟩ : BA), ())), ((0 : Int), ())))))))
      else
       if (v80 == (2 : Int)) = true then
        (st_TrimPrefix n (s.extract (Int.toNat (4 : Int)) (Int.toNat (s.size : Int))) (⟨#[32]⟩ : BA)).bind fun v96 =>
        (ad_Domain n v96).bind fun v97 =>
        (v_must n (v97.2.1 == (0 : Int)) (8 : Int)).bind fun x_57 => onX x_57 (fun p56 =>
         kp p56) (fun v98 =>
        (v_May n (v80, (v97.1, (false, (((⟨#[]⟩ : BA), ((⟨#[]⟩ : BA), ())), ((0 : Int), ())))))).bind fun v99 =>
        (v_must n v99 (8 : Int)).bind fun x_58 => onX x_58 (fun p57 =>
         kp p57) (fun v100 =>
        k (v80, (v97.1, (false, (((⟨#[]⟩ : BA), ((⟨#[]⟩ : BA), ())), ((0 : Int), ())))))))
       else
        (v_must n (!((s.extract (Int.toNat (4 : Int)) (Int.toNat (s.size : Int))).toList == (⟨#[32]⟩ : BA).toList)) (8 : Int)).bind fun x_59 => onX x_59 (fun p58 =>
         kp p58) (fun v101 =>
        (st_TrimPrefix n (s.extract (Int.toNat (4 : Int)) (Int.toNat (s.size : Int))) (⟨#[32]⟩ : BA)).bind fun v102 =>
        (v_May n (v80, (v102, (false, (((⟨#[]⟩ : BA), ((⟨#[]⟩ : BA), ())), ((0 : Int), ())))))).bind fun v103 =>
        (v_must n v103 (8 : Int)).bind fun x_60 => onX x_60 (fun p59 =>
         kp p59) (fun v104 =>
        k (v80, (v102, (false, (((⟨#[]⟩ : BA), ((⟨#[]⟩ : BA), ())), ((0 : Int), ())))))))
   else
    none
  else
   none)
def v_read (n : Nat) (s : BA) : Option (Except Int T0) := v_read_B n s (fun y => some (.ok y)) (fun p => some (.error p))
theorem v_read_N (n : Nat) {R S : Type} (s : BA) (k : T0 → Option R) (kp : Int → Option R) (φ : R → Option S) : v_read_B n s (fun a => (k a).bind φ) (fun a => (kp a).bind φ) = (v_read_B n s k kp).bind φ := by
  unfold v_read_B
  first | (simp only [dup_self, both_self, iB, bB, oL, oX, nB]) | rfl
def v_read_hint (n : Nat) : Hint Out := { live := fun c => [], run := fun c => none, xm := fun c q => none }
theorem v_read_runs (n : Nat) : RunsOk tys (callees Out (ad_Domain_es n)) (v_read_hint n) n (bodyOf Tryz.f27) 0 := runs_noloop (fun _ => rfl) _ _ (by kernel_rfl)
theorem v_read_at : Tryz.prog.funcs[27]? = some Tryz.f27 := by kernel_rfl
theorem v_read_ent (n : Nat) : Enters Tryz.prog 27 := enters_of (c := bodyOf Tryz.f27) v_read_at (by kernel_rfl) (by kernel_rfl)
theorem v_read_E (n : Nat) (s : BA) : fnA tys (callees Out (ad_Domain_es n)) (v_read_hint n) n Tryz.f27 (encL (.pair .str .unit) (s, ())) [] (soloA fun v => some (.ret v)) (soloA fun v => some (.pan v)) = v_read_B n s (fun y => some (.ret (encR (.one (.pair (.int .i64) (.pair .str (.pair .bool (.pair (.pair .str (.pair .str .unit)) (.pair (.int .i64) .unit)))))) y))) (fun p => some (.pan (wrongV 62 p))) := by kernel_rfl
def v_read_en (n : Nat) : Entry := ⟨27, pcX 62 (.pair .str .unit) (.one (.pair (.int .i64) (.pair .str (.pair .bool (.pair (.pair .str (.pair .str .unit)) (.pair (.int .i64) .unit)))))) (fun xs => v_read n xs.1), none, none⟩
theorem v_read_ok (n : Nat) : EntryOk Tryz.prog gl (v_read_en n) :=
  pcX_ok (v_read_ent n) (fun xs y h => ans_of_fn tys_ok (ad_Domain_es_ok n) mixed (hint := v_read_hint n) (n := n) (fn := Tryz.f27) v_read_at (runsC (v_read_runs n)) (run_ret (φ := (fun r => onX r (fun p => some (Out.pan (wrongV 62 p))) fun y => some (Out.ret (encR (.one (.pair (.int .i64) (.pair .str (.pair .bool (.pair (.pair .str (.pair .str .unit)) (.pair (.int .i64) .unit)))))) y)))) ((v_read_E n xs.1).trans (v_read_N (R := Except Int T0) (S := Out) n xs.1 (fun y => some (.ok y)) (fun p => some (.error p)) (fun r => onX r (fun p => some (Out.pan (wrongV 62 p))) fun y => some (Out.ret (encR (.one (.pair (.int .i64) (.pair .str (.pair .bool (.pair (.pair .str (.pair .str .unit)) (.pair (.int .i64) .unit)))))) y))))) h))
    (fun xs p h => ans_of_fn tys_ok (ad_Domain_es_ok n) mixed (hint := v_read_hint n) (n := n) (fn := Tryz.f27) v_read_at (runsC (v_read_runs n)) (run_ret (φ := (fun r => onX r (fun p => some (Out.pan (wrongV 62 p))) fun y => some (Out.ret (encR (.one (.pair (.int .i64) (.pair .str (.pair .bool (.pair (.pair .str (.pair .str .unit)) (.pair (.int .i64) .unit)))))) y)))) ((v_read_E n xs.1).trans (v_read_N (R := Except Int T0) (S := Out) n xs.1 (fun y => some (.ok y)) (fun p => some (.error p)) (fun r => onX r (fun p => some (Out.pan (wrongV 62 p))) fun y => some (Out.ret (encR (.one (.pair (.int .i64) (.pair .str (.pair .bool (.pair (.pair .str (.pair .str .unit)) (.pair (.int .i64) .unit)))))) y))))) h))
def v_read_es (n : Nat) : List Entry := v_read_en n :: ad_Domain_es n
theorem v_read_es_ok (n : Nat) : AllOk Tryz.prog gl (v_read_es n) := .cons (v_read_ok n) (ad_Domain_es_ok n)
/- pouch/verb.Parse -/
def v_Parse_B (n : Nat) {R : Type} (s : BA) (k : (T0 × Int × Unit) → Option R) : Option R :=
 (v_read n s).bind fun x_1 => onX x_1 (fun p =>
  k (((0 : Int), ((⟨#[]⟩ : BA), (false, (((⟨#[]⟩ : BA), ((⟨#[]⟩ : BA), ())), ((0 : Int), ()))))), (p, ()))) (fun v =>
 k ((v.1, (v.2.1, (v.2.2.1, ((v.2.2.2.1.1, (v.2.2.2.1.2.1, ())), (v.2.2.2.2.1, ()))))), ((0 : Int), ())))
def v_Parse (n : Nat) (s : BA) : Option (T0 × Int × Unit) := v_Parse_B n s some
theorem v_Parse_N (n : Nat) {R S : Type} (s : BA) (k : (T0 × Int × Unit) → Option R) (φ : R → Option S) : v_Parse_B n s (fun a => (k a).bind φ) = (v_Parse_B n s k).bind φ := by
  unfold v_Parse_B
  first | (simp only [dup_self, both_self, iB, bB, oL, oX, nB]) | rfl
def v_Parse_hint (n : Nat) : Hint Out := { live := fun c => [], run := fun c => none, xm := fun c q => none, pm := some [(2, none), (3, none)] }
theorem v_Parse_runs (n : Nat) : RunsOk tys (callees Out (v_read_es n)) (v_Parse_hint n) n (codeAt [0] (bodyOf Tryz.f16)) 0 ∧ RunsOk tys (callees Out (v_read_es n)) (v_Parse_hint n) n (codeAt [1, 1] (bodyOf Tryz.f16)) 0 := ⟨trivial, ⟨trivial, trivial⟩⟩
theorem v_Parse_at : Tryz.prog.funcs[16]? = some Tryz.f16 := by kernel_rfl
theorem v_Parse_ent (n : Nat) : Enters Tryz.prog 16 := enters_of (c := bodyOf Tryz.f16) v_Parse_at (by kernel_rfl) (by kernel_rfl)
theorem v_Parse_dat : Tryz.prog.funcs[26]? = some Tryz.f26 := by kernel_rfl
theorem v_Parse_dent : Enters Tryz.prog 26 := enters_of (c := bodyOf Tryz.f26) v_Parse_dat (by kernel_rfl) (by kernel_rfl)
theorem v_Parse_druns (n : Nat) : RunsOk tys (callees Out (v_read_es n)) hint0 n (codeAt [1] (bodyOf Tryz.f26)) 0 := ⟨⟨trivial, ⟨trivial, trivial⟩⟩, ⟨trivial, ⟨⟨trivial, ⟨trivial, trivial⟩⟩, trivial⟩⟩⟩
theorem v_Parse_E (n : Nat) (s : BA) : fnD tys (callees Out (v_read_es n)) (v_Parse_hint n) n 26 Tryz.f26 Tryz.f16 (encL (.pair .str .unit) (s, ())) (soloA fun v => some (.ret v)) = v_Parse_B n s (fun y => some (.ret (encR (.many (.pair (.pair (.int .i64) (.pair .str (.pair .bool (.pair (.pair .str (.pair .str .unit)) (.pair (.int .i64) .unit))))) (.pair (.int .i64) .unit))) y))) := by kernel_rfl
def v_Parse_en (n : Nat) : Entry := ⟨16, pcT (.pair .str .unit) (.many (.pair (.pair (.int .i64) (.pair .str (.pair .bool (.pair (.pair .str (.pair .str .unit)) (.pair (.int .i64) .unit))))) (.pair (.int .i64) .unit))) (fun xs => v_Parse n xs.1), none, none⟩
theorem v_Parse_ok (n : Nat) : EntryOk Tryz.prog gl (v_Parse_en n) :=
  pcT_ok (v_Parse_ent n) fun xs y h => ans_of_fnD tys_ok (v_read_es_ok n) mixed (hint := v_Parse_hint n) (n := n) (fn := Tryz.f16) (f2 := Tryz.f26) v_Parse_at v_Parse_dat v_Parse_dent (runsD (v_Parse_runs n)) (runsD2 (v_Parse_druns n)) (run_ret (φ := (fun y => some (Out.ret (encR (.many (.pair (.pair (.int .i64) (.pair .str (.pair .bool (.pair (.pair .str (.pair .str .unit)) (.pair (.int .i64) .unit))))) (.pair (.int .i64) .unit))) y)))) ((v_Parse_E n xs.1).trans (v_Parse_N (R := (T0 × Int × Unit)) (S := Out) n xs.1 some (fun y => some (Out.ret (encR (.many (.pair (.pair (.int .i64) (.pair .str (.pair .bool (.pair (.pair .str (.pair .str .unit)) (.pair (.int .i64) .unit))))) (.pair (.int .i64) .unit))) y))))) h)
def v_Parse_es (n : Nat) : List Entry := v_Parse_en n :: v_read_es n
theorem v_Parse_es_ok (n : Nat) : AllOk Tryz.prog gl (v_Parse_es n) := .cons (v_Parse_ok n) (v_read_es_ok n)
/- pouch/pouchref4.name -/
def r4_name_B (n : Nat) {R : Type} (kind : Int) (k : BA → Option R) : Option R :=
 if (kind == (1 : Int)) = true then
  k (⟨#[72, 69, 76, 79]⟩ : BA)
 else
  if (kind == (2 : Int)) = true then
   k (⟨#[69, 72, 76, 79]⟩ : BA)
  else
   if (kind == (3 : Int)) = true then
    k (⟨#[77, 65, 73, 76]⟩ : BA)
   else
    if (kind == (4 : Int)) = true then
     k (⟨#[82, 67, 80, 84]⟩ : BA)
    else
     if (kind == (5 : Int)) = true then
      k (⟨#[68, 65, 84, 65]⟩ : BA)
     else
      if (kind == (6 : Int)) = true then
       k (⟨#[82, 83, 69, 84]⟩ : BA)
      else
       if (kind == (7 : Int)) = true then
        k (⟨#[78, 79, 79, 80]⟩ : BA)
       else
        if (kind == (8 : Int)) = true then
         k (⟨#[81, 85, 73, 84]⟩ : BA)
        else
         k (⟨#[86, 82, 70, 89]⟩ : BA)
def r4_name (n : Nat) (kind : Int) : Option BA := r4_name_B n kind some
theorem r4_name_N (n : Nat) {R S : Type} (kind : Int) (k : BA → Option R) (φ : R → Option S) : r4_name_B n kind (fun a => (k a).bind φ) = (r4_name_B n kind k).bind φ := by
  unfold r4_name_B
  first | (simp only [dup_self, both_self, iB, bB, oL, oX, nB]) | rfl
def r4_name_hint (n : Nat) : Hint Out := { live := fun c => [], run := fun c => none, xm := fun c q => none }
theorem r4_name_runs (n : Nat) : RunsOk tys (callees Out (v_Parse_es n)) (r4_name_hint n) n (bodyOf Tryz.f29) 0 := runs_noloop (fun _ => rfl) _ _ (by kernel_rfl)
theorem r4_name_at : Tryz.prog.funcs[29]? = some Tryz.f29 := by kernel_rfl
theorem r4_name_ent (n : Nat) : Enters Tryz.prog 29 := enters_of (c := bodyOf Tryz.f29) r4_name_at (by kernel_rfl) (by kernel_rfl)
theorem r4_name_E (n : Nat) (kind : Int) : fnA tys (callees Out (v_Parse_es n)) (r4_name_hint n) n Tryz.f29 (encL (.pair (.int .i64) .unit) (kind, ())) [] (soloA fun v => some (.ret v)) (soloA fun v => some (.pan v)) = r4_name_B n kind (fun y => some (.ret (encR (.one .str) y))) := by kernel_rfl
def r4_name_en (n : Nat) : Entry := ⟨29, pcT (.pair (.int .i64) .unit) (.one .str) (fun xs => r4_name n xs.1), none, none⟩
theorem r4_name_ok (n : Nat) : EntryOk Tryz.prog gl (r4_name_en n) :=
  pcT_ok (r4_name_ent n) fun xs y h => ans_of_fn tys_ok (v_Parse_es_ok n) mixed (hint := r4_name_hint n) (n := n) (fn := Tryz.f29) r4_name_at (runsC (r4_name_runs n)) (run_ret (φ := (fun y => some (Out.ret (encR (.one .str) y)))) ((r4_name_E n xs.1).trans (r4_name_N (R := BA) (S := Out) n xs.1 some (fun y => some (Out.ret (encR (.one .str) y))))) h)
def r4_name_es (n : Nat) : List Entry := r4_name_en n :: v_Parse_es n
theorem r4_name_es_ok (n : Nat) : AllOk Tryz.prog gl (r4_name_es n) := .cons (r4_name_ok n) (v_Parse_es_ok n)
/- pouch/pouchref0.Lower -/
def r0_Lower_B0 (n : Nat) {R : Type} (i : Int) (b : (Sq Int)) (kn : Int → (Sq Int) → Option R) (ko : ((Sq Int)) → Option R) (kr : Unit → Option R) (kp : Int → Option R) : Option R :=
 if (decide (i < (b.n : Int))) = true then
  if 0 ≤ i ∧ i < (b.n : Int) then
   if (decide ((b.at' (Int.toNat i)) ≥ (65 : Int))) = true then
    if 0 ≤ i ∧ i < (b.n : Int) then
     if (decide ((b.at' (Int.toNat i)) ≤ (90 : Int))) = true then
      if 0 ≤ i ∧ i < (b.n : Int) then
       if 0 ≤ i ∧ i < (b.n : Int) then
        kn (IntKind.wrap .i64 (i + (1 : Int))) (⟨b.n, fun q => if q = (Int.toNat i) ∧ q < b.n then (IntKind.wrap .u8 ((b.at' (Int.toNat i)) + (32 : Int))) else b.at' q⟩ : Sq Int)
       else
        none
      else
       none
     else
      kn (IntKind.wrap .i64 (i + (1 : Int))) b
    else
     none
   else
    kn (IntKind.wrap .i64 (i + (1 : Int))) b
  else
   none
 else
  ko b
theorem r0_Lower_B0_N (n : Nat) {R S : Type} (i : Int) (b : (Sq Int)) (kn : Int → (Sq Int) → Option R) (ko : ((Sq Int)) → Option R) (kr : Unit → Option R) (kp : Int → Option R) (φ : R → Option S) : r0_Lower_B0 n i b (fun i b => (kn i b).bind φ) (fun a => (ko a).bind φ) (fun a => (kr a).bind φ) (fun a => (kp a).bind φ) = (r0_Lower_B0 n i b kn ko kr kp).bind φ := by
  unfold r0_Lower_B0
  first | (simp only [dup_self, both_self, iB, bB, oL, oX, nB]) | rfl
def r0_Lower_L0 (n : Nat) : Nat → Int → (Sq Int) → Option (Lx ((Sq Int)) Unit)
  | 0, _, _ => none
  | m + 1, i, b => r0_Lower_B0 n i b (fun i b => r0_Lower_L0 n m i b) (fun a => some (.out a)) (fun a => some (.ret a)) (fun p => some (.pan p))
def r0_Lower_L0_sp : List Sl := .top :: .top :: .top :: .row 0 :: .dat (.int .i64) :: tp 30 []
def r0_Lower_L0_rp : List RS := [.row 5 1 (.int .u8) false true]
def r0_Lower_L0_out_sp : List Sl := .top :: .top :: .top :: .row 0 :: tp 31 []
def r0_Lower_L0_out_rp : List RS := [.row 5 1 (.int .u8) false true]
def r0_Lower_L0_K (K : XE → List AV → AHeap → Option Out) : Lx ((Sq Int)) Unit → Option Out := fun x => onL x (fun a => layK r0_Lower_L0_out_sp r0_Lower_L0_out_rp () (a, ()) (K (.exit 0))) (fun _ => none) (fun _ => none)
def r0_Lower_B (n : Nat) {R : Type} (s : BA) (k : BA → Option R) : Option R :=
 (r0_Lower_L0 n n (0 : Int) (⟨s.size, fun q => bt s q⟩ : Sq Int)).bind fun x_1 => onL x_1
  (fun a_2 =>
   k (strOf a_2.n a_2.at'))
  (fun _ => none)
  (fun _ => none)
def r0_Lower (n : Nat) (s : BA) : Option BA := r0_Lower_B n s some
theorem r0_Lower_N (n : Nat) {R S : Type} (s : BA) (k : BA → Option R) (φ : R → Option S) : r0_Lower_B n s (fun a => (k a).bind φ) = (r0_Lower_B n s k).bind φ := by
  unfold r0_Lower_B
  first | (simp only [dup_self, both_self, iB, bB, oL, oX, nB]) | rfl
def r0_Lower_hint (n : Nat) : Hint Out := { live := fun c => (cond (Nat.beq c 0) [(3, some (.sl (.int .u8))), (4, none)] []), run := fun c => (cond (Nat.beq c 0) (some (runL r0_Lower_L0_sp r0_Lower_L0_rp fun σ ρ K => (r0_Lower_L0 n n σ.1 ρ.1).bind (r0_Lower_L0_K K))) none), xm := fun c q => (cond (Nat.beq c 0 && Nat.beq (q.getD 1000000) 0 && q.isSome) (some [(3, some (.sl (.int .u8)))]) none) }
def r0_Lower_L0_I (n : Nat) (K : XE → List AV → AHeap → Option Out) (m : Nat) (i : Int) (b : (Sq Int)) : Option Out := loopI tys (callees Out (r4_name_es n)) (r0_Lower_hint n) n (codeAt [1, 1, 0, 1, 0, 0] (bodyOf Tryz.f30)) 0 r0_Lower_L0_sp r0_Lower_L0_rp K m (i, ()) (b, ())
theorem r0_Lower_L0_E (n : Nat) (K : XE → List AV → AHeap → Option Out) : ∀ (m : Nat) (i : Int) (b : (Sq Int)), r0_Lower_L0_I n K m i b = (r0_Lower_L0 n m i b).bind (r0_Lower_L0_K K)
  | 0, i, b => by kernel_rfl
  | m + 1, i, b => by
    have h1 : r0_Lower_L0_I n K (m + 1) i b = r0_Lower_B0 n i b (fun i b => r0_Lower_L0_I n K m i b) (fun a => r0_Lower_L0_K K (.out a)) (fun a => r0_Lower_L0_K K (.ret a)) (fun p => r0_Lower_L0_K K (.pan p)) := by kernel_rfl
    have h2 : (fun i b => r0_Lower_L0_I n K m i b) = (fun i b => (r0_Lower_L0 n m i b).bind (r0_Lower_L0_K K)) := funext fun i => funext fun b => r0_Lower_L0_E n K m i b
    exact h1.trans ((congrArg (fun z => r0_Lower_B0 n i b z (fun a => r0_Lower_L0_K K (.out a)) (fun a => r0_Lower_L0_K K (.ret a)) (fun p => r0_Lower_L0_K K (.pan p))) h2).trans (r0_Lower_B0_N n i b (fun i b => r0_Lower_L0 n m i b) (fun a => some (.out a)) (fun a => some (.ret a)) (fun p => some (.pan p)) (r0_Lower_L0_K K)))
theorem r0_Lower_L0_ok (n : Nat) : RunOk tys (callees Out (r4_name_es n)) (r0_Lower_hint n) n (codeAt [1, 1, 0, 1, 0, 0] (bodyOf Tryz.f30)) 0 := runOk_of (sp := r0_Lower_L0_sp) (rp := r0_Lower_L0_rp) (F := fun σ ρ K => (r0_Lower_L0 n n σ.1 ρ.1).bind (r0_Lower_L0_K K)) (by kernel_rfl) fun K σ ρ => r0_Lower_L0_E n K n σ.1 ρ.1
theorem r0_Lower_runs (n : Nat) : RunsOk tys (callees Out (r4_name_es n)) (r0_Lower_hint n) n (bodyOf Tryz.f30) 0 := ⟨trivial, ⟨trivial, ⟨⟨trivial, ⟨r0_Lower_L0_ok n, ⟨⟨trivial, ⟨trivial, trivial⟩⟩, ⟨⟨trivial, ⟨trivial, trivial⟩⟩, trivial⟩⟩⟩⟩, ⟨trivial, trivial⟩⟩⟩⟩
theorem r0_Lower_at : Tryz.prog.funcs[30]? = some Tryz.f30 := by kernel_rfl
theorem r0_Lower_ent (n : Nat) : Enters Tryz.prog 30 := enters_of (c := bodyOf Tryz.f30) r0_Lower_at (by kernel_rfl) (by kernel_rfl)
theorem r0_Lower_E (n : Nat) (s : BA) : fnA tys (callees Out (r4_name_es n)) (r0_Lower_hint n) n Tryz.f30 (encL (.pair .str .unit) (s, ())) [] (soloA fun v => some (.ret v)) (soloA fun v => some (.pan v)) = r0_Lower_B n s (fun y => some (.ret (encR (.one .str) y))) := by kernel_rfl
def r0_Lower_en (n : Nat) : Entry := ⟨30, pcT (.pair .str .unit) (.one .str) (fun xs => r0_Lower n xs.1), none, none⟩
theorem r0_Lower_ok (n : Nat) : EntryOk Tryz.prog gl (r0_Lower_en n) :=
  pcT_ok (r0_Lower_ent n) fun xs y h => ans_of_fn tys_ok (r4_name_es_ok n) mixed (hint := r0_Lower_hint n) (n := n) (fn := Tryz.f30) r0_Lower_at (runsC (r0_Lower_runs n)) (run_ret (φ := (fun y => some (Out.ret (encR (.one .str) y)))) ((r0_Lower_E n xs.1).trans (r0_Lower_N (R := BA) (S := Out) n xs.1 some (fun y => some (Out.ret (encR (.one .str) y))))) h)
def r0_Lower_es (n : Nat) : List Entry := r0_Lower_en n :: r4_name_es n
theorem r0_Lower_es_ok (n : Nat) : AllOk Tryz.prog gl (r0_Lower_es n) := .cons (r0_Lower_ok n) (r4_name_es_ok n)
/- pouch/pouchref4.begins -/
def r4_begins_B (n : Nat) {R : Type} (s : BA) (with0 : BA) (k : Bool → Option R) : Option R :=
 if (decide ((s.size : Int) ≥ (with0.size : Int))) = true then
  if 0 ≤ (with0.size : Int) ∧ (with0.size : Int) ≤ (s.size : Int) then
   (r0_Lower n (s.extract (Int.toNat (0 : Int)) (Int.toNat (with0.size : Int)))).bind fun v =>
   (r0_Lower n with0).bind fun v1 =>
   k (v.toList == v1.toList)
  else
   none
 else
  k false
def r4_begins (n : Nat) (s : BA) (with0 : BA) : Option Bool := r4_begins_B n s with0 some
theorem r4_begins_N (n : Nat) {R S : Type} (s : BA) (with0 : BA) (k : Bool → Option R) (φ : R → Option S) : r4_begins_B n s with0 (fun a => (k a).bind φ) = (r4_begins_B n s with0 k).bind φ := by
  unfold r4_begins_B
  first | (simp only [dup_self, both_self, iB, bB, oL, oX, nB]) | rfl
def r4_begins_hint (n : Nat) : Hint Out := { live := fun c => [], run := fun c => none, xm := fun c q => none }
theorem r4_begins_runs (n : Nat) : RunsOk tys (callees Out (r0_Lower_es n)) (r4_begins_hint n) n (bodyOf Tryz.f28) 0 := runs_noloop (fun _ => rfl) _ _ (by kernel_rfl)
theorem r4_begins_at : Tryz.prog.funcs[28]? = some Tryz.f28 := by kernel_rfl
theorem r4_begins_ent (n : Nat) : Enters Tryz.prog 28 := enters_of (c := bodyOf Tryz.f28) r4_begins_at (by kernel_rfl) (by kernel_rfl)
theorem r4_begins_E (n : Nat) (s : BA) (with0 : BA) : fnA tys (callees Out (r0_Lower_es n)) (r4_begins_hint n) n Tryz.f28 (encL (.pair .str (.pair .str .unit)) (s, (with0, ()))) [] (soloA fun v => some (.ret v)) (soloA fun v => some (.pan v)) = r4_begins_B n s with0 (fun y => some (.ret (encR (.one .bool) y))) := by kernel_rfl
def r4_begins_en (n : Nat) : Entry := ⟨28, pcT (.pair .str (.pair .str .unit)) (.one .bool) (fun xs => r4_begins n xs.1 xs.2.1), none, none⟩
theorem r4_begins_ok (n : Nat) : EntryOk Tryz.prog gl (r4_begins_en n) :=
  pcT_ok (r4_begins_ent n) fun xs y h => ans_of_fn tys_ok (r0_Lower_es_ok n) mixed (hint := r4_begins_hint n) (n := n) (fn := Tryz.f28) r4_begins_at (runsC (r4_begins_runs n)) (run_ret (φ := (fun y => some (Out.ret (encR (.one .bool) y)))) ((r4_begins_E n xs.1 xs.2.1).trans (r4_begins_N (R := Bool) (S := Out) n xs.1 xs.2.1 some (fun y => some (Out.ret (encR (.one .bool) y))))) h)
def r4_begins_es (n : Nat) : List Entry := r4_begins_en n :: r0_Lower_es n
theorem r4_begins_es_ok (n : Nat) : AllOk Tryz.prog gl (r4_begins_es n) := .cons (r4_begins_ok n) (r0_Lower_es_ok n)
/- pouch/pouchref4.pathEnd -/
def r4_pathEnd_B0 (n : Nat) {R : Type} (s1 : BA) (quoted : Bool) (i : Int) (kn : BA → Bool → Int → Option R) (ko : (BA) → Option R) (kr : (Int) → Option R) (kp : Int → Option R) : Option R :=
 if (decide (i < (s1.size : Int))) = true then
  if quoted = true then
   if 0 ≤ i ∧ i < (s1.size : Int) then
    if ((bt s1 i) == (92 : Int)) = true then
     kn s1 quoted (IntKind.wrap .i64 ((IntKind.wrap .i64 (i + (1 : Int))) + (1 : Int)))
    else
     if 0 ≤ i ∧ i < (s1.size : Int) then
      if ((bt s1 i) == (34 : Int)) = true then
       if 0 ≤ i ∧ i < (s1.size : Int) then
        if ((bt s1 i) == (62 : Int)) = true then
         if (!(!quoted)) = true then
          kr (IntKind.wrap .i64 (i + (1 : Int)))
         else
          kn s1 (!quoted) (IntKind.wrap .i64 (i + (1 : Int)))
        else
         kn s1 (!quoted) (IntKind.wrap .i64 (i + (1 : Int)))
       else
        none
      else
       if 0 ≤ i ∧ i < (s1.size : Int) then
        if ((bt s1 i) == (62 : Int)) = true then
         if (!quoted) = true then
          kr (IntKind.wrap .i64 (i + (1 : Int)))
         else
          kn s1 quoted (IntKind.wrap .i64 (i + (1 : Int)))
        else
         kn s1 quoted (IntKind.wrap .i64 (i + (1 : Int)))
       else
        none
     else
      none
   else
    none
  else
   if 0 ≤ i ∧ i < (s1.size : Int) then
    if ((bt s1 i) == (34 : Int)) = true then
     if 0 ≤ i ∧ i < (s1.size : Int) then
      if ((bt s1 i) == (62 : Int)) = true then
       if (!(!quoted)) = true then
        kr (IntKind.wrap .i64 (i + (1 : Int)))
       else
        kn s1 (!quoted) (IntKind.wrap .i64 (i + (1 : Int)))
      else
       kn s1 (!quoted) (IntKind.wrap .i64 (i + (1 : Int)))
     else
      none
    else
     if 0 ≤ i ∧ i < (s1.size : Int) then
      if ((bt s1 i) == (62 : Int)) = true then
       if (!quoted) = true then
        kr (IntKind.wrap .i64 (i + (1 : Int)))
       else
        kn s1 quoted (IntKind.wrap .i64 (i + (1 : Int)))
      else
       kn s1 quoted (IntKind.wrap .i64 (i + (1 : Int)))
     else
      none
   else
    none
 else
  ko s1
theorem r4_pathEnd_B0_N (n : Nat) {R S : Type} (s1 : BA) (quoted : Bool) (i : Int) (kn : BA → Bool → Int → Option R) (ko : (BA) → Option R) (kr : (Int) → Option R) (kp : Int → Option R) (φ : R → Option S) : r4_pathEnd_B0 n s1 quoted i (fun s1 quoted i => (kn s1 quoted i).bind φ) (fun a => (ko a).bind φ) (fun a => (kr a).bind φ) (fun a => (kp a).bind φ) = (r4_pathEnd_B0 n s1 quoted i kn ko kr kp).bind φ := by
  unfold r4_pathEnd_B0
  first | (simp only [dup_self, both_self, iB, bB, oL, oX, nB]) | rfl
def r4_pathEnd_L0 (n : Nat) : Nat → BA → Bool → Int → Option (Lx (BA) (Int))
  | 0, _, _, _ => none
  | m + 1, s1, quoted, i => r4_pathEnd_B0 n s1 quoted i (fun s1 quoted i => r4_pathEnd_L0 n m s1 quoted i) (fun a => some (.out a)) (fun a => some (.ret a)) (fun p => some (.pan p))
def r4_pathEnd_L0_sp : List Sl := .dat .str :: .top :: .top :: .dat .bool :: .dat (.int .i64) :: tp 33 []
def r4_pathEnd_L0_rp : List RS := []
def r4_pathEnd_L0_out_sp : List Sl := .dat .str :: tp 37 []
def r4_pathEnd_L0_out_rp : List RS := []
def r4_pathEnd_L0_ret_sp : List Sl := .top :: .top :: .dat (.int .i64) :: tp 35 []
def r4_pathEnd_L0_ret_rp : List RS := []
def r4_pathEnd_L0_K (K : XE → List AV → AHeap → Option Out) : Lx (BA) (Int) → Option Out := fun x => onL x (fun a => layK r4_pathEnd_L0_out_sp r4_pathEnd_L0_out_rp (a, ()) () (K (.exit 0))) (fun a => layK r4_pathEnd_L0_ret_sp r4_pathEnd_L0_ret_rp (a, ()) () (K .ret)) (fun _ => none)
def r4_pathEnd_B (n : Nat) {R : Type} (s : BA) (k : Int → Option R) : Option R :=
 (r4_pathEnd_L0 n n s false (0 : Int)).bind fun x_1 => onL x_1
  (fun a_2 =>
   k (a_2.size : Int))
  (fun a_3 =>
   k a_3)
  (fun _ => none)
def r4_pathEnd (n : Nat) (s : BA) : Option Int := r4_pathEnd_B n s some
theorem r4_pathEnd_N (n : Nat) {R S : Type} (s : BA) (k : Int → Option R) (φ : R → Option S) : r4_pathEnd_B n s (fun a => (k a).bind φ) = (r4_pathEnd_B n s k).bind φ := by
  unfold r4_pathEnd_B
  first | (simp only [dup_self, both_self, iB, bB, oL, oX, nB]) | rfl
def r4_pathEnd_hint (n : Nat) : Hint Out := { live := fun c => (cond (Nat.beq c 0) (lv [0, 3, 4]) []), run := fun c => (cond (Nat.beq c 0) (some (runL r4_pathEnd_L0_sp r4_pathEnd_L0_rp fun σ ρ K => (r4_pathEnd_L0 n n σ.1 σ.2.1 σ.2.2.1).bind (r4_pathEnd_L0_K K))) none), xm := fun c q => (cond (Nat.beq c 0 && Nat.beq (q.getD 1000000) 0 && q.isSome) (some [(0, none)]) (cond (Nat.beq c 1 && q.isNone) (some [(2, none)]) none)) }
def r4_pathEnd_L0_I (n : Nat) (K : XE → List AV → AHeap → Option Out) (m : Nat) (s1 : BA) (quoted : Bool) (i : Int) : Option Out := loopI tys (callees Out (r4_begins_es n)) (r4_pathEnd_hint n) n (codeAt [1, 1, 0, 1, 0, 0] (bodyOf Tryz.f31)) 0 r4_pathEnd_L0_sp r4_pathEnd_L0_rp K m (s1, (quoted, (i, ()))) ()
theorem r4_pathEnd_L0_E (n : Nat) (K : XE → List AV → AHeap → Option Out) : ∀ (m : Nat) (s1 : BA) (quoted : Bool) (i : Int), r4_pathEnd_L0_I n K m s1 quoted i = (r4_pathEnd_L0 n m s1 quoted i).bind (r4_pathEnd_L0_K K)
  | 0, s1, quoted, i => by kernel_rfl
  | m + 1, s1, quoted, i => by
    have h1 : r4_pathEnd_L0_I n K (m + 1) s1 quoted i = r4_pathEnd_B0 n s1 quoted i (fun s1 quoted i => r4_pathEnd_L0_I n K m s1 quoted i) (fun a => r4_pathEnd_L0_K K (.out a)) (fun a => r4_pathEnd_L0_K K (.ret a)) (fun p => r4_pathEnd_L0_K K (.pan p)) := by kernel_rfl
    have h2 : (fun s1 quoted i => r4_pathEnd_L0_I n K m s1 quoted i) = (fun s1 quoted i => (r4_pathEnd_L0 n m s1 quoted i).bind (r4_pathEnd_L0_K K)) := funext fun s1 => funext fun quoted => funext fun i => r4_pathEnd_L0_E n K m s1 quoted i
    exact h1.trans ((congrArg (fun z => r4_pathEnd_B0 n s1 quoted i z (fun a => r4_pathEnd_L0_K K (.out a)) (fun a => r4_pathEnd_L0_K K (.ret a)) (fun p => r4_pathEnd_L0_K K (.pan p))) h2).trans (r4_pathEnd_B0_N n s1 quoted i (fun s1 quoted i => r4_pathEnd_L0 n m s1 quoted i) (fun a => some (.out a)) (fun a => some (.ret a)) (fun p => some (.pan p)) (r4_pathEnd_L0_K K)))
theorem r4_pathEnd_L0_ok (n : Nat) : RunOk tys (callees Out (r4_begins_es n)) (r4_pathEnd_hint n) n (codeAt [1, 1, 0, 1, 0, 0] (bodyOf Tryz.f31)) 0 := runOk_of (sp := r4_pathEnd_L0_sp) (rp := r4_pathEnd_L0_rp) (F := fun σ ρ K => (r4_pathEnd_L0 n n σ.1 σ.2.1 σ.2.2.1).bind (r4_pathEnd_L0_K K)) (by kernel_rfl) fun K σ ρ => r4_pathEnd_L0_E n K n σ.1 σ.2.1 σ.2.2.1
theorem r4_pathEnd_runs (n : Nat) : RunsOk tys (callees Out (r4_begins_es n)) (r4_pathEnd_hint n) n (bodyOf Tryz.f31) 0 := ⟨trivial, ⟨trivial, ⟨⟨trivial, ⟨r4_pathEnd_L0_ok n, ⟨⟨trivial, ⟨trivial, trivial⟩⟩, ⟨⟨⟨trivial, ⟨⟨trivial, trivial⟩, trivial⟩⟩, ⟨⟨trivial, ⟨trivial, trivial⟩⟩, ⟨trivial, ⟨⟨trivial, trivial⟩, trivial⟩⟩⟩⟩, trivial⟩⟩⟩⟩, ⟨trivial, trivial⟩⟩⟩⟩
theorem r4_pathEnd_at : Tryz.prog.funcs[31]? = some Tryz.f31 := by kernel_rfl
theorem r4_pathEnd_ent (n : Nat) : Enters Tryz.prog 31 := enters_of (c := bodyOf Tryz.f31) r4_pathEnd_at (by kernel_rfl) (by kernel_rfl)
theorem r4_pathEnd_E (n : Nat) (s : BA) : fnA tys (callees Out (r4_begins_es n)) (r4_pathEnd_hint n) n Tryz.f31 (encL (.pair .str .unit) (s, ())) [] (soloA fun v => some (.ret v)) (soloA fun v => some (.pan v)) = r4_pathEnd_B n s (fun y => some (.ret (encR (.one (.int .i64)) y))) := by kernel_rfl
def r4_pathEnd_en (n : Nat) : Entry := ⟨31, pcT (.pair .str .unit) (.one (.int .i64)) (fun xs => r4_pathEnd n xs.1), none, none⟩
theorem r4_pathEnd_ok (n : Nat) : EntryOk Tryz.prog gl (r4_pathEnd_en n) :=
  pcT_ok (r4_pathEnd_ent n) fun xs y h => ans_of_fn tys_ok (r4_begins_es_ok n) mixed (hint := r4_pathEnd_hint n) (n := n) (fn := Tryz.f31) r4_pathEnd_at (runsC (r4_pathEnd_runs n)) (run_ret (φ := (fun y => some (Out.ret (encR (.one (.int .i64)) y)))) ((r4_pathEnd_E n xs.1).trans (r4_pathEnd_N (R := Int) (S := Out) n xs.1 some (fun y => some (Out.ret (encR (.one (.int .i64)) y))))) h)
def r4_pathEnd_es (n : Nat) : List Entry := r4_pathEnd_en n :: r4_begins_es n
theorem r4_pathEnd_es_ok (n : Nat) : AllOk Tryz.prog gl (r4_pathEnd_es n) := .cons (r4_pathEnd_ok n) (r4_begins_es_ok n)
/- pouch/pouchref4.inner -/
def r4_inner_B0 (n : Nat) {R : Type} (s1 : BA) (i : Int) (b : (Sq Int)) (kn : BA → Int → (Sq Int) → Option R) (ko : (Unit) → Option R) (kr : (BA × Int × Bool) → Option R) (kp : Int → Option R) : Option R :=
 if (decide (i < (s1.size : Int))) = true then
  if 0 ≤ i ∧ i < (s1.size : Int) then
   if ((bt s1 i) == (34 : Int)) = true then
    kr ((strOf b.n b.at'), (IntKind.wrap .i64 (i + (1 : Int))), true)
   else
    if ((bt s1 i) == (92 : Int)) = true then
     if (decide ((IntKind.wrap .i64 (i + (1 : Int))) ≥ (s1.size : Int))) = true then
      ko ()
     else
      if 0 ≤ (IntKind.wrap .i64 (i + (1 : Int))) ∧ (IntKind.wrap .i64 (i + (1 : Int))) < (s1.size : Int) then
       if (decide ((bt s1 (IntKind.wrap .i64 (i + (1 : Int)))) < (32 : Int))) = false then
        if (decide ((bt s1 (IntKind.wrap .i64 (i + (1 : Int)))) > (126 : Int))) = true then
         ko ()
        else
         if rowFits (b.n + 1) 1 = true then
          kn s1 (IntKind.wrap .i64 ((IntKind.wrap .i64 (i + (1 : Int))) + (1 : Int))) (⟨(b.n + 1), fun q => if q < b.n then b.at' q else (fun q => List.getD (α := Int) [(bt s1 (IntKind.wrap .i64 (i + (1 : Int))))] q (zeroEl (.int .u8))) (q - b.n)⟩ : Sq Int)
         else
          none
       else
        ko ()
      else
       none
    else
     if (decide ((bt s1 i) < (32 : Int))) = false then
      if (decide ((bt s1 i) > (126 : Int))) = true then
       ko ()
      else
       if rowFits (b.n + 1) 1 = true then
        kn s1 (IntKind.wrap .i64 (i + (1 : Int))) (⟨(b.n + 1), fun q => if q < b.n then b.at' q else (fun q => List.getD (α := Int) [(bt s1 i)] q (zeroEl (.int .u8))) (q - b.n)⟩ : Sq Int)
       else
        none
     else
      ko ()
  else
   none
 else
  ko ()
theorem r4_inner_B0_N (n : Nat) {R S : Type} (s1 : BA) (i : Int) (b : (Sq Int)) (kn : BA → Int → (Sq Int) → Option R) (ko : (Unit) → Option R) (kr : (BA × Int × Bool) → Option R) (kp : Int → Option R) (φ : R → Option S) : r4_inner_B0 n s1 i b (fun s1 i b => (kn s1 i b).bind φ) (fun a => (ko a).bind φ) (fun a => (kr a).bind φ) (fun a => (kp a).bind φ) = (r4_inner_B0 n s1 i b kn ko kr kp).bind φ := by
  unfold r4_inner_B0
  first | (simp only [dup_self, both_self, iB, bB, oL, oX, nB]) | rfl
def r4_inner_L0 (n : Nat) : Nat → BA → Int → (Sq Int) → Option (Lx (Unit) (BA × Int × Bool))
  | 0, _, _, _ => none
  | m + 1, s1, i, b => r4_inner_B0 n s1 i b (fun s1 i b => r4_inner_L0 n m s1 i b) (fun a => some (.out a)) (fun a => some (.ret a)) (fun p => some (.pan p))
def r4_inner_L0_sp : List Sl := .dat .str :: tp 4 (.row 0 :: .dat (.int .i64) :: tp 37 [])
def r4_inner_L0_rp : List RS := [.row 5 1 (.int .u8) true false]
def r4_inner_L0_out_sp : List Sl := tp 44 []
def r4_inner_L0_out_rp : List RS := []
def r4_inner_L0_ret_sp : List Sl := .top :: .top :: .dat .str :: .dat (.int .i64) :: .dat .bool :: tp 39 []
def r4_inner_L0_ret_rp : List RS := []
def r4_inner_L0_K (K : XE → List AV → AHeap → Option Out) : Lx (Unit) (BA × Int × Bool) → Option Out := fun x => onL x (fun a => layK r4_inner_L0_out_sp r4_inner_L0_out_rp () () (K (.exit 0))) (fun a => layK r4_inner_L0_ret_sp r4_inner_L0_ret_rp (a.1, (a.2.1, (a.2.2, ()))) () (K .ret)) (fun _ => none)
def r4_inner_B (n : Nat) {R : Type} (s : BA) (k : (BA × Int × Bool × Unit) → Option R) : Option R :=
 (r4_inner_L0 n n s (1 : Int) (⟨0, fun _ => zeroEl (.int .u8)⟩ : Sq Int)).bind fun x_1 => onL x_1
  (fun a_2 =>
   k ((⟨#[]⟩ : BA), ((0 : Int), (false, ()))))
  (fun a_3 =>
   k (a_3.1, (a_3.2.1, (a_3.2.2, ()))))
  (fun _ => none)
def r4_inner (n : Nat) (s : BA) : Option (BA × Int × Bool × Unit) := r4_inner_B n s some
theorem r4_inner_N (n : Nat) {R S : Type} (s : BA) (k : (BA × Int × Bool × Unit) → Option R) (φ : R → Option S) : r4_inner_B n s (fun a => (k a).bind φ) = (r4_inner_B n s k).bind φ := by
  unfold r4_inner_B
  first | (simp only [dup_self, both_self, iB, bB, oL, oX, nB]) | rfl
def r4_inner_hint (n : Nat) : Hint Out := { live := fun c => (cond (Nat.beq c 0) [(0, none), (5, some (.sl (.int .u8))), (6, none)] []), run := fun c => (cond (Nat.beq c 0) (some (runL r4_inner_L0_sp r4_inner_L0_rp fun σ ρ K => (r4_inner_L0 n n σ.1 σ.2.1 ρ.1).bind (r4_inner_L0_K K))) none), xm := fun c q => (cond (Nat.beq c 0 && Nat.beq (q.getD 1000000) 0 && q.isSome) (some []) (cond (Nat.beq c 1 && Nat.beq (q.getD 1000000) 0 && q.isSome) (some []) (cond (Nat.beq c 1 && q.isNone) (some (lv [2, 3, 4])) none))) }
def r4_inner_L0_I (n : Nat) (K : XE → List AV → AHeap → Option Out) (m : Nat) (s1 : BA) (i : Int) (b : (Sq Int)) : Option Out := loopI tys (callees Out (r4_pathEnd_es n)) (r4_inner_hint n) n (codeAt [1, 1, 0, 1, 0, 0] (bodyOf Tryz.f64)) 0 r4_inner_L0_sp r4_inner_L0_rp K m (s1, (i, ())) (b, ())
theorem r4_inner_L0_E (n : Nat) (K : XE → List AV → AHeap → Option Out) : ∀ (m : Nat) (s1 : BA) (i : Int) (b : (Sq Int)), r4_inner_L0_I n K m s1 i b = (r4_inner_L0 n m s1 i b).bind (r4_inner_L0_K K)
  | 0, s1, i, b => by kernel_rfl
  | m + 1, s1, i, b => by
    have h1 : r4_inner_L0_I n K (m + 1) s1 i b = r4_inner_B0 n s1 i b (fun s1 i b => r4_inner_L0_I n K m s1 i b) (fun a => r4_inner_L0_K K (.out a)) (fun a => r4_inner_L0_K K (.ret a)) (fun p => r4_inner_L0_K K (.pan p)) := by kernel_rfl
    have h2 : (fun s1 i b => r4_inner_L0_I n K m s1 i b) = (fun s1 i b => (r4_inner_L0 n m s1 i b).bind (r4_inner_L0_K K)) := funext fun s1 => funext fun i => funext fun b => r4_inner_L0_E n K m s1 i b
    exact h1.trans ((congrArg (fun z => r4_inner_B0 n s1 i b z (fun a => r4_inner_L0_K K (.out a)) (fun a => r4_inner_L0_K K (.ret a)) (fun p => r4_inner_L0_K K (.pan p))) h2).trans (r4_inner_B0_N n s1 i b (fun s1 i b => r4_inner_L0 n m s1 i b) (fun a => some (.out a)) (fun a => some (.ret a)) (fun p => some (.pan p)) (r4_inner_L0_K K)))
theorem r4_inner_L0_ok (n : Nat) : RunOk tys (callees Out (r4_pathEnd_es n)) (r4_inner_hint n) n (codeAt [1, 1, 0, 1, 0, 0] (bodyOf Tryz.f64)) 0 := runOk_of (sp := r4_inner_L0_sp) (rp := r4_inner_L0_rp) (F := fun σ ρ K => (r4_inner_L0 n n σ.1 σ.2.1 ρ.1).bind (r4_inner_L0_K K)) (by kernel_rfl) fun K σ ρ => r4_inner_L0_E n K n σ.1 σ.2.1 ρ.1
theorem r4_inner_runs (n : Nat) : RunsOk tys (callees Out (r4_pathEnd_es n)) (r4_inner_hint n) n (bodyOf Tryz.f64) 0 := ⟨trivial, ⟨trivial, ⟨⟨trivial, ⟨r4_inner_L0_ok n, ⟨⟨trivial, ⟨trivial, trivial⟩⟩, ⟨⟨trivial, ⟨⟨trivial, ⟨⟨trivial, trivial⟩, trivial⟩⟩, ⟨⟨trivial, ⟨⟨trivial, ⟨⟨trivial, ⟨trivial, trivial⟩⟩, trivial⟩⟩, trivial⟩⟩, ⟨⟨trivial, ⟨trivial, trivial⟩⟩, trivial⟩⟩⟩⟩, trivial⟩⟩⟩⟩, ⟨trivial, trivial⟩⟩⟩⟩
theorem r4_inner_at : Tryz.prog.funcs[64]? = some Tryz.f64 := by kernel_rfl
theorem r4_inner_ent (n : Nat) : Enters Tryz.prog 64 := enters_of (c := bodyOf Tryz.f64) r4_inner_at (by kernel_rfl) (by kernel_rfl)
theorem r4_inner_E (n : Nat) (s : BA) : fnA tys (callees Out (r4_pathEnd_es n)) (r4_inner_hint n) n Tryz.f64 (encL (.pair .str .unit) (s, ())) [] (soloA fun v => some (.ret v)) (soloA fun v => some (.pan v)) = r4_inner_B n s (fun y => some (.ret (encR (.many (.pair .str (.pair (.int .i64) (.pair .bool .unit)))) y))) := by kernel_rfl
def r4_inner_en (n : Nat) : Entry := ⟨64, pcT (.pair .str .unit) (.many (.pair .str (.pair (.int .i64) (.pair .bool .unit)))) (fun xs => r4_inner n xs.1), none, none⟩
theorem r4_inner_ok (n : Nat) : EntryOk Tryz.prog gl (r4_inner_en n) :=
  pcT_ok (r4_inner_ent n) fun xs y h => ans_of_fn tys_ok (r4_pathEnd_es_ok n) mixed (hint := r4_inner_hint n) (n := n) (fn := Tryz.f64) r4_inner_at (runsC (r4_inner_runs n)) (run_ret (φ := (fun y => some (Out.ret (encR (.many (.pair .str (.pair (.int .i64) (.pair .bool .unit)))) y)))) ((r4_inner_E n xs.1).trans (r4_inner_N (R := (BA × Int × Bool × Unit)) (S := Out) n xs.1 some (fun y => some (Out.ret (encR (.many (.pair .str (.pair (.int .i64) (.pair .bool .unit)))) y))))) h)
def r4_inner_es (n : Nat) : List Entry := r4_inner_en n :: r4_pathEnd_es n
theorem r4_inner_es_ok (n : Nat) : AllOk Tryz.prog gl (r4_inner_es n) := .cons (r4_inner_ok n) (r4_pathEnd_es_ok n)
/- pouch/pouchref4.quote -/
def r4_quote_B0 (n : Nat) {R : Type} (s1 : BA) (q : BA) (i : Int) (kn : BA → BA → Int → Option R) (ko : (BA) → Option R) (kr : Unit → Option R) (kp : Int → Option R) : Option R :=
 if (decide (i < (s1.size : Int))) = true then
  if 0 ≤ i ∧ i < (s1.size : Int) then
   if ((bt s1 i) == (34 : Int)) = false then
    if 0 ≤ i ∧ i < (s1.size : Int) then
     if ((bt s1 i) == (92 : Int)) = true then
      if strFits q (⟨#[92]⟩ : BA) = true then
       if 0 ≤ (IntKind.wrap .i64 (i + (1 : Int))) ∧ (IntKind.wrap .i64 (i + (1 : Int))) ≤ (s1.size : Int) then
        if 0 ≤ i ∧ i ≤ (IntKind.wrap .i64 (i + (1 : Int))) then
         if strFits (q ++ (⟨#[92]⟩ : BA)) (s1.extract (Int.toNat i) (Int.toNat (IntKind.wrap .i64 (i + (1 : Int))))) = true then
          kn s1 ((q ++ (⟨#[92]⟩ : BA)) ++ (s1.extract (Int.toNat i) (Int.toNat (IntKind.wrap .i64 (i + (1 : Int)))))) (IntKind.wrap .i64 (i + (1 : Int)))
         else
          none
        else
         none
       else
        none
      else
       none
     else
      if 0 ≤ (IntKind.wrap .i64 (i + (1 : Int))) ∧ (IntKind.wrap .i64 (i + (1 : Int))) ≤ (s1.size : Int) then
       if 0 ≤ i ∧ i ≤ (IntKind.wrap .i64 (i + (1 : Int))) then
        if strFits q (s1.extract (Int.toNat i) (Int.toNat (IntKind.wrap .i64 (i + (1 : Int))))) = true then
         kn s1 (q ++ (s1.extract (Int.toNat i) (Int.toNat (IntKind.wrap .i64 (i + (1 : Int)))))) (IntKind.wrap .i64 (i + (1 : Int)))
        else
         none
       else
        none
      else
       none
    else
     none
   else
    if strFits q (⟨#[92]⟩ : BA) = true then
     if 0 ≤ (IntKind.wrap .i64 (i + (1 : Int))) ∧ (IntKind.wrap .i64 (i + (1 : Int))) ≤ (s1.size : Int) then
      if 0 ≤ i ∧ i ≤ (IntKind.wrap .i64 (i + (1 : Int))) then
       if strFits (q ++ (⟨#[92]⟩ : BA)) (s1.extract (Int.toNat i) (Int.toNat (IntKind.wrap .i64 (i + (1 : Int))))) = true then
        kn s1 ((q ++ (⟨#[92]⟩ : BA)) ++ (s1.extract (Int.toNat i) (Int.toNat (IntKind.wrap .i64 (i + (1 : Int)))))) (IntKind.wrap .i64 (i + (1 : Int)))
       else
        none
      else
       none
     else
      none
    else
     none
  else
   none
 else
  ko q
theorem r4_quote_B0_N (n : Nat) {R S : Type} (s1 : BA) (q : BA) (i : Int) (kn : BA → BA → Int → Option R) (ko : (BA) → Option R) (kr : Unit → Option R) (kp : Int → Option R) (φ : R → Option S) : r4_quote_B0 n s1 q i (fun s1 q i => (kn s1 q i).bind φ) (fun a => (ko a).bind φ) (fun a => (kr a).bind φ) (fun a => (kp a).bind φ) = (r4_quote_B0 n s1 q i kn ko kr kp).bind φ := by
  unfold r4_quote_B0
  first | (simp only [dup_self, both_self, iB, bB, oL, oX, nB]) | rfl
def r4_quote_L0 (n : Nat) : Nat → BA → BA → Int → Option (Lx (BA) Unit)
  | 0, _, _, _ => none
  | m + 1, s1, q, i => r4_quote_B0 n s1 q i (fun s1 q i => r4_quote_L0 n m s1 q i) (fun a => some (.out a)) (fun a => some (.ret a)) (fun p => some (.pan p))
def r4_quote_L0_sp : List Sl := .dat .str :: .top :: .top :: .dat .str :: .dat (.int .i64) :: tp 27 []
def r4_quote_L0_rp : List RS := []
def r4_quote_L0_out_sp : List Sl := .top :: .top :: .top :: .dat .str :: tp 28 []
def r4_quote_L0_out_rp : List RS := []
def r4_quote_L0_K (K : XE → List AV → AHeap → Option Out) : Lx (BA) Unit → Option Out := fun x => onL x (fun a => layK r4_quote_L0_out_sp r4_quote_L0_out_rp (a, ()) () (K (.exit 0))) (fun _ => none) (fun _ => none)
def r4_quote_B (n : Nat) {R : Type} (s : BA) (k : BA → Option R) : Option R :=
 (r4_quote_L0 n n s (⟨#[34]⟩ : BA) (0 : Int)).bind fun x_1 => onL x_1
  (fun a_2 =>
   if strFits a_2 (⟨#[34]⟩ : BA) = true then
    k (a_2 ++ (⟨#[34]⟩ : BA))
   else
    none)
  (fun _ => none)
  (fun _ => none)
def r4_quote (n : Nat) (s : BA) : Option BA := r4_quote_B n s some
theorem r4_quote_N (n : Nat) {R S : Type} (s : BA) (k : BA → Option R) (φ : R → Option S) : r4_quote_B n s (fun a => (k a).bind φ) = (r4_quote_B n s k).bind φ := by
  unfold r4_quote_B
  first | (simp only [dup_self, both_self, iB, bB, oL, oX, nB]) | rfl
def r4_quote_hint (n : Nat) : Hint Out := { live := fun c => (cond (Nat.beq c 0) (lv [0, 3, 4]) []), run := fun c => (cond (Nat.beq c 0) (some (runL r4_quote_L0_sp r4_quote_L0_rp fun σ ρ K => (r4_quote_L0 n n σ.1 σ.2.1 σ.2.2.1).bind (r4_quote_L0_K K))) none), xm := fun c q => (cond (Nat.beq c 0 && Nat.beq (q.getD 1000000) 0 && q.isSome) (some [(3, none)]) none) }
def r4_quote_L0_I (n : Nat) (K : XE → List AV → AHeap → Option Out) (m : Nat) (s1 : BA) (q : BA) (i : Int) : Option Out := loopI tys (callees Out (r4_inner_es n)) (r4_quote_hint n) n (codeAt [1, 1, 0, 1, 0, 0] (bodyOf Tryz.f65)) 0 r4_quote_L0_sp r4_quote_L0_rp K m (s1, (q, (i, ()))) ()
theorem r4_quote_L0_E (n : Nat) (K : XE → List AV → AHeap → Option Out) : ∀ (m : Nat) (s1 : BA) (q : BA) (i : Int), r4_quote_L0_I n K m s1 q i = (r4_quote_L0 n m s1 q i).bind (r4_quote_L0_K K)
  | 0, s1, q, i => by kernel_rfl
  | m + 1, s1, q, i => by
    have h1 : r4_quote_L0_I n K (m + 1) s1 q i = r4_quote_B0 n s1 q i (fun s1 q i => r4_quote_L0_I n K m s1 q i) (fun a => r4_quote_L0_K K (.out a)) (fun a => r4_quote_L0_K K (.ret a)) (fun p => r4_quote_L0_K K (.pan p)) := by kernel_rfl
    have h2 : (fun s1 q i => r4_quote_L0_I n K m s1 q i) = (fun s1 q i => (r4_quote_L0 n m s1 q i).bind (r4_quote_L0_K K)) := funext fun s1 => funext fun q => funext fun i => r4_quote_L0_E n K m s1 q i
    exact h1.trans ((congrArg (fun z => r4_quote_B0 n s1 q i z (fun a => r4_quote_L0_K K (.out a)) (fun a => r4_quote_L0_K K (.ret a)) (fun p => r4_quote_L0_K K (.pan p))) h2).trans (r4_quote_B0_N n s1 q i (fun s1 q i => r4_quote_L0 n m s1 q i) (fun a => some (.out a)) (fun a => some (.ret a)) (fun p => some (.pan p)) (r4_quote_L0_K K)))
theorem r4_quote_L0_ok (n : Nat) : RunOk tys (callees Out (r4_inner_es n)) (r4_quote_hint n) n (codeAt [1, 1, 0, 1, 0, 0] (bodyOf Tryz.f65)) 0 := runOk_of (sp := r4_quote_L0_sp) (rp := r4_quote_L0_rp) (F := fun σ ρ K => (r4_quote_L0 n n σ.1 σ.2.1 σ.2.2.1).bind (r4_quote_L0_K K)) (by kernel_rfl) fun K σ ρ => r4_quote_L0_E n K n σ.1 σ.2.1 σ.2.2.1
theorem r4_quote_runs (n : Nat) : RunsOk tys (callees Out (r4_inner_es n)) (r4_quote_hint n) n (bodyOf Tryz.f65) 0 := ⟨trivial, ⟨trivial, ⟨⟨trivial, ⟨r4_quote_L0_ok n, ⟨⟨trivial, ⟨trivial, trivial⟩⟩, ⟨⟨⟨trivial, ⟨trivial, trivial⟩⟩, trivial⟩, trivial⟩⟩⟩⟩, ⟨trivial, trivial⟩⟩⟩⟩
theorem r4_quote_at : Tryz.prog.funcs[65]? = some Tryz.f65 := by kernel_rfl
theorem r4_quote_ent (n : Nat) : Enters Tryz.prog 65 := enters_of (c := bodyOf Tryz.f65) r4_quote_at (by kernel_rfl) (by kernel_rfl)
theorem r4_quote_E (n : Nat) (s : BA) : fnA tys (callees Out (r4_inner_es n)) (r4_quote_hint n) n Tryz.f65 (encL (.pair .str .unit) (s, ())) [] (soloA fun v => some (.ret v)) (soloA fun v => some (.pan v)) = r4_quote_B n s (fun y => some (.ret (encR (.one .str) y))) := by kernel_rfl
def r4_quote_en (n : Nat) : Entry := ⟨65, pcT (.pair .str .unit) (.one .str) (fun xs => r4_quote n xs.1), none, none⟩
theorem r4_quote_ok (n : Nat) : EntryOk Tryz.prog gl (r4_quote_en n) :=
  pcT_ok (r4_quote_ent n) fun xs y h => ans_of_fn tys_ok (r4_inner_es_ok n) mixed (hint := r4_quote_hint n) (n := n) (fn := Tryz.f65) r4_quote_at (runsC (r4_quote_runs n)) (run_ret (φ := (fun y => some (Out.ret (encR (.one .str) y)))) ((r4_quote_E n xs.1).trans (r4_quote_N (R := BA) (S := Out) n xs.1 some (fun y => some (Out.ret (encR (.one .str) y))))) h)
def r4_quote_es (n : Nat) : List Entry := r4_quote_en n :: r4_inner_es n
theorem r4_quote_es_ok (n : Nat) : AllOk Tryz.prog gl (r4_quote_es n) := .cons (r4_quote_ok n) (r4_inner_es_ok n)
/- pouch/pouchref0.Split -/
def r0_Split_B0 (n : Nat) {R : Type} (s1 : BA) (by01 : Int) (from0 : Int) (i : Int) (l : (Sq BA)) (kn : BA → Int → Int → Int → (Sq BA) → Option R) (ko : ((Sq BA)) → Option R) (kr : Unit → Option R) (kp : Int → Option R) : Option R :=
 if (decide (i ≤ (s1.size : Int))) = true then
  if (i == (s1.size : Int)) = false then
   if 0 ≤ i ∧ i < (s1.size : Int) then
    if ((bt s1 i) == by01) = true then
     if 0 ≤ i ∧ i ≤ (s1.size : Int) then
      if 0 ≤ from0 ∧ from0 ≤ i then
       if rowFits (l.n + 1) 16 = true then
        kn s1 by01 (IntKind.wrap .i64 (i + (1 : Int))) (IntKind.wrap .i64 (i + (1 : Int))) (⟨(l.n + 1), fun q => if q < l.n then l.at' q else (fun q => List.getD (α := BA) [(s1.extract (Int.toNat from0) (Int.toNat i))] q (zeroEl .str)) (q - l.n)⟩ : Sq BA)
       else
        none
      else
       none
     else
      none
    else
     kn s1 by01 from0 (IntKind.wrap .i64 (i + (1 : Int))) l
   else
    none
  else
   if 0 ≤ i ∧ i ≤ (s1.size : Int) then
    if 0 ≤ from0 ∧ from0 ≤ i then
     if rowFits (l.n + 1) 16 = true then
      kn s1 by01 (IntKind.wrap .i64 (i + (1 : Int))) (IntKind.wrap .i64 (i + (1 : Int))) (⟨(l.n + 1), fun q => if q < l.n then l.at' q else (fun q => List.getD (α := BA) [(s1.extract (Int.toNat from0) (Int.toNat i))] q (zeroEl .str)) (q - l.n)⟩ : Sq BA)
     else
      none
    else
     none
   else
    none
 else
  ko l
theorem r0_Split_B0_N (n : Nat) {R S : Type} (s1 : BA) (by01 : Int) (from0 : Int) (i : Int) (l : (Sq BA)) (kn : BA → Int → Int → Int → (Sq BA) → Option R) (ko : ((Sq BA)) → Option R) (kr : Unit → Option R) (kp : Int → Option R) (φ : R → Option S) : r0_Split_B0 n s1 by01 from0 i l (fun s1 by01 from0 i l => (kn s1 by01 from0 i l).bind φ) (fun a => (ko a).bind φ) (fun a => (kr a).bind φ) (fun a => (kp a).bind φ) = (r0_Split_B0 n s1 by01 from0 i l kn ko kr kp).bind φ := by
  unfold r0_Split_B0
  first | (simp only [dup_self, both_self, iB, bB, oL, oX, nB]) | rfl
def r0_Split_L0 (n : Nat) : Nat → BA → Int → Int → Int → (Sq BA) → Option (Lx ((Sq BA)) Unit)
  | 0, _, _, _, _, _ => none
  | m + 1, s1, by01, from0, i, l => r0_Split_B0 n s1 by01 from0 i l (fun s1 by01 from0 i l => r0_Split_L0 n m s1 by01 from0 i l) (fun a => some (.out a)) (fun a => some (.ret a)) (fun p => some (.pan p))
def r0_Split_L0_sp : List Sl := .dat .str :: .dat (.int .u8) :: .top :: .top :: .top :: .row 0 :: .dat (.int .i64) :: .dat (.int .i64) :: tp 27 []
def r0_Split_L0_rp : List RS := [.row 9 1 .str true false]
def r0_Split_L0_out_sp : List Sl := tp 5 (.row 0 :: tp 29 [])
def r0_Split_L0_out_rp : List RS := [.row 9 1 .str true false]
def r0_Split_L0_K (K : XE → List AV → AHeap → Option Out) : Lx ((Sq BA)) Unit → Option Out := fun x => onL x (fun a => layK r0_Split_L0_out_sp r0_Split_L0_out_rp () (a, ()) (K (.exit 0))) (fun _ => none) (fun _ => none)
def r0_Split_B (n : Nat) {R : Type} (s : BA) (by0 : Int) (k : (Sq BA) → Option R) : Option R :=
 (r0_Split_L0 n n s by0 (0 : Int) (0 : Int) (⟨0, fun _ => zeroEl .str⟩ : Sq BA)).bind fun x_1 => onL x_1
  (fun a_2 =>
   k a_2)
  (fun _ => none)
  (fun _ => none)
def r0_Split (n : Nat) (s : BA) (by0 : Int) : Option (Sq BA) := r0_Split_B n s by0 some
theorem r0_Split_N (n : Nat) {R S : Type} (s : BA) (by0 : Int) (k : (Sq BA) → Option R) (φ : R → Option S) : r0_Split_B n s by0 (fun a => (k a).bind φ) = (r0_Split_B n s by0 k).bind φ := by
  unfold r0_Split_B
  first | (simp only [dup_self, both_self, iB, bB, oL, oX, nB]) | rfl
def r0_Split_hint (n : Nat) : Hint Out := { live := fun c => (cond (Nat.beq c 0) [(0, none), (1, none), (5, some (.sl .str)), (6, none), (7, none)] []), run := fun c => (cond (Nat.beq c 0) (some (runL r0_Split_L0_sp r0_Split_L0_rp fun σ ρ K => (r0_Split_L0 n n σ.1 σ.2.1 σ.2.2.1 σ.2.2.2.1 ρ.1).bind (r0_Split_L0_K K))) none), xm := fun c q => (cond (Nat.beq c 0 && Nat.beq (q.getD 1000000) 0 && q.isSome) (some [(5, some (.sl .str))]) none) }
def r0_Split_L0_I (n : Nat) (K : XE → List AV → AHeap → Option Out) (m : Nat) (s1 : BA) (by01 : Int) (from0 : Int) (i : Int) (l : (Sq BA)) : Option Out := loopI tys (callees Out (r4_quote_es n)) (r0_Split_hint n) n (codeAt [1, 1, 1, 0, 1, 0, 0] (bodyOf Tryz.f55)) 0 r0_Split_L0_sp r0_Split_L0_rp K m (s1, (by01, (from0, (i, ())))) (l, ())
theorem r0_Split_L0_E (n : Nat) (K : XE → List AV → AHeap → Option Out) : ∀ (m : Nat) (s1 : BA) (by01 : Int) (from0 : Int) (i : Int) (l : (Sq BA)), r0_Split_L0_I n K m s1 by01 from0 i l = (r0_Split_L0 n m s1 by01 from0 i l).bind (r0_Split_L0_K K)
  | 0, s1, by01, from0, i, l => by kernel_rfl
  | m + 1, s1, by01, from0, i, l => by
    have h1 : r0_Split_L0_I n K (m + 1) s1 by01 from0 i l = r0_Split_B0 n s1 by01 from0 i l (fun s1 by01 from0 i l => r0_Split_L0_I n K m s1 by01 from0 i l) (fun a => r0_Split_L0_K K (.out a)) (fun a => r0_Split_L0_K K (.ret a)) (fun p => r0_Split_L0_K K (.pan p)) := by kernel_rfl
    have h2 : (fun s1 by01 from0 i l => r0_Split_L0_I n K m s1 by01 from0 i l) = (fun s1 by01 from0 i l => (r0_Split_L0 n m s1 by01 from0 i l).bind (r0_Split_L0_K K)) := funext fun s1 => funext fun by01 => funext fun from0 => funext fun i => funext fun l => r0_Split_L0_E n K m s1 by01 from0 i l
    exact h1.trans ((congrArg (fun z => r0_Split_B0 n s1 by01 from0 i l z (fun a => r0_Split_L0_K K (.out a)) (fun a => r0_Split_L0_K K (.ret a)) (fun p => r0_Split_L0_K K (.pan p))) h2).trans (r0_Split_B0_N n s1 by01 from0 i l (fun s1 by01 from0 i l => r0_Split_L0 n m s1 by01 from0 i l) (fun a => some (.out a)) (fun a => some (.ret a)) (fun p => some (.pan p)) (r0_Split_L0_K K)))
theorem r0_Split_L0_ok (n : Nat) : RunOk tys (callees Out (r4_quote_es n)) (r0_Split_hint n) n (codeAt [1, 1, 1, 0, 1, 0, 0] (bodyOf Tryz.f55)) 0 := runOk_of (sp := r0_Split_L0_sp) (rp := r0_Split_L0_rp) (F := fun σ ρ K => (r0_Split_L0 n n σ.1 σ.2.1 σ.2.2.1 σ.2.2.2.1 ρ.1).bind (r0_Split_L0_K K)) (by kernel_rfl) fun K σ ρ => r0_Split_L0_E n K n σ.1 σ.2.1 σ.2.2.1 σ.2.2.2.1 ρ.1
theorem r0_Split_runs (n : Nat) : RunsOk tys (callees Out (r4_quote_es n)) (r0_Split_hint n) n (bodyOf Tryz.f55) 0 := ⟨trivial, ⟨trivial, ⟨trivial, ⟨⟨trivial, ⟨r0_Split_L0_ok n, ⟨⟨trivial, ⟨trivial, trivial⟩⟩, ⟨⟨trivial, ⟨⟨trivial, trivial⟩, trivial⟩⟩, trivial⟩⟩⟩⟩, ⟨trivial, trivial⟩⟩⟩⟩⟩
theorem r0_Split_at : Tryz.prog.funcs[55]? = some Tryz.f55 := by kernel_rfl
theorem r0_Split_ent (n : Nat) : Enters Tryz.prog 55 := enters_of (c := bodyOf Tryz.f55) r0_Split_at (by kernel_rfl) (by kernel_rfl)
theorem r0_Split_E (n : Nat) (s : BA) (by0 : Int) : fnA tys (callees Out (r4_quote_es n)) (r0_Split_hint n) n Tryz.f55 (encL (.pair .str (.pair (.int .u8) .unit)) (s, (by0, ()))) [] (soloA fun v => some (.ret v)) (soloA fun v => some (.pan v)) = r0_Split_B n s by0 (fun y => some (.ret (encR (.one (.sl .str)) y))) := by kernel_rfl
def r0_Split_en (n : Nat) : Entry := ⟨55, pcT (.pair .str (.pair (.int .u8) .unit)) (.one (.sl .str)) (fun xs => r0_Split n xs.1 xs.2.1), none, none⟩
theorem r0_Split_ok (n : Nat) : EntryOk Tryz.prog gl (r0_Split_en n) :=
  pcT_ok (r0_Split_ent n) fun xs y h => ans_of_fn tys_ok (r4_quote_es_ok n) mixed (hint := r0_Split_hint n) (n := n) (fn := Tryz.f55) r0_Split_at (runsC (r0_Split_runs n)) (run_ret (φ := (fun y => some (Out.ret (encR (.one (.sl .str)) y)))) ((r0_Split_E n xs.1 xs.2.1).trans (r0_Split_N (R := (Sq BA)) (S := Out) n xs.1 xs.2.1 some (fun y => some (Out.ret (encR (.one (.sl .str)) y))))) h)
def r0_Split_es (n : Nat) : List Entry := r0_Split_en n :: r4_quote_es n
theorem r0_Split_es_ok (n : Nat) : AllOk Tryz.prog gl (r0_Split_es n) := .cons (r0_Split_ok n) (r4_quote_es_ok n)
/- pouch/pouchref4.letter -/
def r4_letter_B (n : Nat) {R : Type} (c : Int) (k : Bool → Option R) : Option R :=
 if (decide (c ≥ (97 : Int))) = true then
  if (decide (c ≤ (122 : Int))) = false then
   if (decide (c ≥ (65 : Int))) = true then
    k (decide (c ≤ (90 : Int)))
   else
    k false
  else
   k true
 else
  if (decide (c ≥ (65 : Int))) = true then
   k (decide (c ≤ (90 : Int)))
  else
   k false
def r4_letter (n : Nat) (c : Int) : Option Bool := r4_letter_B n c some
theorem r4_letter_N (n : Nat) {R S : Type} (c : Int) (k : Bool → Option R) (φ : R → Option S) : r4_letter_B n c (fun a => (k a).bind φ) = (r4_letter_B n c k).bind φ := by
  unfold r4_letter_B
  first | (simp only [dup_self, both_self, iB, bB, oL, oX, nB]) | rfl
def r4_letter_hint (n : Nat) : Hint Out := { live := fun c => [], run := fun c => none, xm := fun c q => none }
theorem r4_letter_runs (n : Nat) : RunsOk tys (callees Out (r0_Split_es n)) (r4_letter_hint n) n (bodyOf Tryz.f79) 0 := runs_noloop (fun _ => rfl) _ _ (by kernel_rfl)
theorem r4_letter_at : Tryz.prog.funcs[79]? = some Tryz.f79 := by kernel_rfl
theorem r4_letter_ent (n : Nat) : Enters Tryz.prog 79 := enters_of (c := bodyOf Tryz.f79) r4_letter_at (by kernel_rfl) (by kernel_rfl)
theorem r4_letter_E (n : Nat) (c : Int) : fnA tys (callees Out (r0_Split_es n)) (r4_letter_hint n) n Tryz.f79 (encL (.pair (.int .u8) .unit) (c, ())) [] (soloA fun v => some (.ret v)) (soloA fun v => some (.pan v)) = r4_letter_B n c (fun y => some (.ret (encR (.one .bool) y))) := by kernel_rfl
def r4_letter_en (n : Nat) : Entry := ⟨79, pcT (.pair (.int .u8) .unit) (.one .bool) (fun xs => r4_letter n xs.1), none, none⟩
theorem r4_letter_ok (n : Nat) : EntryOk Tryz.prog gl (r4_letter_en n) :=
  pcT_ok (r4_letter_ent n) fun xs y h => ans_of_fn tys_ok (r0_Split_es_ok n) mixed (hint := r4_letter_hint n) (n := n) (fn := Tryz.f79) r4_letter_at (runsC (r4_letter_runs n)) (run_ret (φ := (fun y => some (Out.ret (encR (.one .bool) y)))) ((r4_letter_E n xs.1).trans (r4_letter_N (R := Bool) (S := Out) n xs.1 some (fun y => some (Out.ret (encR (.one .bool) y))))) h)
def r4_letter_es (n : Nat) : List Entry := r4_letter_en n :: r0_Split_es n
theorem r4_letter_es_ok (n : Nat) : AllOk Tryz.prog gl (r4_letter_es n) := .cons (r4_letter_ok n) (r0_Split_es_ok n)
/- pouch/pouchref4.digit -/
def r4_digit_B (n : Nat) {R : Type} (c : Int) (k : Bool → Option R) : Option R :=
 if (decide (c ≥ (48 : Int))) = true then
  k (decide (c ≤ (57 : Int)))
 else
  k false
def r4_digit (n : Nat) (c : Int) : Option Bool := r4_digit_B n c some
theorem r4_digit_N (n : Nat) {R S : Type} (c : Int) (k : Bool → Option R) (φ : R → Option S) : r4_digit_B n c (fun a => (k a).bind φ) = (r4_digit_B n c k).bind φ := by
  unfold r4_digit_B
  first | (simp only [dup_self, both_self, iB, bB, oL, oX, nB]) | rfl
def r4_digit_hint (n : Nat) : Hint Out := { live := fun c => [], run := fun c => none, xm := fun c q => none }
theorem r4_digit_runs (n : Nat) : RunsOk tys (callees Out (r4_letter_es n)) (r4_digit_hint n) n (bodyOf Tryz.f51) 0 := runs_noloop (fun _ => rfl) _ _ (by kernel_rfl)
theorem r4_digit_at : Tryz.prog.funcs[51]? = some Tryz.f51 := by kernel_rfl
theorem r4_digit_ent (n : Nat) : Enters Tryz.prog 51 := enters_of (c := bodyOf Tryz.f51) r4_digit_at (by kernel_rfl) (by kernel_rfl)
theorem r4_digit_E (n : Nat) (c : Int) : fnA tys (callees Out (r4_letter_es n)) (r4_digit_hint n) n Tryz.f51 (encL (.pair (.int .u8) .unit) (c, ())) [] (soloA fun v => some (.ret v)) (soloA fun v => some (.pan v)) = r4_digit_B n c (fun y => some (.ret (encR (.one .bool) y))) := by kernel_rfl
def r4_digit_en (n : Nat) : Entry := ⟨51, pcT (.pair (.int .u8) .unit) (.one .bool) (fun xs => r4_digit n xs.1), none, none⟩
theorem r4_digit_ok (n : Nat) : EntryOk Tryz.prog gl (r4_digit_en n) :=
  pcT_ok (r4_digit_ent n) fun xs y h => ans_of_fn tys_ok (r4_letter_es_ok n) mixed (hint := r4_digit_hint n) (n := n) (fn := Tryz.f51) r4_digit_at (runsC (r4_digit_runs n)) (run_ret (φ := (fun y => some (Out.ret (encR (.one .bool) y)))) ((r4_digit_E n xs.1).trans (r4_digit_N (R := Bool) (S := Out) n xs.1 some (fun y => some (Out.ret (encR (.one .bool) y))))) h)
def r4_digit_es (n : Nat) : List Entry := r4_digit_en n :: r4_letter_es n
theorem r4_digit_es_ok (n : Nat) : AllOk Tryz.prog gl (r4_digit_es n) := .cons (r4_digit_ok n) (r4_letter_es_ok n)
/- pouch/pouchref4.sign -/
def r4_sign_B0 (n : Nat) {R : Type} (c1 : Int) (s : BA) (i : Int) (kn : Int → BA → Int → Option R) (ko : (Unit) → Option R) (kr : (Bool) → Option R) (kp : Int → Option R) : Option R :=
 if (decide (i < (s.size : Int))) = true then
  if 0 ≤ i ∧ i < (s.size : Int) then
   if ((bt s i) == c1) = true then
    kr true
   else
    kn c1 s (IntKind.wrap .i64 (i + (1 : Int)))
  else
   none
 else
  ko ()
theorem r4_sign_B0_N (n : Nat) {R S : Type} (c1 : Int) (s : BA) (i : Int) (kn : Int → BA → Int → Option R) (ko : (Unit) → Option R) (kr : (Bool) → Option R) (kp : Int → Option R) (φ : R → Option S) : r4_sign_B0 n c1 s i (fun c1 s i => (kn c1 s i).bind φ) (fun a => (ko a).bind φ) (fun a => (kr a).bind φ) (fun a => (kp a).bind φ) = (r4_sign_B0 n c1 s i kn ko kr kp).bind φ := by
  unfold r4_sign_B0
  first | (simp only [dup_self, both_self, iB, bB, oL, oX, nB]) | rfl
def r4_sign_L0 (n : Nat) : Nat → Int → BA → Int → Option (Lx (Unit) (Bool))
  | 0, _, _, _ => none
  | m + 1, c1, s, i => r4_sign_B0 n c1 s i (fun c1 s i => r4_sign_L0 n m c1 s i) (fun a => some (.out a)) (fun a => some (.ret a)) (fun p => some (.pan p))
def r4_sign_L0_sp : List Sl := .dat (.int .u8) :: .top :: .top :: .dat .str :: .dat (.int .i64) :: tp 11 []
def r4_sign_L0_rp : List RS := []
def r4_sign_L0_out_sp : List Sl := tp 16 []
def r4_sign_L0_out_rp : List RS := []
def r4_sign_L0_ret_sp : List Sl := .top :: .top :: .dat .bool :: tp 13 []
def r4_sign_L0_ret_rp : List RS := []
def r4_sign_L0_K (K : XE → List AV → AHeap → Option Out) : Lx (Unit) (Bool) → Option Out := fun x => onL x (fun a => layK r4_sign_L0_out_sp r4_sign_L0_out_rp () () (K (.exit 0))) (fun a => layK r4_sign_L0_ret_sp r4_sign_L0_ret_rp (a, ()) () (K .ret)) (fun _ => none)
def r4_sign_B (n : Nat) {R : Type} (c : Int) (k : Bool → Option R) : Option R :=
 (r4_sign_L0 n n c (⟨#[33, 35, 36, 37, 38, 39, 42, 43, 45, 47, 61, 63, 94, 95, 96, 123, 124, 125, 126]⟩ : BA) (0 : Int)).bind fun x_1 => onL x_1
  (fun a_2 =>
   k false)
  (fun a_3 =>
   k a_3)
  (fun _ => none)
def r4_sign (n : Nat) (c : Int) : Option Bool := r4_sign_B n c some
theorem r4_sign_N (n : Nat) {R S : Type} (c : Int) (k : Bool → Option R) (φ : R → Option S) : r4_sign_B n c (fun a => (k a).bind φ) = (r4_sign_B n c k).bind φ := by
  unfold r4_sign_B
  first | (simp only [dup_self, both_self, iB, bB, oL, oX, nB]) | rfl
def r4_sign_hint (n : Nat) : Hint Out := { live := fun c => (cond (Nat.beq c 0) (lv [0, 3, 4]) []), run := fun c => (cond (Nat.beq c 0) (some (runL r4_sign_L0_sp r4_sign_L0_rp fun σ ρ K => (r4_sign_L0 n n σ.1 σ.2.1 σ.2.2.1).bind (r4_sign_L0_K K))) none), xm := fun c q => (cond (Nat.beq c 0 && Nat.beq (q.getD 1000000) 0 && q.isSome) (some []) (cond (Nat.beq c 1 && q.isNone) (some [(2, none)]) none)) }
def r4_sign_L0_I (n : Nat) (K : XE → List AV → AHeap → Option Out) (m : Nat) (c1 : Int) (s : BA) (i : Int) : Option Out := loopI tys (callees Out (r4_digit_es n)) (r4_sign_hint n) n (codeAt [1, 1, 0, 1, 0, 0] (bodyOf Tryz.f80)) 0 r4_sign_L0_sp r4_sign_L0_rp K m (c1, (s, (i, ()))) ()
theorem r4_sign_L0_E (n : Nat) (K : XE → List AV → AHeap → Option Out) : ∀ (m : Nat) (c1 : Int) (s : BA) (i : Int), r4_sign_L0_I n K m c1 s i = (r4_sign_L0 n m c1 s i).bind (r4_sign_L0_K K)
  | 0, c1, s, i => by kernel_rfl
  | m + 1, c1, s, i => by
    have h1 : r4_sign_L0_I n K (m + 1) c1 s i = r4_sign_B0 n c1 s i (fun c1 s i => r4_sign_L0_I n K m c1 s i) (fun a => r4_sign_L0_K K (.out a)) (fun a => r4_sign_L0_K K (.ret a)) (fun p => r4_sign_L0_K K (.pan p)) := by kernel_rfl
    have h2 : (fun c1 s i => r4_sign_L0_I n K m c1 s i) = (fun c1 s i => (r4_sign_L0 n m c1 s i).bind (r4_sign_L0_K K)) := funext fun c1 => funext fun s => funext fun i => r4_sign_L0_E n K m c1 s i
    exact h1.trans ((congrArg (fun z => r4_sign_B0 n c1 s i z (fun a => r4_sign_L0_K K (.out a)) (fun a => r4_sign_L0_K K (.ret a)) (fun p => r4_sign_L0_K K (.pan p))) h2).trans (r4_sign_B0_N n c1 s i (fun c1 s i => r4_sign_L0 n m c1 s i) (fun a => some (.out a)) (fun a => some (.ret a)) (fun p => some (.pan p)) (r4_sign_L0_K K)))
theorem r4_sign_L0_ok (n : Nat) : RunOk tys (callees Out (r4_digit_es n)) (r4_sign_hint n) n (codeAt [1, 1, 0, 1, 0, 0] (bodyOf Tryz.f80)) 0 := runOk_of (sp := r4_sign_L0_sp) (rp := r4_sign_L0_rp) (F := fun σ ρ K => (r4_sign_L0 n n σ.1 σ.2.1 σ.2.2.1).bind (r4_sign_L0_K K)) (by kernel_rfl) fun K σ ρ => r4_sign_L0_E n K n σ.1 σ.2.1 σ.2.2.1
theorem r4_sign_runs (n : Nat) : RunsOk tys (callees Out (r4_digit_es n)) (r4_sign_hint n) n (bodyOf Tryz.f80) 0 := ⟨trivial, ⟨trivial, ⟨⟨trivial, ⟨r4_sign_L0_ok n, ⟨⟨trivial, ⟨trivial, trivial⟩⟩, ⟨⟨trivial, ⟨⟨trivial, trivial⟩, trivial⟩⟩, trivial⟩⟩⟩⟩, ⟨trivial, trivial⟩⟩⟩⟩
theorem r4_sign_at : Tryz.prog.funcs[80]? = some Tryz.f80 := by kernel_rfl
theorem r4_sign_ent (n : Nat) : Enters Tryz.prog 80 := enters_of (c := bodyOf Tryz.f80) r4_sign_at (by kernel_rfl) (by kernel_rfl)
theorem r4_sign_E (n : Nat) (c : Int) : fnA tys (callees Out (r4_digit_es n)) (r4_sign_hint n) n Tryz.f80 (encL (.pair (.int .u8) .unit) (c, ())) [] (soloA fun v => some (.ret v)) (soloA fun v => some (.pan v)) = r4_sign_B n c (fun y => some (.ret (encR (.one .bool) y))) := by kernel_rfl
def r4_sign_en (n : Nat) : Entry := ⟨80, pcT (.pair (.int .u8) .unit) (.one .bool) (fun xs => r4_sign n xs.1), none, none⟩
theorem r4_sign_ok (n : Nat) : EntryOk Tryz.prog gl (r4_sign_en n) :=
  pcT_ok (r4_sign_ent n) fun xs y h => ans_of_fn tys_ok (r4_digit_es_ok n) mixed (hint := r4_sign_hint n) (n := n) (fn := Tryz.f80) r4_sign_at (runsC (r4_sign_runs n)) (run_ret (φ := (fun y => some (Out.ret (encR (.one .bool) y)))) ((r4_sign_E n xs.1).trans (r4_sign_N (R := Bool) (S := Out) n xs.1 some (fun y => some (Out.ret (encR (.one .bool) y))))) h)
def r4_sign_es (n : Nat) : List Entry := r4_sign_en n :: r4_digit_es n
theorem r4_sign_es_ok (n : Nat) : AllOk Tryz.prog gl (r4_sign_es n) := .cons (r4_sign_ok n) (r4_digit_es_ok n)
/- pouch/pouchref4.plain -/
def r4_plain_B1 (n : Nat) {R : Type} (l1 : (Sq BA)) (i1 : Int) (k0 : Int) (kn : (Sq BA) → Int → Int → Option R) (ko : ((Sq BA) × Int) → Option R) (kr : (Bool) → Option R) (kp : Int → Option R) : Option R :=
 if 0 ≤ i1 ∧ i1 < (l1.n : Int) then
  if (decide (k0 < ((l1.at' (Int.toNat i1)).size : Int))) = true then
   if 0 ≤ i1 ∧ i1 < (l1.n : Int) then
    if 0 ≤ k0 ∧ k0 < ((l1.at' (Int.toNat i1)).size : Int) then
     (r4_letter n (bt (l1.at' (Int.toNat i1)) k0)).bind fun v1 =>
     if (!v1) = true then
      if 0 ≤ i1 ∧ i1 < (l1.n : Int) then
       if 0 ≤ k0 ∧ k0 < ((l1.at' (Int.toNat i1)).size : Int) then
        (r4_digit n (bt (l1.at' (Int.toNat i1)) k0)).bind fun v2 =>
        if (!v2) = true then
         if 0 ≤ i1 ∧ i1 < (l1.n : Int) then
          if 0 ≤ k0 ∧ k0 < ((l1.at' (Int.toNat i1)).size : Int) then
           (r4_sign n (bt (l1.at' (Int.toNat i1)) k0)).bind fun v3 =>
           if (!v3) = true then
            kr false
           else
            kn l1 i1 (IntKind.wrap .i64 (k0 + (1 : Int)))
          else
           none
         else
          none
        else
         kn l1 i1 (IntKind.wrap .i64 (k0 + (1 : Int)))
       else
        none
      else
       none
     else
      kn l1 i1 (IntKind.wrap .i64 (k0 + (1 : Int)))
    else
     none
   else
    none
  else
   ko (l1, i1)
 else
  none
theorem r4_plain_B1_N (n : Nat) {R S : Type} (l1 : (Sq BA)) (i1 : Int) (k0 : Int) (kn : (Sq BA) → Int → Int → Option R) (ko : ((Sq BA) × Int) → Option R) (kr : (Bool) → Option R) (kp : Int → Option R) (φ : R → Option S) : r4_plain_B1 n l1 i1 k0 (fun l1 i1 k0 => (kn l1 i1 k0).bind φ) (fun a => (ko a).bind φ) (fun a => (kr a).bind φ) (fun a => (kp a).bind φ) = (r4_plain_B1 n l1 i1 k0 kn ko kr kp).bind φ := by
  unfold r4_plain_B1
  first | (simp only [dup_self, both_self, iB, bB, oL, oX, nB]) | rfl
def r4_plain_L1 (n : Nat) : Nat → (Sq BA) → Int → Int → Option (Lx ((Sq BA) × Int) (Bool))
  | 0, _, _, _ => none
  | m + 1, l1, i1, k0 => r4_plain_B1 n l1 i1 k0 (fun l1 i1 k0 => r4_plain_L1 n m l1 i1 k0) (fun a => some (.out a)) (fun a => some (.ret a)) (fun p => some (.pan p))
def r4_plain_L1_sp : List Sl := .top :: .top :: .top :: .dat (.sl .str) :: .dat (.int .i64) :: .dat (.int .i64) :: tp 50 []
def r4_plain_L1_rp : List RS := []
def r4_plain_L1_out_sp : List Sl := .top :: .top :: .top :: .dat (.sl .str) :: .dat (.int .i64) :: tp 51 []
def r4_plain_L1_out_rp : List RS := []
def r4_plain_L1_ret_sp : List Sl := .top :: .top :: .dat .bool :: tp 53 []
def r4_plain_L1_ret_rp : List RS := []
def r4_plain_L1_K (K : XE → List AV → AHeap → Option Out) : Lx ((Sq BA) × Int) (Bool) → Option Out := fun x => onL x (fun a => layK r4_plain_L1_out_sp r4_plain_L1_out_rp (a.1, (a.2, ())) () (K (.exit 2))) (fun a => layK r4_plain_L1_ret_sp r4_plain_L1_ret_rp (a, ()) () (K .ret)) (fun _ => none)
def r4_plain_B0 (n : Nat) {R : Type} (l : (Sq BA)) (i : Int) (kn : (Sq BA) → Int → Option R) (ko : (Unit) → Option R) (kr : (Bool) → Option R) (kp : Int → Option R) : Option R :=
 if (decide (i < (l.n : Int))) = true then
  if 0 ≤ i ∧ i < (l.n : Int) then
   if ((l.at' (Int.toNat i)).toList == (⟨#[]⟩ : BA).toList) = true then
    kr false
   else
    (r4_plain_L1 n n l i (0 : Int)).bind fun x_1 => onL x_1
     (fun a_2 =>
      kn a_2.1 (IntKind.wrap .i64 (a_2.2 + (1 : Int))))
     (fun a_3 =>
      kr a_3)
     (fun _ => none)
  else
   none
 else
  ko ()
theorem r4_plain_B0_N (n : Nat) {R S : Type} (l : (Sq BA)) (i : Int) (kn : (Sq BA) → Int → Option R) (ko : (Unit) → Option R) (kr : (Bool) → Option R) (kp : Int → Option R) (φ : R → Option S) : r4_plain_B0 n l i (fun l i => (kn l i).bind φ) (fun a => (ko a).bind φ) (fun a => (kr a).bind φ) (fun a => (kp a).bind φ) = (r4_plain_B0 n l i kn ko kr kp).bind φ := by
  unfold r4_plain_B0
  first | (simp only [dup_self, both_self, iB, bB, oL, oX, nB]) | rfl
def r4_plain_L0 (n : Nat) : Nat → (Sq BA) → Int → Option (Lx (Unit) (Bool))
  | 0, _, _ => none
  | m + 1, l, i => r4_plain_B0 n l i (fun l i => r4_plain_L0 n m l i) (fun a => some (.out a)) (fun a => some (.ret a)) (fun p => some (.pan p))
def r4_plain_L0_sp : List Sl := .top :: .top :: .top :: .dat (.sl .str) :: .dat (.int .i64) :: tp 51 []
def r4_plain_L0_rp : List RS := []
def r4_plain_L0_out_sp : List Sl := tp 56 []
def r4_plain_L0_out_rp : List RS := []
def r4_plain_L0_ret_sp : List Sl := .top :: .top :: .dat .bool :: tp 53 []
def r4_plain_L0_ret_rp : List RS := []
def r4_plain_L0_K (K : XE → List AV → AHeap → Option Out) : Lx (Unit) (Bool) → Option Out := fun x => onL x (fun a => layK r4_plain_L0_out_sp r4_plain_L0_out_rp () () (K (.exit 0))) (fun a => layK r4_plain_L0_ret_sp r4_plain_L0_ret_rp (a, ()) () (K .ret)) (fun _ => none)
def r4_plain_B (n : Nat) {R : Type} (s : BA) (k : Bool → Option R) : Option R :=
 (r0_Split n s (46 : Int)).bind fun v =>
 (r4_plain_L0 n n v (0 : Int)).bind fun x_1 => onL x_1
  (fun a_2 =>
   k true)
  (fun a_3 =>
   k a_3)
  (fun _ => none)
def r4_plain (n : Nat) (s : BA) : Option Bool := r4_plain_B n s some
theorem r4_plain_N (n : Nat) {R S : Type} (s : BA) (k : Bool → Option R) (φ : R → Option S) : r4_plain_B n s (fun a => (k a).bind φ) = (r4_plain_B n s k).bind φ := by
  unfold r4_plain_B
  first | (simp only [dup_self, both_self, iB, bB, oL, oX, nB]) | rfl
def r4_plain_hint (n : Nat) : Hint Out := { live := fun c => (cond (Nat.beq c 0) [(3, some (.sl .str)), (4, none)] (cond (Nat.beq c 2) [(3, some (.sl .str)), (4, none), (5, none)] [])), run := fun c => (cond (Nat.beq c 0) (some (runL r4_plain_L0_sp r4_plain_L0_rp fun σ ρ K => (r4_plain_L0 n n σ.1 σ.2.1).bind (r4_plain_L0_K K))) (cond (Nat.beq c 2) (some (runL r4_plain_L1_sp r4_plain_L1_rp fun σ ρ K => (r4_plain_L1 n n σ.1 σ.2.1 σ.2.2.1).bind (r4_plain_L1_K K))) none)), xm := fun c q => (cond (Nat.beq c 0 && Nat.beq (q.getD 1000000) 0 && q.isSome) (some []) (cond (Nat.beq c 2 && Nat.beq (q.getD 1000000) 2 && q.isSome) (some [(3, some (.sl .str)), (4, none)]) (cond (Nat.beq c 3 && q.isNone) (some [(2, none)]) (cond (Nat.beq c 1 && q.isNone) (some [(2, none)]) none)))) }
def r4_plain_L1_I (n : Nat) (K : XE → List AV → AHeap → Option Out) (m : Nat) (l1 : (Sq BA)) (i1 : Int) (k0 : Int) : Option Out := loopI tys (callees Out (r4_sign_es n)) (r4_plain_hint n) n (codeAt [1, 1, 0, 1, 0, 0, 1, 0, 0, 1, 1, 0, 0] (bodyOf Tryz.f66)) 2 r4_plain_L1_sp r4_plain_L1_rp K m (l1, (i1, (k0, ()))) ()
theorem r4_plain_L1_E (n : Nat) (K : XE → List AV → AHeap → Option Out) : ∀ (m : Nat) (l1 : (Sq BA)) (i1 : Int) (k0 : Int), r4_plain_L1_I n K m l1 i1 k0 = (r4_plain_L1 n m l1 i1 k0).bind (r4_plain_L1_K K)
  | 0, l1, i1, k0 => by kernel_rfl
  | m + 1, l1, i1, k0 => by
    have h1 : r4_plain_L1_I n K (m + 1) l1 i1 k0 = r4_plain_B1 n l1 i1 k0 (fun l1 i1 k0 => r4_plain_L1_I n K m l1 i1 k0) (fun a => r4_plain_L1_K K (.out a)) (fun a => r4_plain_L1_K K (.ret a)) (fun p => r4_plain_L1_K K (.pan p)) := by kernel_rfl
    have h2 : (fun l1 i1 k0 => r4_plain_L1_I n K m l1 i1 k0) = (fun l1 i1 k0 => (r4_plain_L1 n m l1 i1 k0).bind (r4_plain_L1_K K)) := funext fun l1 => funext fun i1 => funext fun k0 => r4_plain_L1_E n K m l1 i1 k0
    exact h1.trans ((congrArg (fun z => r4_plain_B1 n l1 i1 k0 z (fun a => r4_plain_L1_K K (.out a)) (fun a => r4_plain_L1_K K (.ret a)) (fun p => r4_plain_L1_K K (.pan p))) h2).trans (r4_plain_B1_N n l1 i1 k0 (fun l1 i1 k0 => r4_plain_L1 n m l1 i1 k0) (fun a => some (.out a)) (fun a => some (.ret a)) (fun p => some (.pan p)) (r4_plain_L1_K K)))
theorem r4_plain_L1_ok (n : Nat) : RunOk tys (callees Out (r4_sign_es n)) (r4_plain_hint n) n (codeAt [1, 1, 0, 1, 0, 0, 1, 0, 0, 1, 1, 0, 0] (bodyOf Tryz.f66)) 2 := runOk_of (sp := r4_plain_L1_sp) (rp := r4_plain_L1_rp) (F := fun σ ρ K => (r4_plain_L1 n n σ.1 σ.2.1 σ.2.2.1).bind (r4_plain_L1_K K)) (by kernel_rfl) fun K σ ρ => r4_plain_L1_E n K n σ.1 σ.2.1 σ.2.2.1
def r4_plain_L0_I (n : Nat) (K : XE → List AV → AHeap → Option Out) (m : Nat) (l : (Sq BA)) (i : Int) : Option Out := loopI tys (callees Out (r4_sign_es n)) (r4_plain_hint n) n (codeAt [1, 1, 0, 1, 0, 0] (bodyOf Tryz.f66)) 0 r4_plain_L0_sp r4_plain_L0_rp K m (l, (i, ())) ()
theorem r4_plain_L0_E (n : Nat) (K : XE → List AV → AHeap → Option Out) : ∀ (m : Nat) (l : (Sq BA)) (i : Int), r4_plain_L0_I n K m l i = (r4_plain_L0 n m l i).bind (r4_plain_L0_K K)
  | 0, l, i => by kernel_rfl
  | m + 1, l, i => by
    have h1 : r4_plain_L0_I n K (m + 1) l i = r4_plain_B0 n l i (fun l i => r4_plain_L0_I n K m l i) (fun a => r4_plain_L0_K K (.out a)) (fun a => r4_plain_L0_K K (.ret a)) (fun p => r4_plain_L0_K K (.pan p)) := by kernel_rfl
    have h2 : (fun l i => r4_plain_L0_I n K m l i) = (fun l i => (r4_plain_L0 n m l i).bind (r4_plain_L0_K K)) := funext fun l => funext fun i => r4_plain_L0_E n K m l i
    exact h1.trans ((congrArg (fun z => r4_plain_B0 n l i z (fun a => r4_plain_L0_K K (.out a)) (fun a => r4_plain_L0_K K (.ret a)) (fun p => r4_plain_L0_K K (.pan p))) h2).trans (r4_plain_B0_N n l i (fun l i => r4_plain_L0 n m l i) (fun a => some (.out a)) (fun a => some (.ret a)) (fun p => some (.pan p)) (r4_plain_L0_K K)))
theorem r4_plain_L0_ok (n : Nat) : RunOk tys (callees Out (r4_sign_es n)) (r4_plain_hint n) n (codeAt [1, 1, 0, 1, 0, 0] (bodyOf Tryz.f66)) 0 := runOk_of (sp := r4_plain_L0_sp) (rp := r4_plain_L0_rp) (F := fun σ ρ K => (r4_plain_L0 n n σ.1 σ.2.1).bind (r4_plain_L0_K K)) (by kernel_rfl) fun K σ ρ => r4_plain_L0_E n K n σ.1 σ.2.1
theorem r4_plain_runs (n : Nat) : RunsOk tys (callees Out (r4_sign_es n)) (r4_plain_hint n) n (bodyOf Tryz.f66) 0 := ⟨trivial, ⟨trivial, ⟨⟨trivial, ⟨r4_plain_L0_ok n, ⟨⟨trivial, ⟨trivial, trivial⟩⟩, ⟨⟨⟨trivial, ⟨⟨trivial, trivial⟩, trivial⟩⟩, ⟨trivial, ⟨r4_plain_L1_ok n, ⟨⟨trivial, ⟨trivial, trivial⟩⟩, ⟨⟨trivial, ⟨⟨trivial, trivial⟩, trivial⟩⟩, trivial⟩⟩⟩⟩⟩, trivial⟩⟩⟩⟩, ⟨trivial, trivial⟩⟩⟩⟩
theorem r4_plain_at : Tryz.prog.funcs[66]? = some Tryz.f66 := by kernel_rfl
theorem r4_plain_ent (n : Nat) : Enters Tryz.prog 66 := enters_of (c := bodyOf Tryz.f66) r4_plain_at (by kernel_rfl) (by kernel_rfl)
theorem r4_plain_E (n : Nat) (s : BA) : fnA tys (callees Out (r4_sign_es n)) (r4_plain_hint n) n Tryz.f66 (encL (.pair .str .unit) (s, ())) [] (soloA fun v => some (.ret v)) (soloA fun v => some (.pan v)) = r4_plain_B n s (fun y => some (.ret (encR (.one .bool) y))) := by kernel_rfl
def r4_plain_en (n : Nat) : Entry := ⟨66, pcT (.pair .str .unit) (.one .bool) (fun xs => r4_plain n xs.1), none, none⟩
theorem r4_plain_ok (n : Nat) : EntryOk Tryz.prog gl (r4_plain_en n) :=
  pcT_ok (r4_plain_ent n) fun xs y h => ans_of_fn tys_ok (r4_sign_es_ok n) mixed (hint := r4_plain_hint n) (n := n) (fn := Tryz.f66) r4_plain_at (runsC (r4_plain_runs n)) (run_ret (φ := (fun y => some (Out.ret (encR (.one .bool) y)))) ((r4_plain_E n xs.1).trans (r4_plain_N (R := Bool) (S := Out) n xs.1 some (fun y => some (Out.ret (encR (.one .bool) y))))) h)
def r4_plain_es (n : Nat) : List Entry := r4_plain_en n :: r4_sign_es n
theorem r4_plain_es_ok (n : Nat) : AllOk Tryz.prog gl (r4_plain_es n) := .cons (r4_plain_ok n) (r4_sign_es_ok n)
/- pouch/pouchref4.Local -/
def r4_Local_B (n : Nat) {R : Type} (s : BA) (k : Bool → Option R) : Option R :=
 if (decide ((s.size : Int) < (1 : Int))) = false then
  if (decide ((s.size : Int) > (64 : Int))) = true then
   k false
  else
   if 0 ≤ (0 : Int) ∧ (0 : Int) < (s.size : Int) then
    if ((bt s (0 : Int)) != (34 : Int)) = true then
     (r4_plain n s).bind fun v =>
     k v
    else
     (r4_inner n s).bind fun v1 =>
     if v1.2.2.1 = true then
      if (v1.2.1 == (s.size : Int)) = true then
       (r4_plain n v1.1).bind fun v2 =>
       if (!v2) = true then
        (r4_quote n v1.1).bind fun v3 =>
        k (v3.toList == s.toList)
       else
        k false
      else
       k false
     else
      k false
   else
    none
 else
  k false
def r4_Local (n : Nat) (s : BA) : Option Bool := r4_Local_B n s some
theorem r4_Local_N (n : Nat) {R S : Type} (s : BA) (k : Bool → Option R) (φ : R → Option S) : r4_Local_B n s (fun a => (k a).bind φ) = (r4_Local_B n s k).bind φ := by
  unfold r4_Local_B
  first | (simp only [dup_self, both_self, iB, bB, oL, oX, nB]) | rfl
def r4_Local_hint (n : Nat) : Hint Out := { live := fun c => [], run := fun c => none, xm := fun c q => none }
theorem r4_Local_runs (n : Nat) : RunsOk tys (callees Out (r4_plain_es n)) (r4_Local_hint n) n (bodyOf Tryz.f56) 0 := runs_noloop (fun _ => rfl) _ _ (by kernel_rfl)
theorem r4_Local_at : Tryz.prog.funcs[56]? = some Tryz.f56 := by kernel_rfl
theorem r4_Local_ent (n : Nat) : Enters Tryz.prog 56 := enters_of (c := bodyOf Tryz.f56) r4_Local_at (by kernel_rfl) (by kernel_rfl)
theorem r4_Local_E (n : Nat) (s : BA) : fnA tys (callees Out (r4_plain_es n)) (r4_Local_hint n) n Tryz.f56 (encL (.pair .str .unit) (s, ())) [] (soloA fun v => some (.ret v)) (soloA fun v => some (.pan v)) = r4_Local_B n s (fun y => some (.ret (encR (.one .bool) y))) := by kernel_rfl
def r4_Local_en (n : Nat) : Entry := ⟨56, pcT (.pair .str .unit) (.one .bool) (fun xs => r4_Local n xs.1), none, none⟩
theorem r4_Local_ok (n : Nat) : EntryOk Tryz.prog gl (r4_Local_en n) :=
  pcT_ok (r4_Local_ent n) fun xs y h => ans_of_fn tys_ok (r4_plain_es_ok n) mixed (hint := r4_Local_hint n) (n := n) (fn := Tryz.f56) r4_Local_at (runsC (r4_Local_runs n)) (run_ret (φ := (fun y => some (Out.ret (encR (.one .bool) y)))) ((r4_Local_E n xs.1).trans (r4_Local_N (R := Bool) (S := Out) n xs.1 some (fun y => some (Out.ret (encR (.one .bool) y))))) h)
def r4_Local_es (n : Nat) : List Entry := r4_Local_en n :: r4_plain_es n
theorem r4_Local_es_ok (n : Nat) : AllOk Tryz.prog gl (r4_Local_es n) := .cons (r4_Local_ok n) (r4_plain_es_ok n)
/- pouch/pouchref0.Value -/
def r0_Value_B0 (n : Nat) {R : Type} (s1 : BA) (n0 : Int) (i : Int) (kn : BA → Int → Int → Option R) (ko : (Int) → Option R) (kr : (Int × Bool) → Option R) (kp : Int → Option R) : Option R :=
 if (decide (i < (s1.size : Int))) = true then
  if 0 ≤ i ∧ i < (s1.size : Int) then
   if (decide ((bt s1 i) < (48 : Int))) = false then
    if 0 ≤ i ∧ i < (s1.size : Int) then
     if (decide ((bt s1 i) > (57 : Int))) = true then
      kr ((0 : Int), false)
     else
      if 0 ≤ i ∧ i < (s1.size : Int) then
       kn s1 (IntKind.wrap .i64 ((IntKind.wrap .i64 ((10 : Int) * n0)) + (IntKind.wrap .i64 (IntKind.wrap .u8 ((bt s1 i) - (48 : Int)))))) (IntKind.wrap .i64 (i + (1 : Int)))
      else
       none
    else
     none
   else
    kr ((0 : Int), false)
  else
   none
 else
  ko n0
theorem r0_Value_B0_N (n : Nat) {R S : Type} (s1 : BA) (n0 : Int) (i : Int) (kn : BA → Int → Int → Option R) (ko : (Int) → Option R) (kr : (Int × Bool) → Option R) (kp : Int → Option R) (φ : R → Option S) : r0_Value_B0 n s1 n0 i (fun s1 n0 i => (kn s1 n0 i).bind φ) (fun a => (ko a).bind φ) (fun a => (kr a).bind φ) (fun a => (kp a).bind φ) = (r0_Value_B0 n s1 n0 i kn ko kr kp).bind φ := by
  unfold r0_Value_B0
  first | (simp only [dup_self, both_self, iB, bB, oL, oX, nB]) | rfl
def r0_Value_L0 (n : Nat) : Nat → BA → Int → Int → Option (Lx (Int) (Int × Bool))
  | 0, _, _, _ => none
  | m + 1, s1, n0, i => r0_Value_B0 n s1 n0 i (fun s1 n0 i => r0_Value_L0 n m s1 n0 i) (fun a => some (.out a)) (fun a => some (.ret a)) (fun p => some (.pan p))
def r0_Value_L0_sp : List Sl := .dat .str :: .top :: .top :: .top :: .dat (.int .i64) :: .dat (.int .i64) :: tp 42 []
def r0_Value_L0_rp : List RS := []
def r0_Value_L0_out_sp : List Sl := tp 4 (.dat (.int .i64) :: tp 43 [])
def r0_Value_L0_out_rp : List RS := []
def r0_Value_L0_ret_sp : List Sl := .top :: .top :: .dat (.int .i64) :: .dat .bool :: tp 44 []
def r0_Value_L0_ret_rp : List RS := []
def r0_Value_L0_K (K : XE → List AV → AHeap → Option Out) : Lx (Int) (Int × Bool) → Option Out := fun x => onL x (fun a => layK r0_Value_L0_out_sp r0_Value_L0_out_rp (a, ()) () (K (.exit 0))) (fun a => layK r0_Value_L0_ret_sp r0_Value_L0_ret_rp (a.1, (a.2, ())) () (K .ret)) (fun _ => none)
def r0_Value_B (n : Nat) {R : Type} (s : BA) (k : (Int × Bool × Unit) → Option R) : Option R :=
 if (s.toList == (⟨#[]⟩ : BA).toList) = false then
  if (decide ((s.size : Int) > (16 : Int))) = false then
   if (decide ((s.size : Int) > (1 : Int))) = true then
    if 0 ≤ (0 : Int) ∧ (0 : Int) < (s.size : Int) then
     if ((bt s (0 : Int)) == (48 : Int)) = true then
      k ((0 : Int), (false, ()))
     else
      (r0_Value_L0 n n s (0 : Int) (0 : Int)).bind fun x_1 => onL x_1
       (fun a_2 =>
        k (a_2, (true, ())))
       (fun a_3 =>
        k (a_3.1, (a_3.2, ())))
       (fun _ => none)
    else
     none
   else
    (r0_Value_L0 n n s (0 : Int) (0 : Int)).bind fun x_4 => onL x_4
     (fun a_5 =>
      k (a_5, (true, ())))
     (fun a_6 =>
      k (a_6.1, (a_6.2, ())))
     (fun _ => none)
  else
   k ((0 : Int), (false, ()))
 else
  k ((0 : Int), (false, ()))
def r0_Value (n : Nat) (s : BA) : Option (Int × Bool × Unit) := r0_Value_B n s some
theorem r0_Value_N (n : Nat) {R S : Type} (s : BA) (k : (Int × Bool × Unit) → Option R) (φ : R → Option S) : r0_Value_B n s (fun a => (k a).bind φ) = (r0_Value_B n s k).bind φ := by
  unfold r0_Value_B
  first | (simp only [dup_self, both_self, iB, bB, oL, oX, nB]) | rfl
def r0_Value_hint (n : Nat) : Hint Out := { live := fun c => (cond (Nat.beq c 0) (lv [0, 4, 5]) []), run := fun c => (cond (Nat.beq c 0) (some (runL r0_Value_L0_sp r0_Value_L0_rp fun σ ρ K => (r0_Value_L0 n n σ.1 σ.2.1 σ.2.2.1).bind (r0_Value_L0_K K))) none), xm := fun c q => (cond (Nat.beq c 0 && Nat.beq (q.getD 1000000) 0 && q.isSome) (some [(4, none)]) (cond (Nat.beq c 1 && q.isNone) (some [(2, none), (3, none)]) none)) }
def r0_Value_L0_I (n : Nat) (K : XE → List AV → AHeap → Option Out) (m : Nat) (s1 : BA) (n0 : Int) (i : Int) : Option Out := loopI tys (callees Out (r4_Local_es n)) (r0_Value_hint n) n (codeAt [1, 1, 1, 0, 1, 0, 0] (bodyOf Tryz.f70)) 0 r0_Value_L0_sp r0_Value_L0_rp K m (s1, (n0, (i, ()))) ()
theorem r0_Value_L0_E (n : Nat) (K : XE → List AV → AHeap → Option Out) : ∀ (m : Nat) (s1 : BA) (n0 : Int) (i : Int), r0_Value_L0_I n K m s1 n0 i = (r0_Value_L0 n m s1 n0 i).bind (r0_Value_L0_K K)
  | 0, s1, n0, i => by kernel_rfl
  | m + 1, s1, n0, i => by
    have h1 : r0_Value_L0_I n K (m + 1) s1 n0 i = r0_Value_B0 n s1 n0 i (fun s1 n0 i => r0_Value_L0_I n K m s1 n0 i) (fun a => r0_Value_L0_K K (.out a)) (fun a => r0_Value_L0_K K (.ret a)) (fun p => r0_Value_L0_K K (.pan p)) := by kernel_rfl
    have h2 : (fun s1 n0 i => r0_Value_L0_I n K m s1 n0 i) = (fun s1 n0 i => (r0_Value_L0 n m s1 n0 i).bind (r0_Value_L0_K K)) := funext fun s1 => funext fun n0 => funext fun i => r0_Value_L0_E n K m s1 n0 i
    exact h1.trans ((congrArg (fun z => r0_Value_B0 n s1 n0 i z (fun a => r0_Value_L0_K K (.out a)) (fun a => r0_Value_L0_K K (.ret a)) (fun p => r0_Value_L0_K K (.pan p))) h2).trans (r0_Value_B0_N n s1 n0 i (fun s1 n0 i => r0_Value_L0 n m s1 n0 i) (fun a => some (.out a)) (fun a => some (.ret a)) (fun p => some (.pan p)) (r0_Value_L0_K K)))
theorem r0_Value_L0_ok (n : Nat) : RunOk tys (callees Out (r4_Local_es n)) (r0_Value_hint n) n (codeAt [1, 1, 1, 0, 1, 0, 0] (bodyOf Tryz.f70)) 0 := runOk_of (sp := r0_Value_L0_sp) (rp := r0_Value_L0_rp) (F := fun σ ρ K => (r0_Value_L0 n n σ.1 σ.2.1 σ.2.2.1).bind (r0_Value_L0_K K)) (by kernel_rfl) fun K σ ρ => r0_Value_L0_E n K n σ.1 σ.2.1 σ.2.2.1
theorem r0_Value_runs (n : Nat) : RunsOk tys (callees Out (r4_Local_es n)) (r0_Value_hint n) n (bodyOf Tryz.f70) 0 := ⟨trivial, ⟨⟨trivial, ⟨⟨trivial, trivial⟩, trivial⟩⟩, ⟨trivial, ⟨⟨trivial, ⟨r0_Value_L0_ok n, ⟨⟨trivial, ⟨trivial, trivial⟩⟩, ⟨⟨⟨trivial, ⟨⟨trivial, trivial⟩, trivial⟩⟩, trivial⟩, trivial⟩⟩⟩⟩, ⟨trivial, trivial⟩⟩⟩⟩⟩
theorem r0_Value_at : Tryz.prog.funcs[70]? = some Tryz.f70 := by kernel_rfl
theorem r0_Value_ent (n : Nat) : Enters Tryz.prog 70 := enters_of (c := bodyOf Tryz.f70) r0_Value_at (by kernel_rfl) (by kernel_rfl)
theorem r0_Value_E (n : Nat) (s : BA) : fnA tys (callees Out (r4_Local_es n)) (r0_Value_hint n) n Tryz.f70 (encL (.pair .str .unit) (s, ())) [] (soloA fun v => some (.ret v)) (soloA fun v => some (.pan v)) = r0_Value_B n s (fun y => some (.ret (encR (.many (.pair (.int .i64) (.pair .bool .unit))) y))) := by kernel_rfl
def r0_Value_en (n : Nat) : Entry := ⟨70, pcT (.pair .str .unit) (.many (.pair (.int .i64) (.pair .bool .unit))) (fun xs => r0_Value n xs.1), none, none⟩
theorem r0_Value_ok (n : Nat) : EntryOk Tryz.prog gl (r0_Value_en n) :=
  pcT_ok (r0_Value_ent n) fun xs y h => ans_of_fn tys_ok (r4_Local_es_ok n) mixed (hint := r0_Value_hint n) (n := n) (fn := Tryz.f70) r0_Value_at (runsC (r0_Value_runs n)) (run_ret (φ := (fun y => some (Out.ret (encR (.many (.pair (.int .i64) (.pair .bool .unit))) y)))) ((r0_Value_E n xs.1).trans (r0_Value_N (R := (Int × Bool × Unit)) (S := Out) n xs.1 some (fun y => some (Out.ret (encR (.many (.pair (.int .i64) (.pair .bool .unit))) y))))) h)
def r0_Value_es (n : Nat) : List Entry := r0_Value_en n :: r4_Local_es n
theorem r0_Value_es_ok (n : Nat) : AllOk Tryz.prog gl (r0_Value_es n) := .cons (r0_Value_ok n) (r4_Local_es_ok n)
/- pouch/pouchref4.Literal -/
def r4_Literal_B0 (n : Nat) {R : Type} (l : (Sq BA)) (i : Int) (kn : (Sq BA) → Int → Option R) (ko : ((Sq BA)) → Option R) (kr : (Bool) → Option R) (kp : Int → Option R) : Option R :=
 if (decide (i < (l.n : Int))) = true then
  if 0 ≤ i ∧ i < (l.n : Int) then
   (r0_Value n (l.at' (Int.toNat i))).bind fun v1 =>
   if (!v1.2.1) = false then
    if (decide (v1.1 > (255 : Int))) = true then
     kr false
    else
     kn l (IntKind.wrap .i64 (i + (1 : Int)))
   else
    kr false
  else
   none
 else
  ko l
theorem r4_Literal_B0_N (n : Nat) {R S : Type} (l : (Sq BA)) (i : Int) (kn : (Sq BA) → Int → Option R) (ko : ((Sq BA)) → Option R) (kr : (Bool) → Option R) (kp : Int → Option R) (φ : R → Option S) : r4_Literal_B0 n l i (fun l i => (kn l i).bind φ) (fun a => (ko a).bind φ) (fun a => (kr a).bind φ) (fun a => (kp a).bind φ) = (r4_Literal_B0 n l i kn ko kr kp).bind φ := by
  unfold r4_Literal_B0
  first | (simp only [dup_self, both_self, iB, bB, oL, oX, nB]) | rfl
def r4_Literal_L0 (n : Nat) : Nat → (Sq BA) → Int → Option (Lx ((Sq BA)) (Bool))
  | 0, _, _ => none
  | m + 1, l, i => r4_Literal_B0 n l i (fun l i => r4_Literal_L0 n m l i) (fun a => some (.out a)) (fun a => some (.ret a)) (fun p => some (.pan p))
def r4_Literal_L0_sp : List Sl := .top :: .top :: .top :: .dat (.sl .str) :: .dat (.int .i64) :: tp 47 []
def r4_Literal_L0_rp : List RS := []
def r4_Literal_L0_out_sp : List Sl := .top :: .top :: .top :: .dat (.sl .str) :: tp 48 []
def r4_Literal_L0_out_rp : List RS := []
def r4_Literal_L0_ret_sp : List Sl := .top :: .top :: .dat .bool :: tp 49 []
def r4_Literal_L0_ret_rp : List RS := []
def r4_Literal_L0_K (K : XE → List AV → AHeap → Option Out) : Lx ((Sq BA)) (Bool) → Option Out := fun x => onL x (fun a => layK r4_Literal_L0_out_sp r4_Literal_L0_out_rp (a, ()) () (K (.exit 0))) (fun a => layK r4_Literal_L0_ret_sp r4_Literal_L0_ret_rp (a, ()) () (K .ret)) (fun _ => none)
def r4_Literal_B (n : Nat) {R : Type} (s : BA) (k : Bool → Option R) : Option R :=
 if (decide ((s.size : Int) < (2 : Int))) = false then
  if 0 ≤ (0 : Int) ∧ (0 : Int) < (s.size : Int) then
   if ((bt s (0 : Int)) != (91 : Int)) = false then
    if 0 ≤ (IntKind.wrap .i64 ((s.size : Int) - (1 : Int))) ∧ (IntKind.wrap .i64 ((s.size : Int) - (1 : Int))) < (s.size : Int) then
     if ((bt s (IntKind.wrap .i64 ((s.size : Int) - (1 : Int)))) != (93 : Int)) = true then
      k false
     else
      if 0 ≤ (IntKind.wrap .i64 ((s.size : Int) - (1 : Int))) ∧ (IntKind.wrap .i64 ((s.size : Int) - (1 : Int))) ≤ (s.size : Int) then
       if 0 ≤ (1 : Int) ∧ (1 : Int) ≤ (IntKind.wrap .i64 ((s.size : Int) - (1 : Int))) then
        (r0_Split n (s.extract (Int.toNat (1 : Int)) (Int.toNat (IntKind.wrap .i64 ((s.size : Int) - (1 : Int))))) (46 : Int)).bind fun v =>
        (r4_Literal_L0 n n v (0 : Int)).bind fun x_1 => onL x_1
         (fun a_2 =>
          k ((a_2.n : Int) == (4 : Int)))
         (fun a_3 =>
          k a_3)
         (fun _ => none)
       else
        none
      else
       none
    else
     none
   else
    k false
  else
   none
 else
  k false
def r4_Literal (n : Nat) (s : BA) : Option Bool := r4_Literal_B n s some
theorem r4_Literal_N (n : Nat) {R S : Type} (s : BA) (k : Bool → Option R) (φ : R → Option S) : r4_Literal_B n s (fun a => (k a).bind φ) = (r4_Literal_B n s k).bind φ := by
  unfold r4_Literal_B
  first | (simp only [dup_self, both_self, iB, bB, oL, oX, nB]) | rfl
def r4_Literal_hint (n : Nat) : Hint Out := { live := fun c => (cond (Nat.beq c 0) [(3, some (.sl .str)), (4, none)] []), run := fun c => (cond (Nat.beq c 0) (some (runL r4_Literal_L0_sp r4_Literal_L0_rp fun σ ρ K => (r4_Literal_L0 n n σ.1 σ.2.1).bind (r4_Literal_L0_K K))) none), xm := fun c q => (cond (Nat.beq c 0 && Nat.beq (q.getD 1000000) 0 && q.isSome) (some [(3, some (.sl .str))]) (cond (Nat.beq c 1 && q.isNone) (some [(2, none)]) none)) }
def r4_Literal_L0_I (n : Nat) (K : XE → List AV → AHeap → Option Out) (m : Nat) (l : (Sq BA)) (i : Int) : Option Out := loopI tys (callees Out (r0_Value_es n)) (r4_Literal_hint n) n (codeAt [1, 1, 1, 0, 1, 0, 0] (bodyOf Tryz.f54)) 0 r4_Literal_L0_sp r4_Literal_L0_rp K m (l, (i, ())) ()
theorem r4_Literal_L0_E (n : Nat) (K : XE → List AV → AHeap → Option Out) : ∀ (m : Nat) (l : (Sq BA)) (i : Int), r4_Literal_L0_I n K m l i = (r4_Literal_L0 n m l i).bind (r4_Literal_L0_K K)
  | 0, l, i => by kernel_rfl
  | m + 1, l, i => by
    have h1 : r4_Literal_L0_I n K (m + 1) l i = r4_Literal_B0 n l i (fun l i => r4_Literal_L0_I n K m l i) (fun a => r4_Literal_L0_K K (.out a)) (fun a => r4_Literal_L0_K K (.ret a)) (fun p => r4_Literal_L0_K K (.pan p)) := by kernel_rfl
    have h2 : (fun l i => r4_Literal_L0_I n K m l i) = (fun l i => (r4_Literal_L0 n m l i).bind (r4_Literal_L0_K K)) := funext fun l => funext fun i => r4_Literal_L0_E n K m l i
    exact h1.trans ((congrArg (fun z => r4_Literal_B0 n l i z (fun a => r4_Literal_L0_K K (.out a)) (fun a => r4_Literal_L0_K K (.ret a)) (fun p => r4_Literal_L0_K K (.pan p))) h2).trans (r4_Literal_B0_N n l i (fun l i => r4_Literal_L0 n m l i) (fun a => some (.out a)) (fun a => some (.ret a)) (fun p => some (.pan p)) (r4_Literal_L0_K K)))
theorem r4_Literal_L0_ok (n : Nat) : RunOk tys (callees Out (r0_Value_es n)) (r4_Literal_hint n) n (codeAt [1, 1, 1, 0, 1, 0, 0] (bodyOf Tryz.f54)) 0 := runOk_of (sp := r4_Literal_L0_sp) (rp := r4_Literal_L0_rp) (F := fun σ ρ K => (r4_Literal_L0 n n σ.1 σ.2.1).bind (r4_Literal_L0_K K)) (by kernel_rfl) fun K σ ρ => r4_Literal_L0_E n K n σ.1 σ.2.1
theorem r4_Literal_runs (n : Nat) : RunsOk tys (callees Out (r0_Value_es n)) (r4_Literal_hint n) n (bodyOf Tryz.f54) 0 := ⟨trivial, ⟨⟨trivial, ⟨⟨trivial, trivial⟩, trivial⟩⟩, ⟨trivial, ⟨⟨trivial, ⟨r4_Literal_L0_ok n, ⟨⟨trivial, ⟨trivial, trivial⟩⟩, ⟨⟨trivial, ⟨trivial, ⟨⟨trivial, trivial⟩, trivial⟩⟩⟩, trivial⟩⟩⟩⟩, ⟨trivial, trivial⟩⟩⟩⟩⟩
theorem r4_Literal_at : Tryz.prog.funcs[54]? = some Tryz.f54 := by kernel_rfl
theorem r4_Literal_ent (n : Nat) : Enters Tryz.prog 54 := enters_of (c := bodyOf Tryz.f54) r4_Literal_at (by kernel_rfl) (by kernel_rfl)
theorem r4_Literal_E (n : Nat) (s : BA) : fnA tys (callees Out (r0_Value_es n)) (r4_Literal_hint n) n Tryz.f54 (encL (.pair .str .unit) (s, ())) [] (soloA fun v => some (.ret v)) (soloA fun v => some (.pan v)) = r4_Literal_B n s (fun y => some (.ret (encR (.one .bool) y))) := by kernel_rfl
def r4_Literal_en (n : Nat) : Entry := ⟨54, pcT (.pair .str .unit) (.one .bool) (fun xs => r4_Literal n xs.1), none, none⟩
theorem r4_Literal_ok (n : Nat) : EntryOk Tryz.prog gl (r4_Literal_en n) :=
  pcT_ok (r4_Literal_ent n) fun xs y h => ans_of_fn tys_ok (r0_Value_es_ok n) mixed (hint := r4_Literal_hint n) (n := n) (fn := Tryz.f54) r4_Literal_at (runsC (r4_Literal_runs n)) (run_ret (φ := (fun y => some (Out.ret (encR (.one .bool) y)))) ((r4_Literal_E n xs.1).trans (r4_Literal_N (R := Bool) (S := Out) n xs.1 some (fun y => some (Out.ret (encR (.one .bool) y))))) h)
def r4_Literal_es (n : Nat) : List Entry := r4_Literal_en n :: r0_Value_es n
theorem r4_Literal_es_ok (n : Nat) : AllOk Tryz.prog gl (r4_Literal_es n) := .cons (r4_Literal_ok n) (r0_Value_es_ok n)
/- pouch/pouchref4.Domain -/
def r4_Domain_B1 (n : Nat) {R : Type} (l1 : (Sq BA)) (i1 : Int) (w : BA) (k0 : Int) (kn : (Sq BA) → Int → BA → Int → Option R) (ko : ((Sq BA) × Int) → Option R) (kr : (Bool) → Option R) (kp : Int → Option R) : Option R :=
 if (decide (k0 < (w.size : Int))) = true then
  if 0 ≤ k0 ∧ k0 < (w.size : Int) then
   if (decide ((bt w k0) ≥ (97 : Int))) = true then
    if 0 ≤ k0 ∧ k0 < (w.size : Int) then
     if (!(decide ((bt w k0) ≤ (122 : Int)))) = true then
      if 0 ≤ k0 ∧ k0 < (w.size : Int) then
       (r4_digit n (bt w k0)).bind fun v2 =>
       if (!v2) = true then
        if 0 ≤ k0 ∧ k0 < (w.size : Int) then
         if ((bt w k0) != (45 : Int)) = true then
          kr false
         else
          kn l1 i1 w (IntKind.wrap .i64 (k0 + (1 : Int)))
        else
         none
       else
        kn l1 i1 w (IntKind.wrap .i64 (k0 + (1 : Int)))
      else
       none
     else
      kn l1 i1 w (IntKind.wrap .i64 (k0 + (1 : Int)))
    else
     none
   else
    if 0 ≤ k0 ∧ k0 < (w.size : Int) then
     (r4_digit n (bt w k0)).bind fun v3 =>
     if (!v3) = true then
      if 0 ≤ k0 ∧ k0 < (w.size : Int) then
       if ((bt w k0) != (45 : Int)) = true then
        kr false
       else
        kn l1 i1 w (IntKind.wrap .i64 (k0 + (1 : Int)))
      else
       none
     else
      kn l1 i1 w (IntKind.wrap .i64 (k0 + (1 : Int)))
    else
     none
  else
   none
 else
  ko (l1, i1)
theorem r4_Domain_B1_N (n : Nat) {R S : Type} (l1 : (Sq BA)) (i1 : Int) (w : BA) (k0 : Int) (kn : (Sq BA) → Int → BA → Int → Option R) (ko : ((Sq BA) × Int) → Option R) (kr : (Bool) → Option R) (kp : Int → Option R) (φ : R → Option S) : r4_Domain_B1 n l1 i1 w k0 (fun l1 i1 w k0 => (kn l1 i1 w k0).bind φ) (fun a => (ko a).bind φ) (fun a => (kr a).bind φ) (fun a => (kp a).bind φ) = (r4_Domain_B1 n l1 i1 w k0 kn ko kr kp).bind φ := by
  unfold r4_Domain_B1
  first | (simp only [dup_self, both_self, iB, bB, oL, oX, nB]) | rfl
def r4_Domain_L1 (n : Nat) : Nat → (Sq BA) → Int → BA → Int → Option (Lx ((Sq BA) × Int) (Bool))
  | 0, _, _, _, _ => none
  | m + 1, l1, i1, w, k0 => r4_Domain_B1 n l1 i1 w k0 (fun l1 i1 w k0 => r4_Domain_L1 n m l1 i1 w k0) (fun a => some (.out a)) (fun a => some (.ret a)) (fun p => some (.pan p))
def r4_Domain_L1_sp : List Sl := .top :: .top :: .top :: .dat (.sl .str) :: .dat (.int .i64) :: .dat .str :: .dat (.int .i64) :: tp 68 []
def r4_Domain_L1_rp : List RS := []
def r4_Domain_L1_out_sp : List Sl := .top :: .top :: .top :: .dat (.sl .str) :: .dat (.int .i64) :: tp 70 []
def r4_Domain_L1_out_rp : List RS := []
def r4_Domain_L1_ret_sp : List Sl := .top :: .top :: .dat .bool :: tp 72 []
def r4_Domain_L1_ret_rp : List RS := []
def r4_Domain_L1_K (K : XE → List AV → AHeap → Option Out) : Lx ((Sq BA) × Int) (Bool) → Option Out := fun x => onL x (fun a => layK r4_Domain_L1_out_sp r4_Domain_L1_out_rp (a.1, (a.2, ())) () (K (.exit 2))) (fun a => layK r4_Domain_L1_ret_sp r4_Domain_L1_ret_rp (a, ()) () (K .ret)) (fun _ => none)
def r4_Domain_B0 (n : Nat) {R : Type} (l : (Sq BA)) (i : Int) (kn : (Sq BA) → Int → Option R) (ko : (Unit) → Option R) (kr : (Bool) → Option R) (kp : Int → Option R) : Option R :=
 if (decide (i < (l.n : Int))) = true then
  if 0 ≤ i ∧ i < (l.n : Int) then
   if (decide (((l.at' (Int.toNat i)).size : Int) < (1 : Int))) = false then
    if (decide (((l.at' (Int.toNat i)).size : Int) > (63 : Int))) = false then
     if 0 ≤ (0 : Int) ∧ (0 : Int) < ((l.at' (Int.toNat i)).size : Int) then
      if ((bt (l.at' (Int.toNat i)) (0 : Int)) == (45 : Int)) = false then
       if 0 ≤ (IntKind.wrap .i64 (((l.at' (Int.toNat i)).size : Int) - (1 : Int))) ∧ (IntKind.wrap .i64 (((l.at' (Int.toNat i)).size : Int) - (1 : Int))) < ((l.at' (Int.toNat i)).size : Int) then
        if ((bt (l.at' (Int.toNat i)) (IntKind.wrap .i64 (((l.at' (Int.toNat i)).size : Int) - (1 : Int)))) == (45 : Int)) = true then
         kr false
        else
         (r4_Domain_L1 n n l i (l.at' (Int.toNat i)) (0 : Int)).bind fun x_1 => onL x_1
          (fun a_2 =>
           kn a_2.1 (IntKind.wrap .i64 (a_2.2 + (1 : Int))))
          (fun a_3 =>
           kr a_3)
          (fun _ => none)
       else
        none
      else
       kr false
     else
      none
    else
     kr false
   else
    kr false
  else
   none
 else
  ko ()
theorem r4_Domain_B0_N (n : Nat) {R S : Type} (l : (Sq BA)) (i : Int) (kn : (Sq BA) → Int → Option R) (ko : (Unit) → Option R) (kr : (Bool) → Option R) (kp : Int → Option R) (φ : R → Option S) : r4_Domain_B0 n l i (fun l i => (kn l i).bind φ) (fun a => (ko a).bind φ) (fun a => (kr a).bind φ) (fun a => (kp a).bind φ) = (r4_Domain_B0 n l i kn ko kr kp).bind φ := by
  unfold r4_Domain_B0
  first | (simp only [dup_self, both_self, iB, bB, oL, oX, nB]) | rfl
def r4_Domain_L0 (n : Nat) : Nat → (Sq BA) → Int → Option (Lx (Unit) (Bool))
  | 0, _, _ => none
  | m + 1, l, i => r4_Domain_B0 n l i (fun l i => r4_Domain_L0 n m l i) (fun a => some (.out a)) (fun a => some (.ret a)) (fun p => some (.pan p))
def r4_Domain_L0_sp : List Sl := .top :: .top :: .top :: .dat (.sl .str) :: .dat (.int .i64) :: tp 70 []
def r4_Domain_L0_rp : List RS := []
def r4_Domain_L0_out_sp : List Sl := tp 75 []
def r4_Domain_L0_out_rp : List RS := []
def r4_Domain_L0_ret_sp : List Sl := .top :: .top :: .dat .bool :: tp 72 []
def r4_Domain_L0_ret_rp : List RS := []
def r4_Domain_L0_K (K : XE → List AV → AHeap → Option Out) : Lx (Unit) (Bool) → Option Out := fun x => onL x (fun a => layK r4_Domain_L0_out_sp r4_Domain_L0_out_rp () () (K (.exit 0))) (fun a => layK r4_Domain_L0_ret_sp r4_Domain_L0_ret_rp (a, ()) () (K .ret)) (fun _ => none)
def r4_Domain_B (n : Nat) {R : Type} (s : BA) (k : Bool → Option R) : Option R :=
 if (decide ((s.size : Int) > (255 : Int))) = true then
  k false
 else
  (r4_Literal n s).bind fun v =>
  if v = true then
   k true
  else
   (r0_Split n s (46 : Int)).bind fun v1 =>
   (r4_Domain_L0 n n v1 (0 : Int)).bind fun x_1 => onL x_1
    (fun a_2 =>
     k true)
    (fun a_3 =>
     k a_3)
    (fun _ => none)
def r4_Domain (n : Nat) (s : BA) : Option Bool := r4_Domain_B n s some
theorem r4_Domain_N (n : Nat) {R S : Type} (s : BA) (k : Bool → Option R) (φ : R → Option S) : r4_Domain_B n s (fun a => (k a).bind φ) = (r4_Domain_B n s k).bind φ := by
  unfold r4_Domain_B
  first | (simp only [dup_self, both_self, iB, bB, oL, oX, nB]) | rfl
def r4_Domain_hint (n : Nat) : Hint Out := { live := fun c => (cond (Nat.beq c 0) [(3, some (.sl .str)), (4, none)] (cond (Nat.beq c 2) [(3, some (.sl .str)), (4, none), (5, none), (6, none)] [])), run := fun c => (cond (Nat.beq c 0) (some (runL r4_Domain_L0_sp r4_Domain_L0_rp fun σ ρ K => (r4_Domain_L0 n n σ.1 σ.2.1).bind (r4_Domain_L0_K K))) (cond (Nat.beq c 2) (some (runL r4_Domain_L1_sp r4_Domain_L1_rp fun σ ρ K => (r4_Domain_L1 n n σ.1 σ.2.1 σ.2.2.1 σ.2.2.2.1).bind (r4_Domain_L1_K K))) none)), xm := fun c q => (cond (Nat.beq c 0 && Nat.beq (q.getD 1000000) 0 && q.isSome) (some []) (cond (Nat.beq c 2 && Nat.beq (q.getD 1000000) 2 && q.isSome) (some [(3, some (.sl .str)), (4, none)]) (cond (Nat.beq c 3 && q.isNone) (some [(2, none)]) (cond (Nat.beq c 1 && q.isNone) (some [(2, none)]) none)))) }
def r4_Domain_L1_I (n : Nat) (K : XE → List AV → AHeap → Option Out) (m : Nat) (l1 : (Sq BA)) (i1 : Int) (w : BA) (k0 : Int) : Option Out := loopI tys (callees Out (r4_Literal_es n)) (r4_Domain_hint n) n (codeAt [1, 1, 1, 1, 0, 1, 0, 0, 1, 0, 0, 1, 1, 1, 0, 0] (bodyOf Tryz.f38)) 2 r4_Domain_L1_sp r4_Domain_L1_rp K m (l1, (i1, (w, (k0, ())))) ()
theorem r4_Domain_L1_E (n : Nat) (K : XE → List AV → AHeap → Option Out) : ∀ (m : Nat) (l1 : (Sq BA)) (i1 : Int) (w : BA) (k0 : Int), r4_Domain_L1_I n K m l1 i1 w k0 = (r4_Domain_L1 n m l1 i1 w k0).bind (r4_Domain_L1_K K)
  | 0, l1, i1, w, k0 => by kernel_rfl
  | m + 1, l1, i1, w, k0 => by
    have h1 : r4_Domain_L1_I n K (m + 1) l1 i1 w k0 = r4_Domain_B1 n l1 i1 w k0 (fun l1 i1 w k0 => r4_Domain_L1_I n K m l1 i1 w k0) (fun a => r4_Domain_L1_K K (.out a)) (fun a => r4_Domain_L1_K K (.ret a)) (fun p => r4_Domain_L1_K K (.pan p)) := by kernel_rfl
    have h2 : (fun l1 i1 w k0 => r4_Domain_L1_I n K m l1 i1 w k0) = (fun l1 i1 w k0 => (r4_Domain_L1 n m l1 i1 w k0).bind (r4_Domain_L1_K K)) := funext fun l1 => funext fun i1 => funext fun w => funext fun k0 => r4_Domain_L1_E n K m l1 i1 w k0
    exact h1.trans ((congrArg (fun z => r4_Domain_B1 n l1 i1 w k0 z (fun a => r4_Domain_L1_K K (.out a)) (fun a => r4_Domain_L1_K K (.ret a)) (fun p => r4_Domain_L1_K K (.pan p))) h2).trans (r4_Domain_B1_N n l1 i1 w k0 (fun l1 i1 w k0 => r4_Domain_L1 n m l1 i1 w k0) (fun a => some (.out a)) (fun a => some (.ret a)) (fun p => some (.pan p)) (r4_Domain_L1_K K)))
theorem r4_Domain_L1_ok (n : Nat) : RunOk tys (callees Out (r4_Literal_es n)) (r4_Domain_hint n) n (codeAt [1, 1, 1, 1, 0, 1, 0, 0, 1, 0, 0, 1, 1, 1, 0, 0] (bodyOf Tryz.f38)) 2 := runOk_of (sp := r4_Domain_L1_sp) (rp := r4_Domain_L1_rp) (F := fun σ ρ K => (r4_Domain_L1 n n σ.1 σ.2.1 σ.2.2.1 σ.2.2.2.1).bind (r4_Domain_L1_K K)) (by kernel_rfl) fun K σ ρ => r4_Domain_L1_E n K n σ.1 σ.2.1 σ.2.2.1 σ.2.2.2.1
def r4_Domain_L0_I (n : Nat) (K : XE → List AV → AHeap → Option Out) (m : Nat) (l : (Sq BA)) (i : Int) : Option Out := loopI tys (callees Out (r4_Literal_es n)) (r4_Domain_hint n) n (codeAt [1, 1, 1, 1, 0, 1, 0, 0] (bodyOf Tryz.f38)) 0 r4_Domain_L0_sp r4_Domain_L0_rp K m (l, (i, ())) ()
theorem r4_Domain_L0_E (n : Nat) (K : XE → List AV → AHeap → Option Out) : ∀ (m : Nat) (l : (Sq BA)) (i : Int), r4_Domain_L0_I n K m l i = (r4_Domain_L0 n m l i).bind (r4_Domain_L0_K K)
  | 0, l, i => by kernel_rfl
  | m + 1, l, i => by
    have h1 : r4_Domain_L0_I n K (m + 1) l i = r4_Domain_B0 n l i (fun l i => r4_Domain_L0_I n K m l i) (fun a => r4_Domain_L0_K K (.out a)) (fun a => r4_Domain_L0_K K (.ret a)) (fun p => r4_Domain_L0_K K (.pan p)) := by kernel_rfl
    have h2 : (fun l i => r4_Domain_L0_I n K m l i) = (fun l i => (r4_Domain_L0 n m l i).bind (r4_Domain_L0_K K)) := funext fun l => funext fun i => r4_Domain_L0_E n K m l i
    exact h1.trans ((congrArg (fun z => r4_Domain_B0 n l i z (fun a => r4_Domain_L0_K K (.out a)) (fun a => r4_Domain_L0_K K (.ret a)) (fun p => r4_Domain_L0_K K (.pan p))) h2).trans (r4_Domain_B0_N n l i (fun l i => r4_Domain_L0 n m l i) (fun a => some (.out a)) (fun a => some (.ret a)) (fun p => some (.pan p)) (r4_Domain_L0_K K)))
theorem r4_Domain_L0_ok (n : Nat) : RunOk tys (callees Out (r4_Literal_es n)) (r4_Domain_hint n) n (codeAt [1, 1, 1, 1, 0, 1, 0, 0] (bodyOf Tryz.f38)) 0 := runOk_of (sp := r4_Domain_L0_sp) (rp := r4_Domain_L0_rp) (F := fun σ ρ K => (r4_Domain_L0 n n σ.1 σ.2.1).bind (r4_Domain_L0_K K)) (by kernel_rfl) fun K σ ρ => r4_Domain_L0_E n K n σ.1 σ.2.1
theorem r4_Domain_runs (n : Nat) : RunsOk tys (callees Out (r4_Literal_es n)) (r4_Domain_hint n) n (bodyOf Tryz.f38) 0 := ⟨trivial, ⟨⟨trivial, ⟨⟨trivial, trivial⟩, trivial⟩⟩, ⟨⟨trivial, ⟨⟨trivial, trivial⟩, trivial⟩⟩, ⟨trivial, ⟨⟨trivial, ⟨r4_Domain_L0_ok n, ⟨⟨trivial, ⟨trivial, trivial⟩⟩, ⟨⟨trivial, ⟨⟨trivial, ⟨⟨trivial, trivial⟩, trivial⟩⟩, ⟨trivial, ⟨r4_Domain_L1_ok n, ⟨⟨trivial, ⟨trivial, trivial⟩⟩, ⟨⟨trivial, ⟨⟨trivial, trivial⟩, trivial⟩⟩, trivial⟩⟩⟩⟩⟩⟩, trivial⟩⟩⟩⟩, ⟨trivial, trivial⟩⟩⟩⟩⟩⟩
theorem r4_Domain_at : Tryz.prog.funcs[38]? = some Tryz.f38 := by kernel_rfl
theorem r4_Domain_ent (n : Nat) : Enters Tryz.prog 38 := enters_of (c := bodyOf Tryz.f38) r4_Domain_at (by kernel_rfl) (by kernel_rfl)
theorem r4_Domain_E (n : Nat) (s : BA) : fnA tys (callees Out (r4_Literal_es n)) (r4_Domain_hint n) n Tryz.f38 (encL (.pair .str .unit) (s, ())) [] (soloA fun v => some (.ret v)) (soloA fun v => some (.pan v)) = r4_Domain_B n s (fun y => some (.ret (encR (.one .bool) y))) := by kernel_rfl
def r4_Domain_en (n : Nat) : Entry := ⟨38, pcT (.pair .str .unit) (.one .bool) (fun xs => r4_Domain n xs.1), none, none⟩
theorem r4_Domain_ok (n : Nat) : EntryOk Tryz.prog gl (r4_Domain_en n) :=
  pcT_ok (r4_Domain_ent n) fun xs y h => ans_of_fn tys_ok (r4_Literal_es_ok n) mixed (hint := r4_Domain_hint n) (n := n) (fn := Tryz.f38) r4_Domain_at (runsC (r4_Domain_runs n)) (run_ret (φ := (fun y => some (Out.ret (encR (.one .bool) y)))) ((r4_Domain_E n xs.1).trans (r4_Domain_N (R := Bool) (S := Out) n xs.1 some (fun y => some (Out.ret (encR (.one .bool) y))))) h)
def r4_Domain_es (n : Nat) : List Entry := r4_Domain_en n :: r4_Literal_es n
theorem r4_Domain_es_ok (n : Nat) : AllOk Tryz.prog gl (r4_Domain_es n) := .cons (r4_Domain_ok n) (r4_Literal_es_ok n)
/- pouch/pouchref4.May -/
def r4_May_B (n : Nat) {R : Type} (m0 : (BA × (BA × Unit))) (k : Bool → Option R) : Option R :=
 (r4_Local n m0.1).bind fun v =>
 if v = true then
  (r4_Domain n m0.2.1).bind fun v1 =>
  k v1
 else
  k false
def r4_May (n : Nat) (m0 : (BA × (BA × Unit))) : Option Bool := r4_May_B n m0 some
theorem r4_May_N (n : Nat) {R S : Type} (m0 : (BA × (BA × Unit))) (k : Bool → Option R) (φ : R → Option S) : r4_May_B n m0 (fun a => (k a).bind φ) = (r4_May_B n m0 k).bind φ := by
  unfold r4_May_B
  first | (simp only [dup_self, both_self, iB, bB, oL, oX, nB]) | rfl
def r4_May_hint (n : Nat) : Hint Out := { live := fun c => [], run := fun c => none, xm := fun c q => none }
theorem r4_May_runs (n : Nat) : RunsOk tys (callees Out (r4_Domain_es n)) (r4_May_hint n) n (bodyOf Tryz.f39) 0 := runs_noloop (fun _ => rfl) _ _ (by kernel_rfl)
theorem r4_May_at : Tryz.prog.funcs[39]? = some Tryz.f39 := by kernel_rfl
theorem r4_May_ent (n : Nat) : Enters Tryz.prog 39 := enters_of (c := bodyOf Tryz.f39) r4_May_at (by kernel_rfl) (by kernel_rfl)
theorem r4_May_E (n : Nat) (m0 : (BA × (BA × Unit))) : fnA tys (callees Out (r4_Domain_es n)) (r4_May_hint n) n Tryz.f39 (encL (.pair (.pair .str (.pair .str .unit)) .unit) (m0, ())) [] (soloA fun v => some (.ret v)) (soloA fun v => some (.pan v)) = r4_May_B n m0 (fun y => some (.ret (encR (.one .bool) y))) := by kernel_rfl
def r4_May_en (n : Nat) : Entry := ⟨39, pcT (.pair (.pair .str (.pair .str .unit)) .unit) (.one .bool) (fun xs => r4_May n xs.1), none, none⟩
theorem r4_May_ok (n : Nat) : EntryOk Tryz.prog gl (r4_May_en n) :=
  pcT_ok (r4_May_ent n) fun xs y h => ans_of_fn tys_ok (r4_Domain_es_ok n) mixed (hint := r4_May_hint n) (n := n) (fn := Tryz.f39) r4_May_at (runsC (r4_May_runs n)) (run_ret (φ := (fun y => some (Out.ret (encR (.one .bool) y)))) ((r4_May_E n xs.1).trans (r4_May_N (R := Bool) (S := Out) n xs.1 some (fun y => some (Out.ret (encR (.one .bool) y))))) h)
def r4_May_es (n : Nat) : List Entry := r4_May_en n :: r4_Domain_es n
theorem r4_May_es_ok (n : Nat) : AllOk Tryz.prog gl (r4_May_es n) := .cons (r4_May_ok n) (r4_Domain_es_ok n)
/- pouch/pouchref4.Parse -/
def r4_Parse_B0 (n : Nat) {R : Type} (s1 : BA) (n0 : Int) (t2 : BA) (t21 : BA) (m0 : BA) (m01 : BA) (kn : BA → Int → BA → BA → BA → BA → Option R) (ko : (BA × Int × BA × BA × BA × BA) → Option R) (kr : Unit → Option R) (kp : Int → Option R) : Option R :=
 if (decide (n0 < (s1.size : Int))) = true then
  if 0 ≤ n0 ∧ n0 < (s1.size : Int) then
   if ((bt s1 n0) != (64 : Int)) = true then
    kn s1 (IntKind.wrap .i64 (n0 + (1 : Int))) t2 t21 m0 m01
   else
    ko (s1, n0, t2, t21, m0, m01)
  else
   none
 else
  ko (s1, n0, t2, t21, m0, m01)
theorem r4_Parse_B0_N (n : Nat) {R S : Type} (s1 : BA) (n0 : Int) (t2 : BA) (t21 : BA) (m0 : BA) (m01 : BA) (kn : BA → Int → BA → BA → BA → BA → Option R) (ko : (BA × Int × BA × BA × BA × BA) → Option R) (kr : Unit → Option R) (kp : Int → Option R) (φ : R → Option S) : r4_Parse_B0 n s1 n0 t2 t21 m0 m01 (fun s1 n0 t2 t21 m0 m01 => (kn s1 n0 t2 t21 m0 m01).bind φ) (fun a => (ko a).bind φ) (fun a => (kr a).bind φ) (fun a => (kp a).bind φ) = (r4_Parse_B0 n s1 n0 t2 t21 m0 m01 kn ko kr kp).bind φ := by
  unfold r4_Parse_B0
  first | (simp only [dup_self, both_self, iB, bB, oL, oX, nB]) | rfl
def r4_Parse_L0 (n : Nat) : Nat → BA → Int → BA → BA → BA → BA → Option (Lx (BA × Int × BA × BA × BA × BA) Unit)
  | 0, _, _, _, _, _, _ => none
  | m + 1, s1, n0, t2, t21, m0, m01 => r4_Parse_B0 n s1 n0 t2 t21 m0 m01 (fun s1 n0 t2 t21 m0 m01 => r4_Parse_L0 n m s1 n0 t2 t21 m0 m01) (fun a => some (.out a)) (fun a => some (.ret a)) (fun p => some (.pan p))
def r4_Parse_L0_sp : List Sl := .dat .str :: .top :: .ptr 0 0 0 :: .top :: .ptr 1 0 0 :: tp 4 (.dat (.int .i64) :: tp 64 [])
def r4_Parse_L0_rp : List RS := [.box 25 2 true [.dat .str, .dat .str], .box 25 2 true [.dat .str, .dat .str]]
def r4_Parse_L0_out_sp : List Sl := .dat .str :: .top :: .ptr 0 0 0 :: .top :: .ptr 1 0 0 :: tp 4 (.dat (.int .i64) :: tp 64 [])
def r4_Parse_L0_out_rp : List RS := [.box 25 2 true [.dat .str, .dat .str], .box 25 2 true [.dat .str, .dat .str]]
def r4_Parse_L0_K (K : XE → List AV → AHeap → Option Out) : Lx (BA × Int × BA × BA × BA × BA) Unit → Option Out := fun x => onL x (fun a => layK r4_Parse_L0_out_sp r4_Parse_L0_out_rp (a.1, (a.2.1, ())) ((a.2.2.1, (a.2.2.2.1, ())), ((a.2.2.2.2.1, (a.2.2.2.2.2, ())), ())) (K (.exit 0))) (fun _ => none) (fun _ => none)
def r4_Parse_B (n : Nat) {R : Type} (s : BA) (k : ((BA × (BA × Unit)) × Bool × Unit) → Option R) : Option R :=
 if (decide ((s.size : Int) > (0 : Int))) = true then
  if 0 ≤ (0 : Int) ∧ (0 : Int) < (s.size : Int) then
   if ((bt s (0 : Int)) == (34 : Int)) = true then
    (r4_inner n s).bind fun v =>
    if (!v.2.2.1) = true then
     k (((⟨#[]⟩ : BA), ((⟨#[]⟩ : BA), ())), (false, ()))
    else
     if 0 ≤ v.2.1 ∧ v.2.1 ≤ (s.size : Int) then
      (r4_quote n v.1).bind fun v1 =>
      (r4_plain n v.1).bind fun v2 =>
      if v2 = true then
       if ((s.extract (Int.toNat v.2.1) (Int.toNat (s.size : Int))).toList == (⟨#[]⟩ : BA).toList) = false then
        if 0 ≤ (0 : Int) ∧ (0 : Int) < ((s.extract (Int.toNat v.2.1) (Int.toNat (s.size : Int))).size : Int) then
         if ((bt (s.extract (Int.toNat v.2.1) (Int.toNat (s.size : Int))) (0 : Int)) != (64 : Int)) = true then
          k (((⟨#[]⟩ : BA), ((⟨#[]⟩ : BA), ())), (false, ()))
         else
          if 0 ≤ (1 : Int) ∧ (1 : Int) ≤ ((s.extract (Int.toNat v.2.1) (Int.toNat (s.size : Int))).size : Int) then
           (r0_Lower n ((s.extract (Int.toNat v.2.1) (Int.toNat (s.size : Int))).extract (Int.toNat (1 : Int)) (Int.toNat (((s.extract (Int.toNat v.2.1) (Int.toNat (s.size : Int))).size) : Int)))).bind fun v3 =>
           (r4_May n (v.1, (v3, ()))).bind fun v4 =>
           if (!v4) = true then
            k (((⟨#[]⟩ : BA), ((⟨#[]⟩ : BA), ())), (false, ()))
           else
            k ((v.1, (v3, ())), (true, ()))
          else
           none
        else
         none
       else
        k (((⟨#[]⟩ : BA), ((⟨#[]⟩ : BA), ())), (false, ()))
      else
       if ((s.extract (Int.toNat v.2.1) (Int.toNat (s.size : Int))).toList == (⟨#[]⟩ : BA).toList) = false then
        if 0 ≤ (0 : Int) ∧ (0 : Int) < ((s.extract (Int.toNat v.2.1) (Int.toNat (s.size : Int))).size : Int) then
         if ((bt (s.extract (Int.toNat v.2.1) (Int.toNat (s.size : Int))) (0 : Int)) != (64 : Int)) = true then
          k (((⟨#[]⟩ : BA), ((⟨#[]⟩ : BA), ())), (false, ()))
         else
          if 0 ≤ (1 : Int) ∧ (1 : Int) ≤ ((s.extract (Int.toNat v.2.1) (Int.toNat (s.size : Int))).size : Int) then
           (r0_Lower n ((s.extract (Int.toNat v.2.1) (Int.toNat (s.size : Int))).extract (Int.toNat (1 : Int)) (Int.toNat (((s.extract (Int.toNat v.2.1) (Int.toNat (s.size : Int))).size) : Int)))).bind fun v5 =>
           (r4_May n (v1, (v5, ()))).bind fun v6 =>
           if (!v6) = true then
            k (((⟨#[]⟩ : BA), ((⟨#[]⟩ : BA), ())), (false, ()))
           else
            k ((v1, (v5, ())), (true, ()))
          else
           none
        else
         none
       else
        k (((⟨#[]⟩ : BA), ((⟨#[]⟩ : BA), ())), (false, ()))
     else
      none
   else
    (r4_Parse_L0 n n s (0 : Int) (⟨#[]⟩ : BA) (⟨#[]⟩ : BA) (⟨#[]⟩ : BA) (⟨#[]⟩ : BA)).bind fun x_1 => onL x_1
     (fun a_2 =>
      if 0 ≤ a_2.2.1 ∧ a_2.2.1 ≤ (a_2.1.size : Int) then
       if 0 ≤ a_2.2.1 ∧ a_2.2.1 ≤ (a_2.1.size : Int) then
        if ((a_2.1.extract (Int.toNat a_2.2.1) (Int.toNat (a_2.1.size : Int))).toList == (⟨#[]⟩ : BA).toList) = false then
         if 0 ≤ (0 : Int) ∧ (0 : Int) < ((a_2.1.extract (Int.toNat a_2.2.1) (Int.toNat (a_2.1.size : Int))).size : Int) then
          if ((bt (a_2.1.extract (Int.toNat a_2.2.1) (Int.toNat (a_2.1.size : Int))) (0 : Int)) != (64 : Int)) = true then
           k (((⟨#[]⟩ : BA), ((⟨#[]⟩ : BA), ())), (false, ()))
          else
           if 0 ≤ (1 : Int) ∧ (1 : Int) ≤ ((a_2.1.extract (Int.toNat a_2.2.1) (Int.toNat (a_2.1.size : Int))).size : Int) then
            (r0_Lower n ((a_2.1.extract (Int.toNat a_2.2.1) (Int.toNat (a_2.1.size : Int))).extract (Int.toNat (1 : Int)) (Int.toNat (((a_2.1.extract (Int.toNat a_2.2.1) (Int.toNat (a_2.1.size : Int))).size) : Int)))).bind fun v7 =>
            (r4_May n ((a_2.1.extract (Int.toNat (0 : Int)) (Int.toNat a_2.2.1)), (v7, ()))).bind fun v8 =>
            if (!v8) = true then
             k (((⟨#[]⟩ : BA), ((⟨#[]⟩ : BA), ())), (false, ()))
            else
             k (((a_2.1.extract (Int.toNat (0 : Int)) (Int.toNat a_2.2.1)), (v7, ())), (true, ()))
           else
            none
         else
          none
        else
         k (((⟨#[]⟩ : BA), ((⟨#[]⟩ : BA), ())), (false, ()))
       else
        none
      else
       none)
     (fun _ => none)
     (fun _ => none)
  else
   none
 else
  (r4_Parse_L0 n n s (0 : Int) (⟨#[]⟩ : BA) (⟨#[]⟩ : BA) (⟨#[]⟩ : BA) (⟨#[]⟩ : BA)).bind fun x_3 => onL x_3
   (fun a_4 =>
    if 0 ≤ a_4.2.1 ∧ a_4.2.1 ≤ (a_4.1.size : Int) then
     if 0 ≤ a_4.2.1 ∧ a_4.2.1 ≤ (a_4.1.size : Int) then
      if ((a_4.1.extract (Int.toNat a_4.2.1) (Int.toNat (a_4.1.size : Int))).toList == (⟨#[]⟩ : BA).toList) = false then
       if 0 ≤ (0 : Int) ∧ (0 : Int) < ((a_4.1.extract (Int.toNat a_4.2.1) (Int.toNat (a_4.1.size : Int))).size : Int) then
        if ((bt (a_4.1.extract (Int.toNat a_4.2.1) (Int.toNat (a_4.1.size : Int))) (0 : Int)) != (64 : Int)) = true then
         k (((⟨#[]⟩ : BA), ((⟨#[]⟩ : BA), ())), (false, ()))
        else
         if 0 ≤ (1 : Int) ∧ (1 : Int) ≤ ((a_4.1.extract (Int.toNat a_4.2.1) (Int.toNat (a_4.1.size : Int))).size : Int) then
          (r0_Lower n ((a_4.1.extract (Int.toNat a_4.2.1) (Int.toNat (a_4.1.size : Int))).extract (Int.toNat (1 : Int)) (Int.toNat (((a_4.1.extract (Int.toNat a_4.2.1) (Int.toNat (a_4.1.size : Int))).size) : Int)))).bind fun v9 =>
          (r4_May n ((a_4.1.extract (Int.toNat (0 : Int)) (Int.toNat a_4.2.1)), (v9, ()))).bind fun v10 =>
          if (!v10) = true then
           k (((⟨#[]⟩ : BA), ((⟨#[]⟩ : BA), ())), (false, ()))
          else
           k (((a_4.1.extract (Int.toNat (0 : Int)) (Int.toNat a_4.2.1)), (v9, ())), (true, ()))
         else
          none
       else
        none
      else
       k (((⟨#[]⟩ : BA), ((⟨#[]⟩ : BA), ())), (false, ()))
     else
      none
    else
     none)
   (fun _ => none)
   (fun _ => none)
def r4_Parse (n : Nat) (s : BA) : Option ((BA × (BA × Unit)) × Bool × Unit) := r4_Parse_B n s some
theorem r4_Parse_N (n : Nat) {R S : Type} (s : BA) (k : ((BA × (BA × Unit)) × Bool × Unit) → Option R) (φ : R → Option S) : r4_Parse_B n s (fun a => (k a).bind φ) = (r4_Parse_B n s k).bind φ := by
  unfold r4_Parse_B
  first | (simp only [dup_self, both_self, iB, bB, oL, oX, nB]) | rfl
def r4_Parse_hint (n : Nat) : Hint Out := { live := fun c => (cond (Nat.beq c 0) (lv [0, 2, 4, 9]) []), run := fun c => (cond (Nat.beq c 0) (some (runL r4_Parse_L0_sp r4_Parse_L0_rp fun σ ρ K => (r4_Parse_L0 n n σ.1 σ.2.1 ρ.1.1 ρ.1.2.1 ρ.2.1.1 ρ.2.1.2.1).bind (r4_Parse_L0_K K))) none), xm := fun c q => (cond (Nat.beq c 0 && Nat.beq (q.getD 1000000) 0 && q.isSome) (some (lv [0, 2, 4, 9])) none), sch := fun c => (cond (Nat.beq c 13) (some [(0, 0), (1, 0), (2, 0), (3, 0), (4, 0), (5, 0), (6, 0), (7, 2), (8, 0)]) (cond (Nat.beq c 7) (some [(0, 0), (2, 0), (3, 0), (4, 0), (1, 3), (5, 0), (6, 2), (7, 0)]) none)) }
def r4_Parse_L0_I (n : Nat) (K : XE → List AV → AHeap → Option Out) (m : Nat) (s1 : BA) (n0 : Int) (t2 : BA) (t21 : BA) (m0 : BA) (m01 : BA) : Option Out := loopI tys (callees Out (r4_May_es n)) (r4_Parse_hint n) n (codeAt [1, 1, 1, 0, 1, 1, 1, 0, 0, 0] (bodyOf Tryz.f50)) 0 r4_Parse_L0_sp r4_Parse_L0_rp K m (s1, (n0, ())) ((t2, (t21, ())), ((m0, (m01, ())), ()))
theorem r4_Parse_L0_E (n : Nat) (K : XE → List AV → AHeap → Option Out) : ∀ (m : Nat) (s1 : BA) (n0 : Int) (t2 : BA) (t21 : BA) (m0 : BA) (m01 : BA), r4_Parse_L0_I n K m s1 n0 t2 t21 m0 m01 = (r4_Parse_L0 n m s1 n0 t2 t21 m0 m01).bind (r4_Parse_L0_K K)
  | 0, s1, n0, t2, t21, m0, m01 => by kernel_rfl
  | m + 1, s1, n0, t2, t21, m0, m01 => by
    have h1 : r4_Parse_L0_I n K (m + 1) s1 n0 t2 t21 m0 m01 = r4_Parse_B0 n s1 n0 t2 t21 m0 m01 (fun s1 n0 t2 t21 m0 m01 => r4_Parse_L0_I n K m s1 n0 t2 t21 m0 m01) (fun a => r4_Parse_L0_K K (.out a)) (fun a => r4_Parse_L0_K K (.ret a)) (fun p => r4_Parse_L0_K K (.pan p)) := by kernel_rfl
    have h2 : (fun s1 n0 t2 t21 m0 m01 => r4_Parse_L0_I n K m s1 n0 t2 t21 m0 m01) = (fun s1 n0 t2 t21 m0 m01 => (r4_Parse_L0 n m s1 n0 t2 t21 m0 m01).bind (r4_Parse_L0_K K)) := funext fun s1 => funext fun n0 => funext fun t2 => funext fun t21 => funext fun m0 => funext fun m01 => r4_Parse_L0_E n K m s1 n0 t2 t21 m0 m01
    exact h1.trans ((congrArg (fun z => r4_Parse_B0 n s1 n0 t2 t21 m0 m01 z (fun a => r4_Parse_L0_K K (.out a)) (fun a => r4_Parse_L0_K K (.ret a)) (fun p => r4_Parse_L0_K K (.pan p))) h2).trans (r4_Parse_B0_N n s1 n0 t2 t21 m0 m01 (fun s1 n0 t2 t21 m0 m01 => r4_Parse_L0 n m s1 n0 t2 t21 m0 m01) (fun a => some (.out a)) (fun a => some (.ret a)) (fun p => some (.pan p)) (r4_Parse_L0_K K)))
theorem r4_Parse_L0_ok (n : Nat) : RunOk tys (callees Out (r4_May_es n)) (r4_Parse_hint n) n (codeAt [1, 1, 1, 0, 1, 1, 1, 0, 0, 0] (bodyOf Tryz.f50)) 0 := runOk_of (sp := r4_Parse_L0_sp) (rp := r4_Parse_L0_rp) (F := fun σ ρ K => (r4_Parse_L0 n n σ.1 σ.2.1 ρ.1.1 ρ.1.2.1 ρ.2.1.1 ρ.2.1.2.1).bind (r4_Parse_L0_K K)) (by kernel_rfl) fun K σ ρ => r4_Parse_L0_E n K n σ.1 σ.2.1 ρ.1.1 ρ.1.2.1 ρ.2.1.1 ρ.2.1.2.1
theorem r4_Parse_runs (n : Nat) : RunsOk tys (callees Out (r4_May_es n)) (r4_Parse_hint n) n (bodyOf Tryz.f50) 0 := ⟨trivial, ⟨trivial, ⟨trivial, ⟨⟨trivial, ⟨⟨trivial, ⟨⟨trivial, ⟨⟨trivial, trivial⟩, trivial⟩⟩, ⟨trivial, ⟨trivial, ⟨trivial, trivial⟩⟩⟩⟩⟩, ⟨trivial, ⟨⟨r4_Parse_L0_ok n, ⟨⟨trivial, ⟨trivial, trivial⟩⟩, trivial⟩⟩, trivial⟩⟩⟩⟩, ⟨⟨trivial, ⟨⟨trivial, trivial⟩, trivial⟩⟩, ⟨trivial, ⟨⟨trivial, ⟨⟨trivial, trivial⟩, trivial⟩⟩, ⟨trivial, trivial⟩⟩⟩⟩⟩⟩⟩⟩
theorem r4_Parse_at : Tryz.prog.funcs[50]? = some Tryz.f50 := by kernel_rfl
theorem r4_Parse_ent (n : Nat) : Enters Tryz.prog 50 := enters_of (c := bodyOf Tryz.f50) r4_Parse_at (by kernel_rfl) (by kernel_rfl)
theorem r4_Parse_E (n : Nat) (s : BA) : fnA tys (callees Out (r4_May_es n)) (r4_Parse_hint n) n Tryz.f50 (encL (.pair .str .unit) (s, ())) [] (soloA fun v => some (.ret v)) (soloA fun v => some (.pan v)) = r4_Parse_B n s (fun y => some (.ret (encR (.many (.pair (.pair .str (.pair .str .unit)) (.pair .bool .unit))) y))) := by kernel_rfl
def r4_Parse_en (n : Nat) : Entry := ⟨50, pcT (.pair .str .unit) (.many (.pair (.pair .str (.pair .str .unit)) (.pair .bool .unit))) (fun xs => r4_Parse n xs.1), none, none⟩
theorem r4_Parse_ok (n : Nat) : EntryOk Tryz.prog gl (r4_Parse_en n) :=
  pcT_ok (r4_Parse_ent n) fun xs y h => ans_of_fn tys_ok (r4_May_es_ok n) mixed (hint := r4_Parse_hint n) (n := n) (fn := Tryz.f50) r4_Parse_at (runsC (r4_Parse_runs n)) (run_ret (φ := (fun y => some (Out.ret (encR (.many (.pair (.pair .str (.pair .str .unit)) (.pair .bool .unit))) y)))) ((r4_Parse_E n xs.1).trans (r4_Parse_N (R := ((BA × (BA × Unit)) × Bool × Unit)) (S := Out) n xs.1 some (fun y => some (Out.ret (encR (.many (.pair (.pair .str (.pair .str .unit)) (.pair .bool .unit))) y))))) h)
def r4_Parse_es (n : Nat) : List Entry := r4_Parse_en n :: r4_May_es n
theorem r4_Parse_es_ok (n : Nat) : AllOk Tryz.prog gl (r4_Parse_es n) := .cons (r4_Parse_ok n) (r4_May_es_ok n)
/- pouch/pouchref4.Path -/
def r4_Path_B (n : Nat) {R : Type} (s : BA) (k : ((BA × (BA × Unit)) × Bool × Bool × Unit) → Option R) : Option R :=
 if (s.toList == (⟨#[60, 62]⟩ : BA).toList) = true then
  k (((⟨#[]⟩ : BA), ((⟨#[]⟩ : BA), ())), (true, (true, ())))
 else
  if (decide ((s.size : Int) < (2 : Int))) = false then
   if 0 ≤ (0 : Int) ∧ (0 : Int) < (s.size : Int) then
    if ((bt s (0 : Int)) != (60 : Int)) = false then
     if 0 ≤ (IntKind.wrap .i64 ((s.size : Int) - (1 : Int))) ∧ (IntKind.wrap .i64 ((s.size : Int) - (1 : Int))) < (s.size : Int) then
      if ((bt s (IntKind.wrap .i64 ((s.size : Int) - (1 : Int)))) != (62 : Int)) = true then
       k (((⟨#[]⟩ : BA), ((⟨#[]⟩ : BA), ())), (false, (false, ())))
      else
       if 0 ≤ (IntKind.wrap .i64 ((s.size : Int) - (1 : Int))) ∧ (IntKind.wrap .i64 ((s.size : Int) - (1 : Int))) ≤ (s.size : Int) then
        if 0 ≤ (1 : Int) ∧ (1 : Int) ≤ (IntKind.wrap .i64 ((s.size : Int) - (1 : Int))) then
         (r4_Parse n (s.extract (Int.toNat (1 : Int)) (Int.toNat (IntKind.wrap .i64 ((s.size : Int) - (1 : Int)))))).bind fun v =>
         k ((v.1.1, (v.1.2.1, ())), (false, (v.2.1, ())))
        else
         none
       else
        none
     else
      none
    else
     k (((⟨#[]⟩ : BA), ((⟨#[]⟩ : BA), ())), (false, (false, ())))
   else
    none
  else
   k (((⟨#[]⟩ : BA), ((⟨#[]⟩ : BA), ())), (false, (false, ())))
def r4_Path (n : Nat) (s : BA) : Option ((BA × (BA × Unit)) × Bool × Bool × Unit) := r4_Path_B n s some
theorem r4_Path_N (n : Nat) {R S : Type} (s : BA) (k : ((BA × (BA × Unit)) × Bool × Bool × Unit) → Option R) (φ : R → Option S) : r4_Path_B n s (fun a => (k a).bind φ) = (r4_Path_B n s k).bind φ := by
  unfold r4_Path_B
  first | (simp only [dup_self, both_self, iB, bB, oL, oX, nB]) | rfl
def r4_Path_hint (n : Nat) : Hint Out := { live := fun c => [], run := fun c => none, xm := fun c q => none }
theorem r4_Path_runs (n : Nat) : RunsOk tys (callees Out (r4_Parse_es n)) (r4_Path_hint n) n (bodyOf Tryz.f32) 0 := runs_noloop (fun _ => rfl) _ _ (by kernel_rfl)
theorem r4_Path_at : Tryz.prog.funcs[32]? = some Tryz.f32 := by kernel_rfl
theorem r4_Path_ent (n : Nat) : Enters Tryz.prog 32 := enters_of (c := bodyOf Tryz.f32) r4_Path_at (by kernel_rfl) (by kernel_rfl)
theorem r4_Path_E (n : Nat) (s : BA) : fnA tys (callees Out (r4_Parse_es n)) (r4_Path_hint n) n Tryz.f32 (encL (.pair .str .unit) (s, ())) [] (soloA fun v => some (.ret v)) (soloA fun v => some (.pan v)) = r4_Path_B n s (fun y => some (.ret (encR (.many (.pair (.pair .str (.pair .str .unit)) (.pair .bool (.pair .bool .unit)))) y))) := by kernel_rfl
def r4_Path_en (n : Nat) : Entry := ⟨32, pcT (.pair .str .unit) (.many (.pair (.pair .str (.pair .str .unit)) (.pair .bool (.pair .bool .unit)))) (fun xs => r4_Path n xs.1), none, none⟩
theorem r4_Path_ok (n : Nat) : EntryOk Tryz.prog gl (r4_Path_en n) :=
  pcT_ok (r4_Path_ent n) fun xs y h => ans_of_fn tys_ok (r4_Parse_es_ok n) mixed (hint := r4_Path_hint n) (n := n) (fn := Tryz.f32) r4_Path_at (runsC (r4_Path_runs n)) (run_ret (φ := (fun y => some (Out.ret (encR (.many (.pair (.pair .str (.pair .str .unit)) (.pair .bool (.pair .bool .unit)))) y)))) ((r4_Path_E n xs.1).trans (r4_Path_N (R := ((BA × (BA × Unit)) × Bool × Bool × Unit)) (S := Out) n xs.1 some (fun y => some (Out.ret (encR (.many (.pair (.pair .str (.pair .str .unit)) (.pair .bool (.pair .bool .unit)))) y))))) h)
def r4_Path_es (n : Nat) : List Entry := r4_Path_en n :: r4_Parse_es n
theorem r4_Path_es_ok (n : Nat) : AllOk Tryz.prog gl (r4_Path_es n) := .cons (r4_Path_ok n) (r4_Parse_es_ok n)
/- pouch/pouchref4.size -/
def r4_size_B0 (n : Nat) {R : Type} (s1 : BA) (n0 : Int) (i : Int) (kn : BA → Int → Int → Option R) (ko : (Int) → Option R) (kr : (Int × Bool) → Option R) (kp : Int → Option R) : Option R :=
 if (decide (i < (s1.size : Int))) = true then
  if 0 ≤ i ∧ i < (s1.size : Int) then
   (r4_digit n (bt s1 i)).bind fun v =>
   if (!v) = true then
    kr ((0 : Int), false)
   else
    if 0 ≤ i ∧ i < (s1.size : Int) then
     kn s1 (IntKind.wrap .i64 ((IntKind.wrap .i64 ((10 : Int) * n0)) + (IntKind.wrap .i64 (IntKind.wrap .u8 ((bt s1 i) - (48 : Int)))))) (IntKind.wrap .i64 (i + (1 : Int)))
    else
     none
  else
   none
 else
  ko n0
theorem r4_size_B0_N (n : Nat) {R S : Type} (s1 : BA) (n0 : Int) (i : Int) (kn : BA → Int → Int → Option R) (ko : (Int) → Option R) (kr : (Int × Bool) → Option R) (kp : Int → Option R) (φ : R → Option S) : r4_size_B0 n s1 n0 i (fun s1 n0 i => (kn s1 n0 i).bind φ) (fun a => (ko a).bind φ) (fun a => (kr a).bind φ) (fun a => (kp a).bind φ) = (r4_size_B0 n s1 n0 i kn ko kr kp).bind φ := by
  unfold r4_size_B0
  first | (simp only [dup_self, both_self, iB, bB, oL, oX, nB]) | rfl
def r4_size_L0 (n : Nat) : Nat → BA → Int → Int → Option (Lx (Int) (Int × Bool))
  | 0, _, _, _ => none
  | m + 1, s1, n0, i => r4_size_B0 n s1 n0 i (fun s1 n0 i => r4_size_L0 n m s1 n0 i) (fun a => some (.out a)) (fun a => some (.ret a)) (fun p => some (.pan p))
def r4_size_L0_sp : List Sl := .dat .str :: .top :: .top :: .top :: .dat (.int .i64) :: .dat (.int .i64) :: tp 30 []
def r4_size_L0_rp : List RS := []
def r4_size_L0_out_sp : List Sl := tp 4 (.dat (.int .i64) :: tp 31 [])
def r4_size_L0_out_rp : List RS := []
def r4_size_L0_ret_sp : List Sl := .top :: .top :: .dat (.int .i64) :: .dat .bool :: tp 32 []
def r4_size_L0_ret_rp : List RS := []
def r4_size_L0_K (K : XE → List AV → AHeap → Option Out) : Lx (Int) (Int × Bool) → Option Out := fun x => onL x (fun a => layK r4_size_L0_out_sp r4_size_L0_out_rp (a, ()) () (K (.exit 0))) (fun a => layK r4_size_L0_ret_sp r4_size_L0_ret_rp (a.1, (a.2, ())) () (K .ret)) (fun _ => none)
def r4_size_B (n : Nat) {R : Type} (s : BA) (k : (Int × Bool × Unit) → Option R) : Option R :=
 if (decide ((s.size : Int) < (1 : Int))) = false then
  if (decide ((s.size : Int) > (10 : Int))) = true then
   k ((0 : Int), (false, ()))
  else
   (r4_size_L0 n n s (0 : Int) (0 : Int)).bind fun x_1 => onL x_1
    (fun a_2 =>
     k (a_2, ((decide (a_2 ≤ (1073741824 : Int))), ())))
    (fun a_3 =>
     k (a_3.1, (a_3.2, ())))
    (fun _ => none)
 else
  k ((0 : Int), (false, ()))
def r4_size (n : Nat) (s : BA) : Option (Int × Bool × Unit) := r4_size_B n s some
theorem r4_size_N (n : Nat) {R S : Type} (s : BA) (k : (Int × Bool × Unit) → Option R) (φ : R → Option S) : r4_size_B n s (fun a => (k a).bind φ) = (r4_size_B n s k).bind φ := by
  unfold r4_size_B
  first | (simp only [dup_self, both_self, iB, bB, oL, oX, nB]) | rfl
def r4_size_hint (n : Nat) : Hint Out := { live := fun c => (cond (Nat.beq c 0) (lv [0, 4, 5]) []), run := fun c => (cond (Nat.beq c 0) (some (runL r4_size_L0_sp r4_size_L0_rp fun σ ρ K => (r4_size_L0 n n σ.1 σ.2.1 σ.2.2.1).bind (r4_size_L0_K K))) none), xm := fun c q => (cond (Nat.beq c 0 && Nat.beq (q.getD 1000000) 0 && q.isSome) (some [(4, none)]) (cond (Nat.beq c 1 && q.isNone) (some [(2, none), (3, none)]) none)) }
def r4_size_L0_I (n : Nat) (K : XE → List AV → AHeap → Option Out) (m : Nat) (s1 : BA) (n0 : Int) (i : Int) : Option Out := loopI tys (callees Out (r4_Path_es n)) (r4_size_hint n) n (codeAt [1, 1, 1, 0, 1, 0, 0] (bodyOf Tryz.f33)) 0 r4_size_L0_sp r4_size_L0_rp K m (s1, (n0, (i, ()))) ()
theorem r4_size_L0_E (n : Nat) (K : XE → List AV → AHeap → Option Out) : ∀ (m : Nat) (s1 : BA) (n0 : Int) (i : Int), r4_size_L0_I n K m s1 n0 i = (r4_size_L0 n m s1 n0 i).bind (r4_size_L0_K K)
  | 0, s1, n0, i => by kernel_rfl
  | m + 1, s1, n0, i => by
    have h1 : r4_size_L0_I n K (m + 1) s1 n0 i = r4_size_B0 n s1 n0 i (fun s1 n0 i => r4_size_L0_I n K m s1 n0 i) (fun a => r4_size_L0_K K (.out a)) (fun a => r4_size_L0_K K (.ret a)) (fun p => r4_size_L0_K K (.pan p)) := by kernel_rfl
    have h2 : (fun s1 n0 i => r4_size_L0_I n K m s1 n0 i) = (fun s1 n0 i => (r4_size_L0 n m s1 n0 i).bind (r4_size_L0_K K)) := funext fun s1 => funext fun n0 => funext fun i => r4_size_L0_E n K m s1 n0 i
    exact h1.trans ((congrArg (fun z => r4_size_B0 n s1 n0 i z (fun a => r4_size_L0_K K (.out a)) (fun a => r4_size_L0_K K (.ret a)) (fun p => r4_size_L0_K K (.pan p))) h2).trans (r4_size_B0_N n s1 n0 i (fun s1 n0 i => r4_size_L0 n m s1 n0 i) (fun a => some (.out a)) (fun a => some (.ret a)) (fun p => some (.pan p)) (r4_size_L0_K K)))
theorem r4_size_L0_ok (n : Nat) : RunOk tys (callees Out (r4_Path_es n)) (r4_size_hint n) n (codeAt [1, 1, 1, 0, 1, 0, 0] (bodyOf Tryz.f33)) 0 := runOk_of (sp := r4_size_L0_sp) (rp := r4_size_L0_rp) (F := fun σ ρ K => (r4_size_L0 n n σ.1 σ.2.1 σ.2.2.1).bind (r4_size_L0_K K)) (by kernel_rfl) fun K σ ρ => r4_size_L0_E n K n σ.1 σ.2.1 σ.2.2.1
theorem r4_size_runs (n : Nat) : RunsOk tys (callees Out (r4_Path_es n)) (r4_size_hint n) n (bodyOf Tryz.f33) 0 := ⟨trivial, ⟨⟨trivial, ⟨⟨trivial, trivial⟩, trivial⟩⟩, ⟨trivial, ⟨⟨trivial, ⟨r4_size_L0_ok n, ⟨⟨trivial, ⟨trivial, trivial⟩⟩, ⟨⟨⟨trivial, ⟨⟨trivial, trivial⟩, trivial⟩⟩, trivial⟩, trivial⟩⟩⟩⟩, ⟨trivial, trivial⟩⟩⟩⟩⟩
theorem r4_size_at : Tryz.prog.funcs[33]? = some Tryz.f33 := by kernel_rfl
theorem r4_size_ent (n : Nat) : Enters Tryz.prog 33 := enters_of (c := bodyOf Tryz.f33) r4_size_at (by kernel_rfl) (by kernel_rfl)
theorem r4_size_E (n : Nat) (s : BA) : fnA tys (callees Out (r4_Path_es n)) (r4_size_hint n) n Tryz.f33 (encL (.pair .str .unit) (s, ())) [] (soloA fun v => some (.ret v)) (soloA fun v => some (.pan v)) = r4_size_B n s (fun y => some (.ret (encR (.many (.pair (.int .i64) (.pair .bool .unit))) y))) := by kernel_rfl
def r4_size_en (n : Nat) : Entry := ⟨33, pcT (.pair .str .unit) (.many (.pair (.int .i64) (.pair .bool .unit))) (fun xs => r4_size n xs.1), none, none⟩
theorem r4_size_ok (n : Nat) : EntryOk Tryz.prog gl (r4_size_en n) :=
  pcT_ok (r4_size_ent n) fun xs y h => ans_of_fn tys_ok (r4_Path_es_ok n) mixed (hint := r4_size_hint n) (n := n) (fn := Tryz.f33) r4_size_at (runsC (r4_size_runs n)) (run_ret (φ := (fun y => some (Out.ret (encR (.many (.pair (.int .i64) (.pair .bool .unit))) y)))) ((r4_size_E n xs.1).trans (r4_size_N (R := (Int × Bool × Unit)) (S := Out) n xs.1 some (fun y => some (Out.ret (encR (.many (.pair (.int .i64) (.pair .bool .unit))) y))))) h)
def r4_size_es (n : Nat) : List Entry := r4_size_en n :: r4_Path_es n
theorem r4_size_es_ok (n : Nat) : AllOk Tryz.prog gl (r4_size_es n) := .cons (r4_size_ok n) (r4_Path_es_ok n)
/- pouch/pouchref0.Print -/
def r0_Print_B0 (n : Nat) {R : Type} (s1 : BA) (low1 : Int) (i : Int) (kn : BA → Int → Int → Option R) (ko : (Unit) → Option R) (kr : (Bool) → Option R) (kp : Int → Option R) : Option R :=
 if (decide (i < (s1.size : Int))) = true then
  if 0 ≤ i ∧ i < (s1.size : Int) then
   if (decide ((bt s1 i) < low1)) = false then
    if 0 ≤ i ∧ i < (s1.size : Int) then
     if (decide ((bt s1 i) > (126 : Int))) = true then
      kr false
     else
      kn s1 low1 (IntKind.wrap .i64 (i + (1 : Int)))
    else
     none
   else
    kr false
  else
   none
 else
  ko ()
theorem r0_Print_B0_N (n : Nat) {R S : Type} (s1 : BA) (low1 : Int) (i : Int) (kn : BA → Int → Int → Option R) (ko : (Unit) → Option R) (kr : (Bool) → Option R) (kp : Int → Option R) (φ : R → Option S) : r0_Print_B0 n s1 low1 i (fun s1 low1 i => (kn s1 low1 i).bind φ) (fun a => (ko a).bind φ) (fun a => (kr a).bind φ) (fun a => (kp a).bind φ) = (r0_Print_B0 n s1 low1 i kn ko kr kp).bind φ := by
  unfold r0_Print_B0
  first | (simp only [dup_self, both_self, iB, bB, oL, oX, nB]) | rfl
def r0_Print_L0 (n : Nat) : Nat → BA → Int → Int → Option (Lx (Unit) (Bool))
  | 0, _, _, _ => none
  | m + 1, s1, low1, i => r0_Print_B0 n s1 low1 i (fun s1 low1 i => r0_Print_L0 n m s1 low1 i) (fun a => some (.out a)) (fun a => some (.ret a)) (fun p => some (.pan p))
def r0_Print_L0_sp : List Sl := .dat .str :: .dat (.int .u8) :: .top :: .top :: .top :: .dat (.int .i64) :: tp 17 []
def r0_Print_L0_rp : List RS := []
def r0_Print_L0_out_sp : List Sl := tp 23 []
def r0_Print_L0_out_rp : List RS := []
def r0_Print_L0_ret_sp : List Sl := tp 4 (.dat .bool :: tp 18 [])
def r0_Print_L0_ret_rp : List RS := []
def r0_Print_L0_K (K : XE → List AV → AHeap → Option Out) : Lx (Unit) (Bool) → Option Out := fun x => onL x (fun a => layK r0_Print_L0_out_sp r0_Print_L0_out_rp () () (K (.exit 0))) (fun a => layK r0_Print_L0_ret_sp r0_Print_L0_ret_rp (a, ()) () (K .ret)) (fun _ => none)
def r0_Print_B (n : Nat) {R : Type} (s : BA) (low : Int) (k : Bool → Option R) : Option R :=
 (r0_Print_L0 n n s low (0 : Int)).bind fun x_1 => onL x_1
  (fun a_2 =>
   k true)
  (fun a_3 =>
   k a_3)
  (fun _ => none)
def r0_Print (n : Nat) (s : BA) (low : Int) : Option Bool := r0_Print_B n s low some
theorem r0_Print_N (n : Nat) {R S : Type} (s : BA) (low : Int) (k : Bool → Option R) (φ : R → Option S) : r0_Print_B n s low (fun a => (k a).bind φ) = (r0_Print_B n s low k).bind φ := by
  unfold r0_Print_B
  first | (simp only [dup_self, both_self, iB, bB, oL, oX, nB]) | rfl
def r0_Print_hint (n : Nat) : Hint Out := { live := fun c => (cond (Nat.beq c 0) (lv [0, 1, 5]) []), run := fun c => (cond (Nat.beq c 0) (some (runL r0_Print_L0_sp r0_Print_L0_rp fun σ ρ K => (r0_Print_L0 n n σ.1 σ.2.1 σ.2.2.1).bind (r0_Print_L0_K K))) none), xm := fun c q => (cond (Nat.beq c 0 && Nat.beq (q.getD 1000000) 0 && q.isSome) (some []) (cond (Nat.beq c 1 && q.isNone) (some [(4, none)]) none)) }
def r0_Print_L0_I (n : Nat) (K : XE → List AV → AHeap → Option Out) (m : Nat) (s1 : BA) (low1 : Int) (i : Int) : Option Out := loopI tys (callees Out (r4_size_es n)) (r0_Print_hint n) n (codeAt [1, 0, 1, 0, 0] (bodyOf Tryz.f57)) 0 r0_Print_L0_sp r0_Print_L0_rp K m (s1, (low1, (i, ()))) ()
theorem r0_Print_L0_E (n : Nat) (K : XE → List AV → AHeap → Option Out) : ∀ (m : Nat) (s1 : BA) (low1 : Int) (i : Int), r0_Print_L0_I n K m s1 low1 i = (r0_Print_L0 n m s1 low1 i).bind (r0_Print_L0_K K)
  | 0, s1, low1, i => by kernel_rfl
  | m + 1, s1, low1, i => by
    have h1 : r0_Print_L0_I n K (m + 1) s1 low1 i = r0_Print_B0 n s1 low1 i (fun s1 low1 i => r0_Print_L0_I n K m s1 low1 i) (fun a => r0_Print_L0_K K (.out a)) (fun a => r0_Print_L0_K K (.ret a)) (fun p => r0_Print_L0_K K (.pan p)) := by kernel_rfl
    have h2 : (fun s1 low1 i => r0_Print_L0_I n K m s1 low1 i) = (fun s1 low1 i => (r0_Print_L0 n m s1 low1 i).bind (r0_Print_L0_K K)) := funext fun s1 => funext fun low1 => funext fun i => r0_Print_L0_E n K m s1 low1 i
    exact h1.trans ((congrArg (fun z => r0_Print_B0 n s1 low1 i z (fun a => r0_Print_L0_K K (.out a)) (fun a => r0_Print_L0_K K (.ret a)) (fun p => r0_Print_L0_K K (.pan p))) h2).trans (r0_Print_B0_N n s1 low1 i (fun s1 low1 i => r0_Print_L0 n m s1 low1 i) (fun a => some (.out a)) (fun a => some (.ret a)) (fun p => some (.pan p)) (r0_Print_L0_K K)))
theorem r0_Print_L0_ok (n : Nat) : RunOk tys (callees Out (r4_size_es n)) (r0_Print_hint n) n (codeAt [1, 0, 1, 0, 0] (bodyOf Tryz.f57)) 0 := runOk_of (sp := r0_Print_L0_sp) (rp := r0_Print_L0_rp) (F := fun σ ρ K => (r0_Print_L0 n n σ.1 σ.2.1 σ.2.2.1).bind (r0_Print_L0_K K)) (by kernel_rfl) fun K σ ρ => r0_Print_L0_E n K n σ.1 σ.2.1 σ.2.2.1
theorem r0_Print_runs (n : Nat) : RunsOk tys (callees Out (r4_size_es n)) (r0_Print_hint n) n (bodyOf Tryz.f57) 0 := ⟨trivial, ⟨⟨trivial, ⟨r0_Print_L0_ok n, ⟨⟨trivial, ⟨trivial, trivial⟩⟩, ⟨⟨trivial, ⟨⟨trivial, trivial⟩, trivial⟩⟩, trivial⟩⟩⟩⟩, ⟨trivial, trivial⟩⟩⟩
theorem r0_Print_at : Tryz.prog.funcs[57]? = some Tryz.f57 := by kernel_rfl
theorem r0_Print_ent (n : Nat) : Enters Tryz.prog 57 := enters_of (c := bodyOf Tryz.f57) r0_Print_at (by kernel_rfl) (by kernel_rfl)
theorem r0_Print_E (n : Nat) (s : BA) (low : Int) : fnA tys (callees Out (r4_size_es n)) (r0_Print_hint n) n Tryz.f57 (encL (.pair .str (.pair (.int .u8) .unit)) (s, (low, ()))) [] (soloA fun v => some (.ret v)) (soloA fun v => some (.pan v)) = r0_Print_B n s low (fun y => some (.ret (encR (.one .bool) y))) := by kernel_rfl
def r0_Print_en (n : Nat) : Entry := ⟨57, pcT (.pair .str (.pair (.int .u8) .unit)) (.one .bool) (fun xs => r0_Print n xs.1 xs.2.1), none, none⟩
theorem r0_Print_ok (n : Nat) : EntryOk Tryz.prog gl (r0_Print_en n) :=
  pcT_ok (r0_Print_ent n) fun xs y h => ans_of_fn tys_ok (r4_size_es_ok n) mixed (hint := r0_Print_hint n) (n := n) (fn := Tryz.f57) r0_Print_at (runsC (r0_Print_runs n)) (run_ret (φ := (fun y => some (Out.ret (encR (.one .bool) y)))) ((r0_Print_E n xs.1 xs.2.1).trans (r0_Print_N (R := Bool) (S := Out) n xs.1 xs.2.1 some (fun y => some (Out.ret (encR (.one .bool) y))))) h)
def r0_Print_es (n : Nat) : List Entry := r0_Print_en n :: r4_size_es n
theorem r0_Print_es_ok (n : Nat) : AllOk Tryz.prog gl (r0_Print_es n) := .cons (r0_Print_ok n) (r4_size_es_ok n)
/- pouch/pouchref4.words -/
def r4_words_B0 (n : Nat) {R : Type} (l : (Sq BA)) (i : Int) (kn : (Sq BA) → Int → Option R) (ko : (Unit) → Option R) (kr : (Bool) → Option R) (kp : Int → Option R) : Option R :=
 if (decide (i < (l.n : Int))) = true then
  if 0 ≤ i ∧ i < (l.n : Int) then
   if ((l.at' (Int.toNat i)).toList == (⟨#[]⟩ : BA).toList) = false then
    if 0 ≤ i ∧ i < (l.n : Int) then
     (r0_Print n (l.at' (Int.toNat i)) (33 : Int)).bind fun v1 =>
     if (!v1) = true then
      kr false
     else
      kn l (IntKind.wrap .i64 (i + (1 : Int)))
    else
     none
   else
    kr false
  else
   none
 else
  ko ()
theorem r4_words_B0_N (n : Nat) {R S : Type} (l : (Sq BA)) (i : Int) (kn : (Sq BA) → Int → Option R) (ko : (Unit) → Option R) (kr : (Bool) → Option R) (kp : Int → Option R) (φ : R → Option S) : r4_words_B0 n l i (fun l i => (kn l i).bind φ) (fun a => (ko a).bind φ) (fun a => (kr a).bind φ) (fun a => (kp a).bind φ) = (r4_words_B0 n l i kn ko kr kp).bind φ := by
  unfold r4_words_B0
  first | (simp only [dup_self, both_self, iB, bB, oL, oX, nB]) | rfl
def r4_words_L0 (n : Nat) : Nat → (Sq BA) → Int → Option (Lx (Unit) (Bool))
  | 0, _, _ => none
  | m + 1, l, i => r4_words_B0 n l i (fun l i => r4_words_L0 n m l i) (fun a => some (.out a)) (fun a => some (.ret a)) (fun p => some (.pan p))
def r4_words_L0_sp : List Sl := .top :: .top :: .top :: .dat (.sl .str) :: .dat (.int .i64) :: tp 24 []
def r4_words_L0_rp : List RS := []
def r4_words_L0_out_sp : List Sl := tp 29 []
def r4_words_L0_out_rp : List RS := []
def r4_words_L0_ret_sp : List Sl := .top :: .top :: .dat .bool :: tp 26 []
def r4_words_L0_ret_rp : List RS := []
def r4_words_L0_K (K : XE → List AV → AHeap → Option Out) : Lx (Unit) (Bool) → Option Out := fun x => onL x (fun a => layK r4_words_L0_out_sp r4_words_L0_out_rp () () (K (.exit 0))) (fun a => layK r4_words_L0_ret_sp r4_words_L0_ret_rp (a, ()) () (K .ret)) (fun _ => none)
def r4_words_B (n : Nat) {R : Type} (s : BA) (k : Bool → Option R) : Option R :=
 if (decide ((s.size : Int) > (64 : Int))) = true then
  k false
 else
  (r0_Split n s (32 : Int)).bind fun v =>
  (r4_words_L0 n n v (0 : Int)).bind fun x_1 => onL x_1
   (fun a_2 =>
    k true)
   (fun a_3 =>
    k a_3)
   (fun _ => none)
def r4_words (n : Nat) (s : BA) : Option Bool := r4_words_B n s some
theorem r4_words_N (n : Nat) {R S : Type} (s : BA) (k : Bool → Option R) (φ : R → Option S) : r4_words_B n s (fun a => (k a).bind φ) = (r4_words_B n s k).bind φ := by
  unfold r4_words_B
  first | (simp only [dup_self, both_self, iB, bB, oL, oX, nB]) | rfl
def r4_words_hint (n : Nat) : Hint Out := { live := fun c => (cond (Nat.beq c 0) [(3, some (.sl .str)), (4, none)] []), run := fun c => (cond (Nat.beq c 0) (some (runL r4_words_L0_sp r4_words_L0_rp fun σ ρ K => (r4_words_L0 n n σ.1 σ.2.1).bind (r4_words_L0_K K))) none), xm := fun c q => (cond (Nat.beq c 0 && Nat.beq (q.getD 1000000) 0 && q.isSome) (some []) (cond (Nat.beq c 1 && q.isNone) (some [(2, none)]) none)) }
def r4_words_L0_I (n : Nat) (K : XE → List AV → AHeap → Option Out) (m : Nat) (l : (Sq BA)) (i : Int) : Option Out := loopI tys (callees Out (r0_Print_es n)) (r4_words_hint n) n (codeAt [1, 1, 1, 0, 1, 0, 0] (bodyOf Tryz.f40)) 0 r4_words_L0_sp r4_words_L0_rp K m (l, (i, ())) ()
theorem r4_words_L0_E (n : Nat) (K : XE → List AV → AHeap → Option Out) : ∀ (m : Nat) (l : (Sq BA)) (i : Int), r4_words_L0_I n K m l i = (r4_words_L0 n m l i).bind (r4_words_L0_K K)
  | 0, l, i => by kernel_rfl
  | m + 1, l, i => by
    have h1 : r4_words_L0_I n K (m + 1) l i = r4_words_B0 n l i (fun l i => r4_words_L0_I n K m l i) (fun a => r4_words_L0_K K (.out a)) (fun a => r4_words_L0_K K (.ret a)) (fun p => r4_words_L0_K K (.pan p)) := by kernel_rfl
    have h2 : (fun l i => r4_words_L0_I n K m l i) = (fun l i => (r4_words_L0 n m l i).bind (r4_words_L0_K K)) := funext fun l => funext fun i => r4_words_L0_E n K m l i
    exact h1.trans ((congrArg (fun z => r4_words_B0 n l i z (fun a => r4_words_L0_K K (.out a)) (fun a => r4_words_L0_K K (.ret a)) (fun p => r4_words_L0_K K (.pan p))) h2).trans (r4_words_B0_N n l i (fun l i => r4_words_L0 n m l i) (fun a => some (.out a)) (fun a => some (.ret a)) (fun p => some (.pan p)) (r4_words_L0_K K)))
theorem r4_words_L0_ok (n : Nat) : RunOk tys (callees Out (r0_Print_es n)) (r4_words_hint n) n (codeAt [1, 1, 1, 0, 1, 0, 0] (bodyOf Tryz.f40)) 0 := runOk_of (sp := r4_words_L0_sp) (rp := r4_words_L0_rp) (F := fun σ ρ K => (r4_words_L0 n n σ.1 σ.2.1).bind (r4_words_L0_K K)) (by kernel_rfl) fun K σ ρ => r4_words_L0_E n K n σ.1 σ.2.1
theorem r4_words_runs (n : Nat) : RunsOk tys (callees Out (r0_Print_es n)) (r4_words_hint n) n (bodyOf Tryz.f40) 0 := ⟨trivial, ⟨⟨trivial, ⟨⟨trivial, trivial⟩, trivial⟩⟩, ⟨trivial, ⟨⟨trivial, ⟨r4_words_L0_ok n, ⟨⟨trivial, ⟨trivial, trivial⟩⟩, ⟨⟨trivial, ⟨⟨trivial, trivial⟩, trivial⟩⟩, trivial⟩⟩⟩⟩, ⟨trivial, trivial⟩⟩⟩⟩⟩
theorem r4_words_at : Tryz.prog.funcs[40]? = some Tryz.f40 := by kernel_rfl
theorem r4_words_ent (n : Nat) : Enters Tryz.prog 40 := enters_of (c := bodyOf Tryz.f40) r4_words_at (by kernel_rfl) (by kernel_rfl)
theorem r4_words_E (n : Nat) (s : BA) : fnA tys (callees Out (r0_Print_es n)) (r4_words_hint n) n Tryz.f40 (encL (.pair .str .unit) (s, ())) [] (soloA fun v => some (.ret v)) (soloA fun v => some (.pan v)) = r4_words_B n s (fun y => some (.ret (encR (.one .bool) y))) := by kernel_rfl
def r4_words_en (n : Nat) : Entry := ⟨40, pcT (.pair .str .unit) (.one .bool) (fun xs => r4_words n xs.1), none, none⟩
theorem r4_words_ok (n : Nat) : EntryOk Tryz.prog gl (r4_words_en n) :=
  pcT_ok (r4_words_ent n) fun xs y h => ans_of_fn tys_ok (r0_Print_es_ok n) mixed (hint := r4_words_hint n) (n := n) (fn := Tryz.f40) r4_words_at (runsC (r4_words_runs n)) (run_ret (φ := (fun y => some (Out.ret (encR (.one .bool) y)))) ((r4_words_E n xs.1).trans (r4_words_N (R := Bool) (S := Out) n xs.1 some (fun y => some (Out.ret (encR (.one .bool) y))))) h)
def r4_words_es (n : Nat) : List Entry := r4_words_en n :: r0_Print_es n
theorem r4_words_es_ok (n : Nat) : AllOk Tryz.prog gl (r4_words_es n) := .cons (r4_words_ok n) (r0_Print_es_ok n)
/- pouch/pouchref4.Verb -/
def r4_Verb_B (n : Nat) {R : Type} (v : T0) (k : Bool → Option R) : Option R :=
 if (v.1 == (1 : Int)) = true then
  if ((v.1 == v.1) && ((v.2.1.toList == v.2.1.toList) && ((v.2.2.1 == false) && (((v.2.2.2.1.1.toList == (⟨#[]⟩ : BA).toList) && ((v.2.2.2.1.2.1.toList == (⟨#[]⟩ : BA).toList) && true)) && ((v.2.2.2.2.1 == (0 : Int)) && true))))) = true then
   (r4_Domain n v.2.1).bind fun v1 =>
   k v1
  else
   k false
 else
  if (v.1 == (2 : Int)) = true then
   if ((v.1 == v.1) && ((v.2.1.toList == v.2.1.toList) && ((v.2.2.1 == false) && (((v.2.2.2.1.1.toList == (⟨#[]⟩ : BA).toList) && ((v.2.2.2.1.2.1.toList == (⟨#[]⟩ : BA).toList) && true)) && ((v.2.2.2.2.1 == (0 : Int)) && true))))) = true then
    (r4_Domain n v.2.1).bind fun v2 =>
    k v2
   else
    k false
  else
   if (v.1 == (3 : Int)) = true then
    both (
     both (
      if v.2.2.1 = true then
       if ((v.2.2.2.1.1.toList == (⟨#[]⟩ : BA).toList) && ((v.2.2.2.1.2.1.toList == (⟨#[]⟩ : BA).toList) && true)) = false then
        if (!v.2.2.1) = true then
         (r4_May n (v.2.2.2.1.1, (v.2.2.2.1.2.1, ()))).bind fun v3 =>
         if ((v.1 == v.1) && ((v.2.1.toList == (⟨#[]⟩ : BA).toList) && ((v.2.2.1 == v.2.2.1) && (((v.2.2.2.1.1.toList == v.2.2.2.1.1.toList) && ((v.2.2.2.1.2.1.toList == v.2.2.2.1.2.1.toList) && true)) && ((v.2.2.2.2.1 == v.2.2.2.2.1) && true))))) = true then
          if v3 = true then
           if (decide (v.2.2.2.2.1 ≥ (-1 : Int))) = true then
            k (decide (v.2.2.2.2.1 ≤ (1073741824 : Int)))
           else
            k false
          else
           k false
         else
          k false
        else
         if ((v.1 == v.1) && ((v.2.1.toList == (⟨#[]⟩ : BA).toList) && ((v.2.2.1 == v.2.2.1) && (((v.2.2.2.1.1.toList == v.2.2.2.1.1.toList) && ((v.2.2.2.1.2.1.toList == v.2.2.2.1.2.1.toList) && true)) && ((v.2.2.2.2.1 == v.2.2.2.2.1) && true))))) = true then
          k false
         else
          k false
       else
        if ((v.1 == v.1) && ((v.2.1.toList == (⟨#[]⟩ : BA).toList) && ((v.2.2.1 == v.2.2.1) && (((v.2.2.2.1.1.toList == v.2.2.2.1.1.toList) && ((v.2.2.2.1.2.1.toList == v.2.2.2.1.2.1.toList) && true)) && ((v.2.2.2.2.1 == v.2.2.2.2.1) && true))))) = true then
         if (decide (v.2.2.2.2.1 ≥ (-1 : Int))) = true then
          k (decide (v.2.2.2.2.1 ≤ (1073741824 : Int)))
         else
          k false
        else
         k false
      else
       if (!v.2.2.1) = true then
        (r4_May n (v.2.2.2.1.1, (v.2.2.2.1.2.1, ()))).bind fun v4 =>
        if ((v.1 == v.1) && ((v.2.1.toList == (⟨#[]⟩ : BA).toList) && ((v.2.2.1 == v.2.2.1) && (((v.2.2.2.1.1.toList == v.2.2.2.1.1.toList) && ((v.2.2.2.1.2.1.toList == v.2.2.2.1.2.1.toList) && true)) && ((v.2.2.2.2.1 == v.2.2.2.2.1) && true))))) = true then
         if v4 = true then
          if (decide (v.2.2.2.2.1 ≥ (-1 : Int))) = true then
           k (decide (v.2.2.2.2.1 ≤ (1073741824 : Int)))
          else
           k false
         else
          k false
        else
         k false
       else
        if ((v.1 == v.1) && ((v.2.1.toList == (⟨#[]⟩ : BA).toList) && ((v.2.2.1 == v.2.2.1) && (((v.2.2.2.1.1.toList == v.2.2.2.1.1.toList) && ((v.2.2.2.1.2.1.toList == v.2.2.2.1.2.1.toList) && true)) && ((v.2.2.2.2.1 == v.2.2.2.2.1) && true))))) = true then
         k false
        else
         k false) (
      dup 1 (
       if v.2.2.1 = true then
        if ((v.2.2.2.1.1.toList == (⟨#[]⟩ : BA).toList) && ((v.2.2.2.1.2.1.toList == (⟨#[]⟩ : BA).toList) && true)) = false then
         if (!v.2.2.1) = true then
          (r4_May n (v.2.2.2.1.1, (v.2.2.2.1.2.1, ()))).bind fun v5 =>
          if ((v.1 == v.1) && ((v.2.1.toList == (⟨#[]⟩ : BA).toList) && ((v.2.2.1 == v.2.2.1) && (((v.2.2.2.1.1.toList == v.2.2.2.1.1.toList) && ((v.2.2.2.1.2.1.toList == v.2.2.2.1.2.1.toList) && true)) && ((v.2.2.2.2.1 == v.2.2.2.2.1) && true))))) = true then
           if v5 = true then
            if (decide (v.2.2.2.2.1 ≥ (-1 : Int))) = true then
             k (decide (v.2.2.2.2.1 ≤ (1073741824 : Int)))
            else
             k false
           else
            k false
          else
           k false
         else
          if ((v.1 == v.1) && ((v.2.1.toList == (⟨#[]⟩ : BA).toList) && ((v.2.2.1 == v.2.2.1) && (((v.2.2.2.1.1.toList == v.2.2.2.1.1.toList) && ((v.2.2.2.1.2.1.toList == v.2.2.2.1.2.1.toList) && true)) && ((v.2.2.2.2.1 == v.2.2.2.2.1) && true))))) = true then
           k false
          else
           k false
        else
         if ((v.1 == v.1) && ((v.2.1.toList == (⟨#[]⟩ : BA).toList) && ((v.2.2.1 == v.2.2.1) && (((v.2.2.2.1.1.toList == v.2.2.2.1.1.toList) && ((v.2.2.2.1.2.1.toList == v.2.2.2.1.2.1.toList) && true)) && ((v.2.2.2.2.1 == v.2.2.2.2.1) && true))))) = true then
          if (decide (v.2.2.2.2.1 ≥ (-1 : Int))) = true then
           k (decide (v.2.2.2.2.1 ≤ (1073741824 : Int)))
          else
           k false
         else
          k false
       else
        if (!v.2.2.1) = true then
         (r4_May n (v.2.2.2.1.1, (v.2.2.2.1.2.1, ()))).bind fun v6 =>
         if ((v.1 == v.1) && ((v.2.1.toList == (⟨#[]⟩ : BA).toList) && ((v.2.2.1 == v.2.2.1) && (((v.2.2.2.1.1.toList == v.2.2.2.1.1.toList) && ((v.2.2.2.1.2.1.toList == v.2.2.2.1.2.1.toList) && true)) && ((v.2.2.2.2.1 == v.2.2.2.2.1) && true))))) = true then
          if v6 = true then
           if (decide (v.2.2.2.2.1 ≥ (-1 : Int))) = true then
            k (decide (v.2.2.2.2.1 ≤ (1073741824 : Int)))
           else
            k false
          else
           k false
         else
          k false
        else
         if ((v.1 == v.1) && ((v.2.1.toList == (⟨#[]⟩ : BA).toList) && ((v.2.2.1 == v.2.2.1) && (((v.2.2.2.1.1.toList == v.2.2.2.1.1.toList) && ((v.2.2.2.1.2.1.toList == v.2.2.2.1.2.1.toList) && true)) && ((v.2.2.2.2.1 == v.2.2.2.2.1) && true))))) = true then
          k false
         else
          k false))) (
     both (
      dup 1 (
       if v.2.2.1 = true then
        if ((v.2.2.2.1.1.toList == (⟨#[]⟩ : BA).toList) && ((v.2.2.2.1.2.1.toList == (⟨#[]⟩ : BA).toList) && true)) = false then
         if (!v.2.2.1) = true then
          (r4_May n (v.2.2.2.1.1, (v.2.2.2.1.2.1, ()))).bind fun v9 =>
          if ((v.1 == v.1) && ((v.2.1.toList == (⟨#[]⟩ : BA).toList) && ((v.2.2.1 == v.2.2.1) && (((v.2.2.2.1.1.toList == v.2.2.2.1.1.toList) && ((v.2.2.2.1.2.1.toList == v.2.2.2.1.2.1.toList) && true)) && ((v.2.2.2.2.1 == v.2.2.2.2.1) && true))))) = true then
           if v9 = true then
            if (decide (v.2.2.2.2.1 ≥ (-1 : Int))) = true then
             k (decide (v.2.2.2.2.1 ≤ (1073741824 : Int)))
            else
             k false
           else
            k false
          else
           k false
         else
          if ((v.1 == v.1) && ((v.2.1.toList == (⟨#[]⟩ : BA).toList) && ((v.2.2.1 == v.2.2.1) && (((v.2.2.2.1.1.toList == v.2.2.2.1.1.toList) && ((v.2.2.2.1.2.1.toList == v.2.2.2.1.2.1.toList) && true)) && ((v.2.2.2.2.1 == v.2.2.2.2.1) && true))))) = true then
           k false
          else
           k false
        else
         if ((v.1 == v.1) && ((v.2.1.toList == (⟨#[]⟩ : BA).toList) && ((v.2.2.1 == v.2.2.1) && (((v.2.2.2.1.1.toList == v.2.2.2.1.1.toList) && ((v.2.2.2.1.2.1.toList == v.2.2.2.1.2.1.toList) && true)) && ((v.2.2.2.2.1 == v.2.2.2.2.1) && true))))) = true then
          if (decide (v.2.2.2.2.1 ≥ (-1 : Int))) = true then
           k (decide (v.2.2.2.2.1 ≤ (1073741824 : Int)))
          else
           k false
         else
          k false
       else
        if (!v.2.2.1) = true then
         (r4_May n (v.2.2.2.1.1, (v.2.2.2.1.2.1, ()))).bind fun v10 =>
         if ((v.1 == v.1) && ((v.2.1.toList == (⟨#[]⟩ : BA).toList) && ((v.2.2.1 == v.2.2.1) && (((v.2.2.2.1.1.toList == v.2.2.2.1.1.toList) && ((v.2.2.2.1.2.1.toList == v.2.2.2.1.2.1.toList) && true)) && ((v.2.2.2.2.1 == v.2.2.2.2.1) && true))))) = true then
          if v10 = true then
           if (decide (v.2.2.2.2.1 ≥ (-1 : Int))) = true then
            k (decide (v.2.2.2.2.1 ≤ (1073741824 : Int)))
           else
            k false
          else
           k false
         else
          k false
        else
         if ((v.1 == v.1) && ((v.2.1.toList == (⟨#[]⟩ : BA).toList) && ((v.2.2.1 == v.2.2.1) && (((v.2.2.2.1.1.toList == v.2.2.2.1.1.toList) && ((v.2.2.2.1.2.1.toList == v.2.2.2.1.2.1.toList) && true)) && ((v.2.2.2.2.1 == v.2.2.2.2.1) && true))))) = true then
          k false
         else
          k false)) (
      both (
       dup 1 (
        if v.2.2.1 = true then
         if ((v.2.2.2.1.1.toList == (⟨#[]⟩ : BA).toList) && ((v.2.2.2.1.2.1.toList == (⟨#[]⟩ : BA).toList) && true)) = false then
          if (!v.2.2.1) = true then
           (r4_May n (v.2.2.2.1.1, (v.2.2.2.1.2.1, ()))).bind fun v13 =>
           if ((v.1 == v.1) && ((v.2.1.toList == (⟨#[]⟩ : BA).toList) && ((v.2.2.1 == v.2.2.1) && (((v.2.2.2.1.1.toList == v.2.2.2.1.1.toList) && ((v.2.2.2.1.2.1.toList == v.2.2.2.1.2.1.toList) && true)) && ((v.2.2.2.2.1 == v.2.2.2.2.1) && true))))) = true then
            if v13 = true then
             if (decide (v.2.2.2.2.1 ≥ (-1 : Int))) = true then
              k (decide (v.2.2.2.2.1 ≤ (1073741824 : Int)))
             else
              k false
            else
             k false
           else
            k false
          else
           if ((v.1 == v.1) && ((v.2.1.toList == (⟨#[]⟩ : BA).toList) && ((v.2.2.1 == v.2.2.1) && (((v.2.2.2.1.1.toList == v.2.2.2.1.1.toList) && ((v.2.2.2.1.2.1.toList == v.2.2.2.1.2.1.toList) && true)) && ((v.2.2.2.2.1 == v.2.2.2.2.1) && true))))) = true then
            k false
           else
            k false
         else
          if ((v.1 == v.1) && ((v.2.1.toList == (⟨#[]⟩ : BA).toList) && ((v.2.2.1 == v.2.2.1) && (((v.2.2.2.1.1.toList == v.2.2.2.1.1.toList) && ((v.2.2.2.1.2.1.toList == v.2.2.2.1.2.1.toList) && true)) && ((v.2.2.2.2.1 == v.2.2.2.2.1) && true))))) = true then
           if (decide (v.2.2.2.2.1 ≥ (-1 : Int))) = true then
            k (decide (v.2.2.2.2.1 ≤ (1073741824 : Int)))
           else
            k false
          else
           k false
        else
         if (!v.2.2.1) = true then
          (r4_May n (v.2.2.2.1.1, (v.2.2.2.1.2.1, ()))).bind fun v14 =>
          if ((v.1 == v.1) && ((v.2.1.toList == (⟨#[]⟩ : BA).toList) && ((v.2.2.1 == v.2.2.1) && (((v.2.2.2.1.1.toList == v.2.2.2.1.1.toList) && ((v.2.2.2.1.2.1.toList == v.2.2.2.1.2.1.toList) && true)) && ((v.2.2.2.2.1 == v.2.2.2.2.1) && true))))) = true then
           if v14 = true then
            if (decide (v.2.2.2.2.1 ≥ (-1 : Int))) = true then
             k (decide (v.2.2.2.2.1 ≤ (1073741824 : Int)))
            else
             k false
           else
            k false
          else
           k false
         else
          if ((v.1 == v.1) && ((v.2.1.toList == (⟨#[]⟩ : BA).toList) && ((v.2.2.1 == v.2.2.1) && (((v.2.2.2.1.1.toList == v.2.2.2.1.1.toList) && ((v.2.2.2.1.2.1.toList == v.2.2.2.1.2.1.toList) && true)) && ((v.2.2.2.2.1 == v.2.2.2.2.1) && true))))) = true then
           k false
          else
           k false)) (
       if v.2.2.1 = true then
        if ((v.2.2.2.1.1.toList == (⟨#[]⟩ : BA).toList) && ((v.2.2.2.1.2.1.toList == (⟨#[]⟩ : BA).toList) && true)) = false then
         if (!v.2.2.1) = true then
          (r4_May n (v.2.2.2.1.1, (v.2.2.2.1.2.1, ()))).bind fun v17 =>
          if ((v.1 == v.1) && ((v.2.1.toList == (⟨#[]⟩ : BA).toList) && ((v.2.2.1 == v.2.2.1) && (((v.2.2.2.1.1.toList == v.2.2.2.1.1.toList) && ((v.2.2.2.1.2.1.toList == v.2.2.2.1.2.1.toList) && true)) && ((v.2.2.2.2.1 == v.2.2.2.2.1) && true))))) = true then
           if v17 = true then
            if (decide (v.2.2.2.2.1 ≥ (-1 : Int))) = true then
             k (decide (v.2.2.2.2.1 ≤ (1073741824 : Int)))
            else
             k false
           else
            k false
          else
           k false
         else
          if ((v.1 == v.1) && ((v.2.1.toList == (⟨#[]⟩ : BA).toList) && ((v.2.2.1 == v.2.2.1) && (((v.2.2.2.1.1.toList == v.2.2.2.1.1.toList) && ((v.2.2.2.1.2.1.toList == v.2.2.2.1.2.1.toList) && true)) && ((v.2.2.2.2.1 == v.2.2.2.2.1) && true))))) = true then
           k false
          else
           k false
        else
         if ((v.1 == v.1) && ((v.2.1.toList == (⟨#[]⟩ : BA).toList) && ((v.2.2.1 == v.2.2.1) && (((v.2.2.2.1.1.toList == v.2.2.2.1.1.toList) && ((v.2.2.2.1.2.1.toList == v.2.2.2.1.2.1.toList) && true)) && ((v.2.2.2.2.1 == v.2.2.2.2.1) && true))))) = true then
          if (decide (v.2.2.2.2.1 ≥ (-1 : Int))) = true then
           k (decide (v.2.2.2.2.1 ≤ (1073741824 : Int)))
          else
           k false
         else
          k false
       else
        if (!v.2.2.1) = true then
         (r4_May n (v.2.2.2.1.1, (v.2.2.2.1.2.1, ()))).bind fun v18 =>
         if ((v.1 == v.1) && ((v.2.1.toList == (⟨#[]⟩ : BA).toList) && ((v.2.2.1 == v.2.2.1) && (((v.2.2.2.1.1.toList == v.2.2.2.1.1.toList) && ((v.2.2.2.1.2.1.toList == v.2.2.2.1.2.1.toList) && true)) && ((v.2.2.2.2.1 == v.2.2.2.2.1) && true))))) = true then
          if v18 = true then
           if (decide (v.2.2.2.2.1 ≥ (-1 : Int))) = true then
            k (decide (v.2.2.2.2.1 ≤ (1073741824 : Int)))
           else
            k false
          else
           k false
         else
          k false
        else
         if ((v.1 == v.1) && ((v.2.1.toList == (⟨#[]⟩ : BA).toList) && ((v.2.2.1 == v.2.2.1) && (((v.2.2.2.1.1.toList == v.2.2.2.1.1.toList) && ((v.2.2.2.1.2.1.toList == v.2.2.2.1.2.1.toList) && true)) && ((v.2.2.2.2.1 == v.2.2.2.2.1) && true))))) = true then
          k false
         else
          k false)))
   else
    if (v.1 == (4 : Int)) = true then
     if ((v.1 == v.1) && ((v.2.1.toList == (⟨#[]⟩ : BA).toList) && ((v.2.2.1 == false) && (((v.2.2.2.1.1.toList == v.2.2.2.1.1.toList) && ((v.2.2.2.1.2.1.toList == v.2.2.2.1.2.1.toList) && true)) && ((v.2.2.2.2.1 == (0 : Int)) && true))))) = true then
      (r4_May n (v.2.2.2.1.1, (v.2.2.2.1.2.1, ()))).bind fun v19 =>
      k v19
     else
      k false
    else
     if (v.1 == (7 : Int)) = true then
      if ((v.1 == v.1) && ((v.2.1.toList == v.2.1.toList) && ((v.2.2.1 == false) && (((v.2.2.2.1.1.toList == (⟨#[]⟩ : BA).toList) && ((v.2.2.2.1.2.1.toList == (⟨#[]⟩ : BA).toList) && true)) && ((v.2.2.2.2.1 == (0 : Int)) && true))))) = true then
       if (v.2.1.toList == (⟨#[]⟩ : BA).toList) = false then
        (r4_words n v.2.1).bind fun v20 =>
        k v20
       else
        k true
      else
       k false
     else
      if (v.1 == (9 : Int)) = true then
       if ((v.1 == v.1) && ((v.2.1.toList == v.2.1.toList) && ((v.2.2.1 == false) && (((v.2.2.2.1.1.toList == (⟨#[]⟩ : BA).toList) && ((v.2.2.2.1.2.1.toList == (⟨#[]⟩ : BA).toList) && true)) && ((v.2.2.2.2.1 == (0 : Int)) && true))))) = true then
        (r4_words n v.2.1).bind fun v21 =>
        k v21
       else
        k false
      else
       if (v.1 == (5 : Int)) = true then
        k ((v.1 == v.1) && ((v.2.1.toList == (⟨#[]⟩ : BA).toList) && ((v.2.2.1 == false) && (((v.2.2.2.1.1.toList == (⟨#[]⟩ : BA).toList) && ((v.2.2.2.1.2.1.toList == (⟨#[]⟩ : BA).toList) && true)) && ((v.2.2.2.2.1 == (0 : Int)) && true)))))
       else
        if (v.1 == (6 : Int)) = true then
         k ((v.1 == v.1) && ((v.2.1.toList == (⟨#[]⟩ : BA).toList) && ((v.2.2.1 == false) && (((v.2.2.2.1.1.toList == (⟨#[]⟩ : BA).toList) && ((v.2.2.2.1.2.1.toList == (⟨#[]⟩ : BA).toList) && true)) && ((v.2.2.2.2.1 == (0 : Int)) && true)))))
        else
         if (v.1 == (8 : Int)) = true then
          k ((v.1 == v.1) && ((v.2.1.toList == (⟨#[]⟩ : BA).toList) && ((v.2.2.1 == false) && (((v.2.2.2.1.1.toList == (⟨#[]⟩ : BA).toList) && ((v.2.2.2.1.2.1.toList == (⟨#[]⟩ : BA).toList) && true)) && ((v.2.2.2.2.1 == (0 : Int)) && true)))))
         else
          k false
def r4_Verb (n : Nat) (v : T0) : Option Bool := r4_Verb_B n v some
theorem r4_Verb_N (n : Nat) {R S : Type} (v : T0) (k : Bool → Option R) (φ : R → Option S) : r4_Verb_B n v (fun a => (k a).bind φ) = (r4_Verb_B n v k).bind φ := by
  unfold r4_Verb_B
  first | (simp only [dup_self, both_self, iB, bB, oL, oX, nB]) | rfl
def r4_Verb_hint (n : Nat) : Hint Out := { live := fun c => [], run := fun c => none, xm := fun c q => none, sch := fun c => (cond (Nat.beq c 8) (some [(0, 0), (2, 0), (4, 0), (1, 1), (6, 0), (7, 5), (3, 7), (5, 7), (8, 6), (9, 2), (10, 6), (11, 2)]) none) }
theorem r4_Verb_runs (n : Nat) : RunsOk tys (callees Out (r4_words_es n)) (r4_Verb_hint n) n (bodyOf Tryz.f22) 0 := runs_noloop (fun _ => rfl) _ _ (by kernel_rfl)
theorem r4_Verb_at : Tryz.prog.funcs[22]? = some Tryz.f22 := by kernel_rfl
theorem r4_Verb_ent (n : Nat) : Enters Tryz.prog 22 := enters_of (c := bodyOf Tryz.f22) r4_Verb_at (by kernel_rfl) (by kernel_rfl)
theorem r4_Verb_E (n : Nat) (v : T0) : fnA tys (callees Out (r4_words_es n)) (r4_Verb_hint n) n Tryz.f22 (encL (.pair (.pair (.int .i64) (.pair .str (.pair .bool (.pair (.pair .str (.pair .str .unit)) (.pair (.int .i64) .unit))))) .unit) (v, ())) [] (soloA fun v => some (.ret v)) (soloA fun v => some (.pan v)) = r4_Verb_B n v (fun y => some (.ret (encR (.one .bool) y))) := by kernel_rfl
def r4_Verb_en (n : Nat) : Entry := ⟨22, pcT (.pair (.pair (.int .i64) (.pair .str (.pair .bool (.pair (.pair .str (.pair .str .unit)) (.pair (.int .i64) .unit))))) .unit) (.one .bool) (fun xs => r4_Verb n xs.1), none, none⟩
theorem r4_Verb_ok (n : Nat) : EntryOk Tryz.prog gl (r4_Verb_en n) :=
  pcT_ok (r4_Verb_ent n) fun xs y h => ans_of_fn tys_ok (r4_words_es_ok n) mixed (hint := r4_Verb_hint n) (n := n) (fn := Tryz.f22) r4_Verb_at (runsC (r4_Verb_runs n)) (run_ret (φ := (fun y => some (Out.ret (encR (.one .bool) y)))) ((r4_Verb_E n xs.1).trans (r4_Verb_N (R := Bool) (S := Out) n xs.1 some (fun y => some (Out.ret (encR (.one .bool) y))))) h)
def r4_Verb_es (n : Nat) : List Entry := r4_Verb_en n :: r4_words_es n
theorem r4_Verb_es_ok (n : Nat) : AllOk Tryz.prog gl (r4_Verb_es n) := .cons (r4_Verb_ok n) (r4_words_es_ok n)
end
end Go.Proofs.YtbmcabjgeegjkaaGreatDoor.AM
