/- Typed functions that tell what the Go functions of this seat answer, and proofs of it, by program (gen.py). -/
import Derived.Test.YtpgboapflbpieaaDoorXF0
set_option linter.all false
set_option linter.unusedVariables false
set_option linter.unusedSimpArgs false
set_option maxRecDepth 1000000
set_option maxHeartbeats 0
namespace Go.Proofs.YtpgboapflbpieaaDoor.AM
open Go Go.RowKit
noncomputable section
/- pouch/pouchref4.Literal -/
def r4_Literal_B0 (n : Nat) {R : Type} (l : (Sq BA)) (i : Int) (kn : (Sq BA) → Int → Option R) (ko : ((Sq BA)) → Option R) (kr : (Bool) → Option R) (kp : Int → Option R) : Option R :=
 if (decide (i < (l.n : Int))) = true then
  if 0 ≤ i ∧ i < (l.n : Int) then
   (r0_Value n (l.at' (Int.toNat i))).bind fun v1 =>
   if (!v1.2.1) = false then
    if (decide (v1.1 > (255 : Int))) = true then
     kr false
    else
     kn l (IntKind.wrap .i64 (i + (1 : Int)))
   else
    kr false
  else
   none
 else
  ko l
theorem r4_Literal_B0_N (n : Nat) {R S : Type} (l : (Sq BA)) (i : Int) (kn : (Sq BA) → Int → Option R) (ko : ((Sq BA)) → Option R) (kr : (Bool) → Option R) (kp : Int → Option R) (φ : R → Option S) : r4_Literal_B0 n l i (fun l i => (kn l i).bind φ) (fun a => (ko a).bind φ) (fun a => (kr a).bind φ) (fun a => (kp a).bind φ) = (r4_Literal_B0 n l i kn ko kr kp).bind φ := by
  unfold r4_Literal_B0
  first | (simp only [dup_self, both_self, iB, bB, oL, oX, nB]) | rfl
def r4_Literal_L0 (n : Nat) : Nat → (Sq BA) → Int → Option (Lx ((Sq BA)) (Bool))
  | 0, _, _ => none
  | m + 1, l, i => r4_Literal_B0 n l i (fun l i => r4_Literal_L0 n m l i) (fun a => some (.out a)) (fun a => some (.ret a)) (fun p => some (.pan p))
def r4_Literal_L0_sp : List Sl := .top :: .top :: .top :: .dat (.sl .str) :: .dat (.int .i64) :: tp 47 []
def r4_Literal_L0_rp : List RS := []
def r4_Literal_L0_out_sp : List Sl := .top :: .top :: .top :: .dat (.sl .str) :: tp 48 []
def r4_Literal_L0_out_rp : List RS := []
def r4_Literal_L0_ret_sp : List Sl := .top :: .top :: .dat .bool :: tp 49 []
def r4_Literal_L0_ret_rp : List RS := []
def r4_Literal_L0_K (K : XE → List AV → AHeap → Option Out) : Lx ((Sq BA)) (Bool) → Option Out := fun x => onL x (fun a => layK r4_Literal_L0_out_sp r4_Literal_L0_out_rp (a, ()) () (K (.exit 0))) (fun a => layK r4_Literal_L0_ret_sp r4_Literal_L0_ret_rp (a, ()) () (K .ret)) (fun _ => none)
def r4_Literal_B (n : Nat) {R : Type} (s : BA) (k : Bool → Option R) : Option R :=
 if (decide ((s.size : Int) < (2 : Int))) = false then
  if 0 ≤ (0 : Int) ∧ (0 : Int) < (s.size : Int) then
   if ((bt s (0 : Int)) != (91 : Int)) = false then
    if 0 ≤ (IntKind.wrap .i64 ((s.size : Int) - (1 : Int))) ∧ (IntKind.wrap .i64 ((s.size : Int) - (1 : Int))) < (s.size : Int) then
     if ((bt s (IntKind.wrap .i64 ((s.size : Int) - (1 : Int)))) != (93 : Int)) = true then
      k false
     else
      if 0 ≤ (IntKind.wrap .i64 ((s.size : Int) - (1 : Int))) ∧ (IntKind.wrap .i64 ((s.size : Int) - (1 : Int))) ≤ (s.size : Int) then
       if 0 ≤ (1 : Int) ∧ (1 : Int) ≤ (IntKind.wrap .i64 ((s.size : Int) - (1 : Int))) then
        (r0_Split n (s.extract (Int.toNat (1 : Int)) (Int.toNat (IntKind.wrap .i64 ((s.size : Int) - (1 : Int))))) (46 : Int)).bind fun v =>
        (r4_Literal_L0 n n v (0 : Int)).bind fun x_1 => onL x_1
         (fun a_2 =>
          k ((a_2.n : Int) == (4 : Int)))
         (fun a_3 =>
          k a_3)
         (fun _ => none)
       else
        none
      else
       none
    else
     none
   else
    k false
  else
   none
 else
  k false
def r4_Literal (n : Nat) (s : BA) : Option Bool := r4_Literal_B n s some
theorem r4_Literal_N (n : Nat) {R S : Type} (s : BA) (k : Bool → Option R) (φ : R → Option S) : r4_Literal_B n s (fun a => (k a).bind φ) = (r4_Literal_B n s k).bind φ := by
  unfold r4_Literal_B
  first | (simp only [dup_self, both_self, iB, bB, oL, oX, nB]) | rfl
def r4_Literal_hint (n : Nat) : Hint Out := { live := fun c => (cond (Nat.beq c 0) [(3, some (.sl .str)), (4, none)] []), run := fun c => (cond (Nat.beq c 0) (some (runL r4_Literal_L0_sp r4_Literal_L0_rp fun σ ρ K => (r4_Literal_L0 n n σ.1 σ.2.1).bind (r4_Literal_L0_K K))) none), xm := fun c q => (cond (Nat.beq c 0 && Nat.beq (q.getD 1000000) 0 && q.isSome) (some [(3, some (.sl .str))]) (cond (Nat.beq c 1 && q.isNone) (some [(2, none)]) none)) }
def r4_Literal_L0_I (n : Nat) (K : XE → List AV → AHeap → Option Out) (m : Nat) (l : (Sq BA)) (i : Int) : Option Out := loopI tys (callees Out (r0_Value_es n)) (r4_Literal_hint n) n (codeAt [1, 1, 1, 0, 1, 0, 0] (bodyOf Tryd.f27)) 0 r4_Literal_L0_sp r4_Literal_L0_rp K m (l, (i, ())) ()
theorem r4_Literal_L0_E (n : Nat) (K : XE → List AV → AHeap → Option Out) : ∀ (m : Nat) (l : (Sq BA)) (i : Int), r4_Literal_L0_I n K m l i = (r4_Literal_L0 n m l i).bind (r4_Literal_L0_K K)
  | 0, l, i => by kernel_rfl
  | m + 1, l, i => by
    have h1 : r4_Literal_L0_I n K (m + 1) l i = r4_Literal_B0 n l i (fun l i => r4_Literal_L0_I n K m l i) (fun a => r4_Literal_L0_K K (.out a)) (fun a => r4_Literal_L0_K K (.ret a)) (fun p => r4_Literal_L0_K K (.pan p)) := by kernel_rfl
    have h2 : (fun l i => r4_Literal_L0_I n K m l i) = (fun l i => (r4_Literal_L0 n m l i).bind (r4_Literal_L0_K K)) := funext fun l => funext fun i => r4_Literal_L0_E n K m l i
    exact h1.trans ((congrArg (fun z => r4_Literal_B0 n l i z (fun a => r4_Literal_L0_K K (.out a)) (fun a => r4_Literal_L0_K K (.ret a)) (fun p => r4_Literal_L0_K K (.pan p))) h2).trans (r4_Literal_B0_N n l i (fun l i => r4_Literal_L0 n m l i) (fun a => some (.out a)) (fun a => some (.ret a)) (fun p => some (.pan p)) (r4_Literal_L0_K K)))
theorem r4_Literal_L0_ok (n : Nat) : RunOk tys (callees Out (r0_Value_es n)) (r4_Literal_hint n) n (codeAt [1, 1, 1, 0, 1, 0, 0] (bodyOf Tryd.f27)) 0 := runOk_of (sp := r4_Literal_L0_sp) (rp := r4_Literal_L0_rp) (F := fun σ ρ K => (r4_Literal_L0 n n σ.1 σ.2.1).bind (r4_Literal_L0_K K)) (by kernel_rfl) fun K σ ρ => r4_Literal_L0_E n K n σ.1 σ.2.1
theorem r4_Literal_runs (n : Nat) : RunsOk tys (callees Out (r0_Value_es n)) (r4_Literal_hint n) n (bodyOf Tryd.f27) 0 := ⟨trivial, ⟨⟨trivial, ⟨⟨trivial, trivial⟩, trivial⟩⟩, ⟨trivial, ⟨⟨trivial, ⟨r4_Literal_L0_ok n, ⟨⟨trivial, ⟨trivial, trivial⟩⟩, ⟨⟨trivial, ⟨trivial, ⟨⟨trivial, trivial⟩, trivial⟩⟩⟩, trivial⟩⟩⟩⟩, ⟨trivial, trivial⟩⟩⟩⟩⟩
theorem r4_Literal_at : Tryd.prog.funcs[27]? = some Tryd.f27 := by kernel_rfl
theorem r4_Literal_ent (n : Nat) : Enters Tryd.prog 27 := enters_of (c := bodyOf Tryd.f27) r4_Literal_at (by kernel_rfl) (by kernel_rfl)
theorem r4_Literal_E (n : Nat) (s : BA) : fnA tys (callees Out (r0_Value_es n)) (r4_Literal_hint n) n Tryd.f27 (encL (.pair .str .unit) (s, ())) [] (soloA fun v => some (.ret v)) (soloA fun v => some (.pan v)) = r4_Literal_B n s (fun y => some (.ret (encR (.one .bool) y))) := by kernel_rfl
def r4_Literal_en (n : Nat) : Entry := ⟨27, pcT (.pair .str .unit) (.one .bool) (fun xs => r4_Literal n xs.1), none, none⟩
theorem r4_Literal_ok (n : Nat) : EntryOk Tryd.prog gl (r4_Literal_en n) :=
  pcT_ok (r4_Literal_ent n) fun xs y h => ans_of_fn tys_ok (r0_Value_es_ok n) mixed (hint := r4_Literal_hint n) (n := n) (fn := Tryd.f27) r4_Literal_at (runsC (r4_Literal_runs n)) (run_ret (φ := (fun y => some (Out.ret (encR (.one .bool) y)))) ((r4_Literal_E n xs.1).trans (r4_Literal_N (R := Bool) (S := Out) n xs.1 some (fun y => some (Out.ret (encR (.one .bool) y))))) h)
def r4_Literal_es (n : Nat) : List Entry := r4_Literal_en n :: r0_Value_es n
theorem r4_Literal_es_ok (n : Nat) : AllOk Tryd.prog gl (r4_Literal_es n) := .cons (r4_Literal_ok n) (r0_Value_es_ok n)
/- pouch/pouchref4.Domain -/
def r4_Domain_B1 (n : Nat) {R : Type} (l1 : (Sq BA)) (i1 : Int) (w : BA) (k0 : Int) (kn : (Sq BA) → Int → BA → Int → Option R) (ko : ((Sq BA) × Int) → Option R) (kr : (Bool) → Option R) (kp : Int → Option R) : Option R :=
 if (decide (k0 < (w.size : Int))) = true then
  if 0 ≤ k0 ∧ k0 < (w.size : Int) then
   if (decide ((bt w k0) ≥ (97 : Int))) = true then
    if 0 ≤ k0 ∧ k0 < (w.size : Int) then
     if (!(decide ((bt w k0) ≤ (122 : Int)))) = true then
      if 0 ≤ k0 ∧ k0 < (w.size : Int) then
       (r4_digit n (bt w k0)).bind fun v2 =>
       if (!v2) = true then
        if 0 ≤ k0 ∧ k0 < (w.size : Int) then
         if ((bt w k0) != (45 : Int)) = true then
          kr false
         else
          kn l1 i1 w (IntKind.wrap .i64 (k0 + (1 : Int)))
        else
         none
       else
        kn l1 i1 w (IntKind.wrap .i64 (k0 + (1 : Int)))
      else
       none
     else
      kn l1 i1 w (IntKind.wrap .i64 (k0 + (1 : Int)))
    else
     none
   else
    if 0 ≤ k0 ∧ k0 < (w.size : Int) then
     (r4_digit n (bt w k0)).bind fun v3 =>
     if (!v3) = true then
      if 0 ≤ k0 ∧ k0 < (w.size : Int) then
       if ((bt w k0) != (45 : Int)) = true then
        kr false
       else
        kn l1 i1 w (IntKind.wrap .i64 (k0 + (1 : Int)))
      else
       none
     else
      kn l1 i1 w (IntKind.wrap .i64 (k0 + (1 : Int)))
    else
     none
  else
   none
 else
  ko (l1, i1)
theorem r4_Domain_B1_N (n : Nat) {R S : Type} (l1 : (Sq BA)) (i1 : Int) (w : BA) (k0 : Int) (kn : (Sq BA) → Int → BA → Int → Option R) (ko : ((Sq BA) × Int) → Option R) (kr : (Bool) → Option R) (kp : Int → Option R) (φ : R → Option S) : r4_Domain_B1 n l1 i1 w k0 (fun l1 i1 w k0 => (kn l1 i1 w k0).bind φ) (fun a => (ko a).bind φ) (fun a => (kr a).bind φ) (fun a => (kp a).bind φ) = (r4_Domain_B1 n l1 i1 w k0 kn ko kr kp).bind φ := by
  unfold r4_Domain_B1
  first | (simp only [dup_self, both_self, iB, bB, oL, oX, nB]) | rfl
def r4_Domain_L1 (n : Nat) : Nat → (Sq BA) → Int → BA → Int → Option (Lx ((Sq BA) × Int) (Bool))
  | 0, _, _, _, _ => none
  | m + 1, l1, i1, w, k0 => r4_Domain_B1 n l1 i1 w k0 (fun l1 i1 w k0 => r4_Domain_L1 n m l1 i1 w k0) (fun a => some (.out a)) (fun a => some (.ret a)) (fun p => some (.pan p))
def r4_Domain_L1_sp : List Sl := .top :: .top :: .top :: .dat (.sl .str) :: .dat (.int .i64) :: .dat .str :: .dat (.int .i64) :: tp 68 []
def r4_Domain_L1_rp : List RS := []
def r4_Domain_L1_out_sp : List Sl := .top :: .top :: .top :: .dat (.sl .str) :: .dat (.int .i64) :: tp 70 []
def r4_Domain_L1_out_rp : List RS := []
def r4_Domain_L1_ret_sp : List Sl := .top :: .top :: .dat .bool :: tp 72 []
def r4_Domain_L1_ret_rp : List RS := []
def r4_Domain_L1_K (K : XE → List AV → AHeap → Option Out) : Lx ((Sq BA) × Int) (Bool) → Option Out := fun x => onL x (fun a => layK r4_Domain_L1_out_sp r4_Domain_L1_out_rp (a.1, (a.2, ())) () (K (.exit 2))) (fun a => layK r4_Domain_L1_ret_sp r4_Domain_L1_ret_rp (a, ()) () (K .ret)) (fun _ => none)
def r4_Domain_B0 (n : Nat) {R : Type} (l : (Sq BA)) (i : Int) (kn : (Sq BA) → Int → Option R) (ko : (Unit) → Option R) (kr : (Bool) → Option R) (kp : Int → Option R) : Option R :=
 if (decide (i < (l.n : Int))) = true then
  if 0 ≤ i ∧ i < (l.n : Int) then
   if (decide (((l.at' (Int.toNat i)).size : Int) < (1 : Int))) = false then
    if (decide (((l.at' (Int.toNat i)).size : Int) > (63 : Int))) = false then
     if 0 ≤ (0 : Int) ∧ (0 : Int) < ((l.at' (Int.toNat i)).size : Int) then
      if ((bt (l.at' (Int.toNat i)) (0 : Int)) == (45 : Int)) = false then
       if 0 ≤ (IntKind.wrap .i64 (((l.at' (Int.toNat i)).size : Int) - (1 : Int))) ∧ (IntKind.wrap .i64 (((l.at' (Int.toNat i)).size : Int) - (1 : Int))) < ((l.at' (Int.toNat i)).size : Int) then
        if ((bt (l.at' (Int.toNat i)) (IntKind.wrap .i64 (((l.at' (Int.toNat i)).size : Int) - (1 : Int)))) == (45 : Int)) = true then
         kr false
        else
         (r4_Domain_L1 n n l i (l.at' (Int.toNat i)) (0 : Int)).bind fun x_1 => onL x_1
          (fun a_2 =>
           kn a_2.1 (IntKind.wrap .i64 (a_2.2 + (1 : Int))))
          (fun a_3 =>
           kr a_3)
          (fun _ => none)
       else
        none
      else
       kr false
     else
      none
    else
     kr false
   else
    kr false
  else
   none
 else
  ko ()
theorem r4_Domain_B0_N (n : Nat) {R S : Type} (l : (Sq BA)) (i : Int) (kn : (Sq BA) → Int → Option R) (ko : (Unit) → Option R) (kr : (Bool) → Option R) (kp : Int → Option R) (φ : R → Option S) : r4_Domain_B0 n l i (fun l i => (kn l i).bind φ) (fun a => (ko a).bind φ) (fun a => (kr a).bind φ) (fun a => (kp a).bind φ) = (r4_Domain_B0 n l i kn ko kr kp).bind φ := by
  unfold r4_Domain_B0
  first | (simp only [dup_self, both_self, iB, bB, oL, oX, nB]) | rfl
def r4_Domain_L0 (n : Nat) : Nat → (Sq BA) → Int → Option (Lx (Unit) (Bool))
  | 0, _, _ => none
  | m + 1, l, i => r4_Domain_B0 n l i (fun l i => r4_Domain_L0 n m l i) (fun a => some (.out a)) (fun a => some (.ret a)) (fun p => some (.pan p))
def r4_Domain_L0_sp : List Sl := .top :: .top :: .top :: .dat (.sl .str) :: .dat (.int .i64) :: tp 70 []
def r4_Domain_L0_rp : List RS := []
def r4_Domain_L0_out_sp : List Sl := tp 75 []
def r4_Domain_L0_out_rp : List RS := []
def r4_Domain_L0_ret_sp : List Sl := .top :: .top :: .dat .bool :: tp 72 []
def r4_Domain_L0_ret_rp : List RS := []
def r4_Domain_L0_K (K : XE → List AV → AHeap → Option Out) : Lx (Unit) (Bool) → Option Out := fun x => onL x (fun a => layK r4_Domain_L0_out_sp r4_Domain_L0_out_rp () () (K (.exit 0))) (fun a => layK r4_Domain_L0_ret_sp r4_Domain_L0_ret_rp (a, ()) () (K .ret)) (fun _ => none)
def r4_Domain_B (n : Nat) {R : Type} (s : BA) (k : Bool → Option R) : Option R :=
 if (decide ((s.size : Int) > (255 : Int))) = true then
  k false
 else
  (r4_Literal n s).bind fun v =>
  if v = true then
   k true
  else
   (r0_Split n s (46 : Int)).bind fun v1 =>
   (r4_Domain_L0 n n v1 (0 : Int)).bind fun x_1 => onL x_1
    (fun a_2 =>
     k true)
    (fun a_3 =>
     k a_3)
    (fun _ => none)
def r4_Domain (n : Nat) (s : BA) : Option Bool := r4_Domain_B n s some
theorem r4_Domain_N (n : Nat) {R S : Type} (s : BA) (k : Bool → Option R) (φ : R → Option S) : r4_Domain_B n s (fun a => (k a).bind φ) = (r4_Domain_B n s k).bind φ := by
  unfold r4_Domain_B
  first | (simp only [dup_self, both_self, iB, bB, oL, oX, nB]) | rfl
def r4_Domain_hint (n : Nat) : Hint Out := { live := fun c => (cond (Nat.beq c 0) [(3, some (.sl .str)), (4, none)] (cond (Nat.beq c 2) [(3, some (.sl .str)), (4, none), (5, none), (6, none)] [])), run := fun c => (cond (Nat.beq c 0) (some (runL r4_Domain_L0_sp r4_Domain_L0_rp fun σ ρ K => (r4_Domain_L0 n n σ.1 σ.2.1).bind (r4_Domain_L0_K K))) (cond (Nat.beq c 2) (some (runL r4_Domain_L1_sp r4_Domain_L1_rp fun σ ρ K => (r4_Domain_L1 n n σ.1 σ.2.1 σ.2.2.1 σ.2.2.2.1).bind (r4_Domain_L1_K K))) none)), xm := fun c q => (cond (Nat.beq c 0 && Nat.beq (q.getD 1000000) 0 && q.isSome) (some []) (cond (Nat.beq c 2 && Nat.beq (q.getD 1000000) 2 && q.isSome) (some [(3, some (.sl .str)), (4, none)]) (cond (Nat.beq c 3 && q.isNone) (some [(2, none)]) (cond (Nat.beq c 1 && q.isNone) (some [(2, none)]) none)))) }
def r4_Domain_L1_I (n : Nat) (K : XE → List AV → AHeap → Option Out) (m : Nat) (l1 : (Sq BA)) (i1 : Int) (w : BA) (k0 : Int) : Option Out := loopI tys (callees Out (r4_Literal_es n)) (r4_Domain_hint n) n (codeAt [1, 1, 1, 1, 0, 1, 0, 0, 1, 0, 0, 1, 1, 1, 0, 0] (bodyOf Tryd.f18)) 2 r4_Domain_L1_sp r4_Domain_L1_rp K m (l1, (i1, (w, (k0, ())))) ()
theorem r4_Domain_L1_E (n : Nat) (K : XE → List AV → AHeap → Option Out) : ∀ (m : Nat) (l1 : (Sq BA)) (i1 : Int) (w : BA) (k0 : Int), r4_Domain_L1_I n K m l1 i1 w k0 = (r4_Domain_L1 n m l1 i1 w k0).bind (r4_Domain_L1_K K)
  | 0, l1, i1, w, k0 => by kernel_rfl
  | m + 1, l1, i1, w, k0 => by
    have h1 : r4_Domain_L1_I n K (m + 1) l1 i1 w k0 = r4_Domain_B1 n l1 i1 w k0 (fun l1 i1 w k0 => r4_Domain_L1_I n K m l1 i1 w k0) (fun a => r4_Domain_L1_K K (.out a)) (fun a => r4_Domain_L1_K K (.ret a)) (fun p => r4_Domain_L1_K K (.pan p)) := by kernel_rfl
    have h2 : (fun l1 i1 w k0 => r4_Domain_L1_I n K m l1 i1 w k0) = (fun l1 i1 w k0 => (r4_Domain_L1 n m l1 i1 w k0).bind (r4_Domain_L1_K K)) := funext fun l1 => funext fun i1 => funext fun w => funext fun k0 => r4_Domain_L1_E n K m l1 i1 w k0
    exact h1.trans ((congrArg (fun z => r4_Domain_B1 n l1 i1 w k0 z (fun a => r4_Domain_L1_K K (.out a)) (fun a => r4_Domain_L1_K K (.ret a)) (fun p => r4_Domain_L1_K K (.pan p))) h2).trans (r4_Domain_B1_N n l1 i1 w k0 (fun l1 i1 w k0 => r4_Domain_L1 n m l1 i1 w k0) (fun a => some (.out a)) (fun a => some (.ret a)) (fun p => some (.pan p)) (r4_Domain_L1_K K)))
theorem r4_Domain_L1_ok (n : Nat) : RunOk tys (callees Out (r4_Literal_es n)) (r4_Domain_hint n) n (codeAt [1, 1, 1, 1, 0, 1, 0, 0, 1, 0, 0, 1, 1, 1, 0, 0] (bodyOf Tryd.f18)) 2 := runOk_of (sp := r4_Domain_L1_sp) (rp := r4_Domain_L1_rp) (F := fun σ ρ K => (r4_Domain_L1 n n σ.1 σ.2.1 σ.2.2.1 σ.2.2.2.1).bind (r4_Domain_L1_K K)) (by kernel_rfl) fun K σ ρ => r4_Domain_L1_E n K n σ.1 σ.2.1 σ.2.2.1 σ.2.2.2.1
def r4_Domain_L0_I (n : Nat) (K : XE → List AV → AHeap → Option Out) (m : Nat) (l : (Sq BA)) (i : Int) : Option Out := loopI tys (callees Out (r4_Literal_es n)) (r4_Domain_hint n) n (codeAt [1, 1, 1, 1, 0, 1, 0, 0] (bodyOf Tryd.f18)) 0 r4_Domain_L0_sp r4_Domain_L0_rp K m (l, (i, ())) ()
theorem r4_Domain_L0_E (n : Nat) (K : XE → List AV → AHeap → Option Out) : ∀ (m : Nat) (l : (Sq BA)) (i : Int), r4_Domain_L0_I n K m l i = (r4_Domain_L0 n m l i).bind (r4_Domain_L0_K K)
  | 0, l, i => by kernel_rfl
  | m + 1, l, i => by
    have h1 : r4_Domain_L0_I n K (m + 1) l i = r4_Domain_B0 n l i (fun l i => r4_Domain_L0_I n K m l i) (fun a => r4_Domain_L0_K K (.out a)) (fun a => r4_Domain_L0_K K (.ret a)) (fun p => r4_Domain_L0_K K (.pan p)) := by kernel_rfl
    have h2 : (fun l i => r4_Domain_L0_I n K m l i) = (fun l i => (r4_Domain_L0 n m l i).bind (r4_Domain_L0_K K)) := funext fun l => funext fun i => r4_Domain_L0_E n K m l i
    exact h1.trans ((congrArg (fun z => r4_Domain_B0 n l i z (fun a => r4_Domain_L0_K K (.out a)) (fun a => r4_Domain_L0_K K (.ret a)) (fun p => r4_Domain_L0_K K (.pan p))) h2).trans (r4_Domain_B0_N n l i (fun l i => r4_Domain_L0 n m l i) (fun a => some (.out a)) (fun a => some (.ret a)) (fun p => some (.pan p)) (r4_Domain_L0_K K)))
theorem r4_Domain_L0_ok (n : Nat) : RunOk tys (callees Out (r4_Literal_es n)) (r4_Domain_hint n) n (codeAt [1, 1, 1, 1, 0, 1, 0, 0] (bodyOf Tryd.f18)) 0 := runOk_of (sp := r4_Domain_L0_sp) (rp := r4_Domain_L0_rp) (F := fun σ ρ K => (r4_Domain_L0 n n σ.1 σ.2.1).bind (r4_Domain_L0_K K)) (by kernel_rfl) fun K σ ρ => r4_Domain_L0_E n K n σ.1 σ.2.1
theorem r4_Domain_runs (n : Nat) : RunsOk tys (callees Out (r4_Literal_es n)) (r4_Domain_hint n) n (bodyOf Tryd.f18) 0 := ⟨trivial, ⟨⟨trivial, ⟨⟨trivial, trivial⟩, trivial⟩⟩, ⟨⟨trivial, ⟨⟨trivial, trivial⟩, trivial⟩⟩, ⟨trivial, ⟨⟨trivial, ⟨r4_Domain_L0_ok n, ⟨⟨trivial, ⟨trivial, trivial⟩⟩, ⟨⟨trivial, ⟨⟨trivial, ⟨⟨trivial, trivial⟩, trivial⟩⟩, ⟨trivial, ⟨r4_Domain_L1_ok n, ⟨⟨trivial, ⟨trivial, trivial⟩⟩, ⟨⟨trivial, ⟨⟨trivial, trivial⟩, trivial⟩⟩, trivial⟩⟩⟩⟩⟩⟩, trivial⟩⟩⟩⟩, ⟨trivial, trivial⟩⟩⟩⟩⟩⟩
theorem r4_Domain_at : Tryd.prog.funcs[18]? = some Tryd.f18 := by kernel_rfl
theorem r4_Domain_ent (n : Nat) : Enters Tryd.prog 18 := enters_of (c := bodyOf Tryd.f18) r4_Domain_at (by kernel_rfl) (by kernel_rfl)
theorem r4_Domain_E (n : Nat) (s : BA) : fnA tys (callees Out (r4_Literal_es n)) (r4_Domain_hint n) n Tryd.f18 (encL (.pair .str .unit) (s, ())) [] (soloA fun v => some (.ret v)) (soloA fun v => some (.pan v)) = r4_Domain_B n s (fun y => some (.ret (encR (.one .bool) y))) := by kernel_rfl
def r4_Domain_en (n : Nat) : Entry := ⟨18, pcT (.pair .str .unit) (.one .bool) (fun xs => r4_Domain n xs.1), none, none⟩
theorem r4_Domain_ok (n : Nat) : EntryOk Tryd.prog gl (r4_Domain_en n) :=
  pcT_ok (r4_Domain_ent n) fun xs y h => ans_of_fn tys_ok (r4_Literal_es_ok n) mixed (hint := r4_Domain_hint n) (n := n) (fn := Tryd.f18) r4_Domain_at (runsC (r4_Domain_runs n)) (run_ret (φ := (fun y => some (Out.ret (encR (.one .bool) y)))) ((r4_Domain_E n xs.1).trans (r4_Domain_N (R := Bool) (S := Out) n xs.1 some (fun y => some (Out.ret (encR (.one .bool) y))))) h)
def r4_Domain_es (n : Nat) : List Entry := r4_Domain_en n :: r4_Literal_es n
theorem r4_Domain_es_ok (n : Nat) : AllOk Tryd.prog gl (r4_Domain_es n) := .cons (r4_Domain_ok n) (r4_Literal_es_ok n)
/- pouch/pouchref4.May -/
def r4_May_B (n : Nat) {R : Type} (m0 : (BA × (BA × Unit))) (k : Bool → Option R) : Option R :=
 (r4_Local n m0.1).bind fun v =>
 if v = true then
  (r4_Domain n m0.2.1).bind fun v1 =>
  k v1
 else
  k false
def r4_May (n : Nat) (m0 : (BA × (BA × Unit))) : Option Bool := r4_May_B n m0 some
theorem r4_May_N (n : Nat) {R S : Type} (m0 : (BA × (BA × Unit))) (k : Bool → Option R) (φ : R → Option S) : r4_May_B n m0 (fun a => (k a).bind φ) = (r4_May_B n m0 k).bind φ := by
  unfold r4_May_B
  first | (simp only [dup_self, both_self, iB, bB, oL, oX, nB]) | rfl
def r4_May_hint (n : Nat) : Hint Out := { live := fun c => [], run := fun c => none, xm := fun c q => none }
theorem r4_May_runs (n : Nat) : RunsOk tys (callees Out (r4_Domain_es n)) (r4_May_hint n) n (bodyOf Tryd.f11) 0 := runs_noloop (fun _ => rfl) _ _ (by kernel_rfl)
theorem r4_May_at : Tryd.prog.funcs[11]? = some Tryd.f11 := by kernel_rfl
theorem r4_May_ent (n : Nat) : Enters Tryd.prog 11 := enters_of (c := bodyOf Tryd.f11) r4_May_at (by kernel_rfl) (by kernel_rfl)
theorem r4_May_E (n : Nat) (m0 : (BA × (BA × Unit))) : fnA tys (callees Out (r4_Domain_es n)) (r4_May_hint n) n Tryd.f11 (encL (.pair (.pair .str (.pair .str .unit)) .unit) (m0, ())) [] (soloA fun v => some (.ret v)) (soloA fun v => some (.pan v)) = r4_May_B n m0 (fun y => some (.ret (encR (.one .bool) y))) := by kernel_rfl
def r4_May_en (n : Nat) : Entry := ⟨11, pcT (.pair (.pair .str (.pair .str .unit)) .unit) (.one .bool) (fun xs => r4_May n xs.1), none, none⟩
theorem r4_May_ok (n : Nat) : EntryOk Tryd.prog gl (r4_May_en n) :=
  pcT_ok (r4_May_ent n) fun xs y h => ans_of_fn tys_ok (r4_Domain_es_ok n) mixed (hint := r4_May_hint n) (n := n) (fn := Tryd.f11) r4_May_at (runsC (r4_May_runs n)) (run_ret (φ := (fun y => some (Out.ret (encR (.one .bool) y)))) ((r4_May_E n xs.1).trans (r4_May_N (R := Bool) (S := Out) n xs.1 some (fun y => some (Out.ret (encR (.one .bool) y))))) h)
def r4_May_es (n : Nat) : List Entry := r4_May_en n :: r4_Domain_es n
theorem r4_May_es_ok (n : Nat) : AllOk Tryd.prog gl (r4_May_es n) := .cons (r4_May_ok n) (r4_Domain_es_ok n)
/- pouch/pouchref4.Parse -/
def r4_Parse_B0 (n : Nat) {R : Type} (s1 : BA) (n0 : Int) (t2 : BA) (t21 : BA) (m0 : BA) (m01 : BA) (kn : BA → Int → BA → BA → BA → BA → Option R) (ko : (BA × Int × BA × BA × BA × BA) → Option R) (kr : Unit → Option R) (kp : Int → Option R) : Option R :=
 if (decide (n0 < (s1.size : Int))) = true then
  if 0 ≤ n0 ∧ n0 < (s1.size : Int) then
   if ((bt s1 n0) != (64 : Int)) = true then
    kn s1 (IntKind.wrap .i64 (n0 + (1 : Int))) t2 t21 m0 m01
   else
    ko (s1, n0, t2, t21, m0, m01)
  else
   none
 else
  ko (s1, n0, t2, t21, m0, m01)
theorem r4_Parse_B0_N (n : Nat) {R S : Type} (s1 : BA) (n0 : Int) (t2 : BA) (t21 : BA) (m0 : BA) (m01 : BA) (kn : BA → Int → BA → BA → BA → BA → Option R) (ko : (BA × Int × BA × BA × BA × BA) → Option R) (kr : Unit → Option R) (kp : Int → Option R) (φ : R → Option S) : r4_Parse_B0 n s1 n0 t2 t21 m0 m01 (fun s1 n0 t2 t21 m0 m01 => (kn s1 n0 t2 t21 m0 m01).bind φ) (fun a => (ko a).bind φ) (fun a => (kr a).bind φ) (fun a => (kp a).bind φ) = (r4_Parse_B0 n s1 n0 t2 t21 m0 m01 kn ko kr kp).bind φ := by
  unfold r4_Parse_B0
  first | (simp only [dup_self, both_self, iB, bB, oL, oX, nB]) | rfl
def r4_Parse_L0 (n : Nat) : Nat → BA → Int → BA → BA → BA → BA → Option (Lx (BA × Int × BA × BA × BA × BA) Unit)
  | 0, _, _, _, _, _, _ => none
  | m + 1, s1, n0, t2, t21, m0, m01 => r4_Parse_B0 n s1 n0 t2 t21 m0 m01 (fun s1 n0 t2 t21 m0 m01 => r4_Parse_L0 n m s1 n0 t2 t21 m0 m01) (fun a => some (.out a)) (fun a => some (.ret a)) (fun p => some (.pan p))
def r4_Parse_L0_sp : List Sl := .dat .str :: .top :: .ptr 0 0 0 :: .top :: .ptr 1 0 0 :: tp 4 (.dat (.int .i64) :: tp 64 [])
def r4_Parse_L0_rp : List RS := [.box 25 2 true [.dat .str, .dat .str], .box 25 2 true [.dat .str, .dat .str]]
def r4_Parse_L0_out_sp : List Sl := .dat .str :: .top :: .ptr 0 0 0 :: .top :: .ptr 1 0 0 :: tp 4 (.dat (.int .i64) :: tp 64 [])
def r4_Parse_L0_out_rp : List RS := [.box 25 2 true [.dat .str, .dat .str], .box 25 2 true [.dat .str, .dat .str]]
def r4_Parse_L0_K (K : XE → List AV → AHeap → Option Out) : Lx (BA × Int × BA × BA × BA × BA) Unit → Option Out := fun x => onL x (fun a => layK r4_Parse_L0_out_sp r4_Parse_L0_out_rp (a.1, (a.2.1, ())) ((a.2.2.1, (a.2.2.2.1, ())), ((a.2.2.2.2.1, (a.2.2.2.2.2, ())), ())) (K (.exit 0))) (fun _ => none) (fun _ => none)
def r4_Parse_B (n : Nat) {R : Type} (s : BA) (k : ((BA × (BA × Unit)) × Bool × Unit) → Option R) : Option R :=
 if (decide ((s.size : Int) > (0 : Int))) = true then
  if 0 ≤ (0 : Int) ∧ (0 : Int) < (s.size : Int) then
   if ((bt s (0 : Int)) == (34 : Int)) = true then
    (r4_inner n s).bind fun v =>
    if (!v.2.2.1) = true then
     k (((⟨#[]⟩ : BA), ((⟨#[]⟩ : BA), ())), (false, ()))
    else
     if 0 ≤ v.2.1 ∧ v.2.1 ≤ (s.size : Int) then
      (r4_quote n v.1).bind fun v1 =>
      (r4_plain n v.1).bind fun v2 =>
      if v2 = true then
       if ((s.extract (Int.toNat v.2.1) (Int.toNat (s.size : Int))).toList == (⟨#[]⟩ : BA).toList) = false then
        if 0 ≤ (0 : Int) ∧ (0 : Int) < ((s.extract (Int.toNat v.2.1) (Int.toNat (s.size : Int))).size : Int) then
         if ((bt (s.extract (Int.toNat v.2.1) (Int.toNat (s.size : Int))) (0 : Int)) != (64 : Int)) = true then
          k (((⟨#[]⟩ : BA), ((⟨#[]⟩ : BA), ())), (false, ()))
         else
          if 0 ≤ (1 : Int) ∧ (1 : Int) ≤ ((s.extract (Int.toNat v.2.1) (Int.toNat (s.size : Int))).size : Int) then
           (r0_Lower n ((s.extract (Int.toNat v.2.1) (Int.toNat (s.size : Int))).extract (Int.toNat (1 : Int)) (Int.toNat (((s.extract (Int.toNat v.2.1) (Int.toNat (s.size : Int))).size) : Int)))).bind fun v3 =>
           (r4_May n (v.1, (v3, ()))).bind fun v4 =>
           if (!v4) = true then
            k (((⟨#[]⟩ : BA), ((⟨#[]⟩ : BA), ())), (false, ()))
           else
            k ((v.1, (v3, ())), (true, ()))
          else
           none
        else
         none
       else
        k (((⟨#[]⟩ : BA), ((⟨#[]⟩ : BA), ())), (false, ()))
      else
       if ((s.extract (Int.toNat v.2.1) (Int.toNat (s.size : Int))).toList == (⟨#[]⟩ : BA).toList) = false then
        if 0 ≤ (0 : Int) ∧ (0 : Int) < ((s.extract (Int.toNat v.2.1) (Int.toNat (s.size : Int))).size : Int) then
         if ((bt (s.extract (Int.toNat v.2.1) (Int.toNat (s.size : Int))) (0 : Int)) != (64 : Int)) = true then
          k (((⟨#[]⟩ : BA), ((⟨#[]⟩ : BA), ())), (false, ()))
         else
          if 0 ≤ (1 : Int) ∧ (1 : Int) ≤ ((s.extract (Int.toNat v.2.1) (Int.toNat (s.size : Int))).size : Int) then
           (r0_Lower n ((s.extract (Int.toNat v.2.1) (Int.toNat (s.size : Int))).extract (Int.toNat (1 : Int)) (Int.toNat (((s.extract (Int.toNat v.2.1) (Int.toNat (s.size : Int))).size) : Int)))).bind fun v5 =>
           (r4_May n (v1, (v5, ()))).bind fun v6 =>
           if (!v6) = true then
            k (((⟨#[]⟩ : BA), ((⟨#[]⟩ : BA), ())), (false, ()))
           else
            k ((v1, (v5, ())), (true, ()))
          else
           none
        else
         none
       else
        k (((⟨#[]⟩ : BA), ((⟨#[]⟩ : BA), ())), (false, ()))
     else
      none
   else
    (r4_Parse_L0 n n s (0 : Int) (⟨#[]⟩ : BA) (⟨#[]⟩ : BA) (⟨#[]⟩ : BA) (⟨#[]⟩ : BA)).bind fun x_1 => onL x_1
     (fun a_2 =>
      if 0 ≤ a_2.2.1 ∧ a_2.2.1 ≤ (a_2.1.size : Int) then
       if 0 ≤ a_2.2.1 ∧ a_2.2.1 ≤ (a_2.1.size : Int) then
        if ((a_2.1.extract (Int.toNat a_2.2.1) (Int.toNat (a_2.1.size : Int))).toList == (⟨#[]⟩ : BA).toList) = false then
         if 0 ≤ (0 : Int) ∧ (0 : Int) < ((a_2.1.extract (Int.toNat a_2.2.1) (Int.toNat (a_2.1.size : Int))).size : Int) then
          if ((bt (a_2.1.extract (Int.toNat a_2.2.1) (Int.toNat (a_2.1.size : Int))) (0 : Int)) != (64 : Int)) = true then
           k (((⟨#[]⟩ : BA), ((⟨#[]⟩ : BA), ())), (false, ()))
          else
           if 0 ≤ (1 : Int) ∧ (1 : Int) ≤ ((a_2.1.extract (Int.toNat a_2.2.1) (Int.toNat (a_2.1.size : Int))).size : Int) then
            (r0_Lower n ((a_2.1.extract (Int.toNat a_2.2.1) (Int.toNat (a_2.1.size : Int))).extract (Int.toNat (1 : Int)) (Int.toNat (((a_2.1.extract (Int.toNat a_2.2.1) (Int.toNat (a_2.1.size : Int))).size) : Int)))).bind fun v7 =>
            (r4_May n ((a_2.1.extract (Int.toNat (0 : Int)) (Int.toNat a_2.2.1)), (v7, ()))).bind fun v8 =>
            if (!v8) = true then
             k (((⟨#[]⟩ : BA), ((⟨#[]⟩ : BA), ())), (false, ()))
            else
             k (((a_2.1.extract (Int.toNat (0 : Int)) (Int.toNat a_2.2.1)), (v7, ())), (true, ()))
           else
            none
         else
          none
        else
         k (((⟨#[]⟩ : BA), ((⟨#[]⟩ : BA), ())), (false, ()))
       else
        none
      else
       none)
     (fun _ => none)
     (fun _ => none)
  else
   none
 else
  (r4_Parse_L0 n n s (0 : Int) (⟨#[]⟩ : BA) (⟨#[]⟩ : BA) (⟨#[]⟩ : BA) (⟨#[]⟩ : BA)).bind fun x_3 => onL x_3
   (fun a_4 =>
    if 0 ≤ a_4.2.1 ∧ a_4.2.1 ≤ (a_4.1.size : Int) then
     if 0 ≤ a_4.2.1 ∧ a_4.2.1 ≤ (a_4.1.size : Int) then
      if ((a_4.1.extract (Int.toNat a_4.2.1) (Int.toNat (a_4.1.size : Int))).toList == (⟨#[]⟩ : BA).toList) = false then
       if 0 ≤ (0 : Int) ∧ (0 : Int) < ((a_4.1.extract (Int.toNat a_4.2.1) (Int.toNat (a_4.1.size : Int))).size : Int) then
        if ((bt (a_4.1.extract (Int.toNat a_4.2.1) (Int.toNat (a_4.1.size : Int))) (0 : Int)) != (64 : Int)) = true then
         k (((⟨#[]⟩ : BA), ((⟨#[]⟩ : BA), ())), (false, ()))
        else
         if 0 ≤ (1 : Int) ∧ (1 : Int) ≤ ((a_4.1.extract (Int.toNat a_4.2.1) (Int.toNat (a_4.1.size : Int))).size : Int) then
          (r0_Lower n ((a_4.1.extract (Int.toNat a_4.2.1) (Int.toNat (a_4.1.size : Int))).extract (Int.toNat (1 : Int)) (Int.toNat (((a_4.1.extract (Int.toNat a_4.2.1) (Int.toNat (a_4.1.size : Int))).size) : Int)))).bind fun v9 =>
          (r4_May n ((a_4.1.extract (Int.toNat (0 : Int)) (Int.toNat a_4.2.1)), (v9, ()))).bind fun v10 =>
          if (!v10) = true then
           k (((⟨#[]⟩ : BA), ((⟨#[]⟩ : BA), ())), (false, ()))
          else
           k (((a_4.1.extract (Int.toNat (0 : Int)) (Int.toNat a_4.2.1)), (v9, ())), (true, ()))
         else
          none
       else
        none
      else
       k (((⟨#[]⟩ : BA), ((⟨#[]⟩ : BA), ())), (false, ()))
     else
      none
    else
     none)
   (fun _ => none)
   (fun _ => none)
def r4_Parse (n : Nat) (s : BA) : Option ((BA × (BA × Unit)) × Bool × Unit) := r4_Parse_B n s some
theorem r4_Parse_N (n : Nat) {R S : Type} (s : BA) (k : ((BA × (BA × Unit)) × Bool × Unit) → Option R) (φ : R → Option S) : r4_Parse_B n s (fun a => (k a).bind φ) = (r4_Parse_B n s k).bind φ := by
  unfold r4_Parse_B
  first | (simp only [dup_self, both_self, iB, bB, oL, oX, nB]) | rfl
def r4_Parse_hint (n : Nat) : Hint Out := { live := fun c => (cond (Nat.beq c 0) (lv [0, 2, 4, 9]) []), run := fun c => (cond (Nat.beq c 0) (some (runL r4_Parse_L0_sp r4_Parse_L0_rp fun σ ρ K => (r4_Parse_L0 n n σ.1 σ.2.1 ρ.1.1 ρ.1.2.1 ρ.2.1.1 ρ.2.1.2.1).bind (r4_Parse_L0_K K))) none), xm := fun c q => (cond (Nat.beq c 0 && Nat.beq (q.getD 1000000) 0 && q.isSome) (some (lv [0, 2, 4, 9])) none), sch := fun c => (cond (Nat.beq c 13) (some [(0, 0), (1, 0), (2, 0), (3, 0), (4, 0), (5, 0), (6, 0), (7, 2), (8, 0)]) (cond (Nat.beq c 7) (some [(0, 0), (2, 0), (3, 0), (4, 0), (1, 3), (5, 0), (6, 2), (7, 0)]) none)) }
def r4_Parse_L0_I (n : Nat) (K : XE → List AV → AHeap → Option Out) (m : Nat) (s1 : BA) (n0 : Int) (t2 : BA) (t21 : BA) (m0 : BA) (m01 : BA) : Option Out := loopI tys (callees Out (r4_May_es n)) (r4_Parse_hint n) n (codeAt [1, 1, 1, 0, 1, 1, 1, 0, 0, 0] (bodyOf Tryd.f16)) 0 r4_Parse_L0_sp r4_Parse_L0_rp K m (s1, (n0, ())) ((t2, (t21, ())), ((m0, (m01, ())), ()))
theorem r4_Parse_L0_E (n : Nat) (K : XE → List AV → AHeap → Option Out) : ∀ (m : Nat) (s1 : BA) (n0 : Int) (t2 : BA) (t21 : BA) (m0 : BA) (m01 : BA), r4_Parse_L0_I n K m s1 n0 t2 t21 m0 m01 = (r4_Parse_L0 n m s1 n0 t2 t21 m0 m01).bind (r4_Parse_L0_K K)
  | 0, s1, n0, t2, t21, m0, m01 => by kernel_rfl
  | m + 1, s1, n0, t2, t21, m0, m01 => by
    have h1 : r4_Parse_L0_I n K (m + 1) s1 n0 t2 t21 m0 m01 = r4_Parse_B0 n s1 n0 t2 t21 m0 m01 (fun s1 n0 t2 t21 m0 m01 => r4_Parse_L0_I n K m s1 n0 t2 t21 m0 m01) (fun a => r4_Parse_L0_K K (.out a)) (fun a => r4_Parse_L0_K K (.ret a)) (fun p => r4_Parse_L0_K K (.pan p)) := by kernel_rfl
    have h2 : (fun s1 n0 t2 t21 m0 m01 => r4_Parse_L0_I n K m s1 n0 t2 t21 m0 m01) = (fun s1 n0 t2 t21 m0 m01 => (r4_Parse_L0 n m s1 n0 t2 t21 m0 m01).bind (r4_Parse_L0_K K)) := funext fun s1 => funext fun n0 => funext fun t2 => funext fun t21 => funext fun m0 => funext fun m01 => r4_Parse_L0_E n K m s1 n0 t2 t21 m0 m01
    exact h1.trans ((congrArg (fun z => r4_Parse_B0 n s1 n0 t2 t21 m0 m01 z (fun a => r4_Parse_L0_K K (.out a)) (fun a => r4_Parse_L0_K K (.ret a)) (fun p => r4_Parse_L0_K K (.pan p))) h2).trans (r4_Parse_B0_N n s1 n0 t2 t21 m0 m01 (fun s1 n0 t2 t21 m0 m01 => r4_Parse_L0 n m s1 n0 t2 t21 m0 m01) (fun a => some (.out a)) (fun a => some (.ret a)) (fun p => some (.pan p)) (r4_Parse_L0_K K)))
theorem r4_Parse_L0_ok (n : Nat) : RunOk tys (callees Out (r4_May_es n)) (r4_Parse_hint n) n (codeAt [1, 1, 1, 0, 1, 1, 1, 0, 0, 0] (bodyOf Tryd.f16)) 0 := runOk_of (sp := r4_Parse_L0_sp) (rp := r4_Parse_L0_rp) (F := fun σ ρ K => (r4_Parse_L0 n n σ.1 σ.2.1 ρ.1.1 ρ.1.2.1 ρ.2.1.1 ρ.2.1.2.1).bind (r4_Parse_L0_K K)) (by kernel_rfl) fun K σ ρ => r4_Parse_L0_E n K n σ.1 σ.2.1 ρ.1.1 ρ.1.2.1 ρ.2.1.1 ρ.2.1.2.1
theorem r4_Parse_runs (n : Nat) : RunsOk tys (callees Out (r4_May_es n)) (r4_Parse_hint n) n (bodyOf Tryd.f16) 0 := ⟨trivial, ⟨trivial, ⟨trivial, ⟨⟨trivial, ⟨⟨trivial, ⟨⟨trivial, ⟨⟨trivial, trivial⟩, trivial⟩⟩, ⟨trivial, ⟨trivial, ⟨trivial, trivial⟩⟩⟩⟩⟩, ⟨trivial, ⟨⟨r4_Parse_L0_ok n, ⟨⟨trivial, ⟨trivial, trivial⟩⟩, trivial⟩⟩, trivial⟩⟩⟩⟩, ⟨⟨trivial, ⟨⟨trivial, trivial⟩, trivial⟩⟩, ⟨trivial, ⟨⟨trivial, ⟨⟨trivial, trivial⟩, trivial⟩⟩, ⟨trivial, trivial⟩⟩⟩⟩⟩⟩⟩⟩
theorem r4_Parse_at : Tryd.prog.funcs[16]? = some Tryd.f16 := by kernel_rfl
theorem r4_Parse_ent (n : Nat) : Enters Tryd.prog 16 := enters_of (c := bodyOf Tryd.f16) r4_Parse_at (by kernel_rfl) (by kernel_rfl)
theorem r4_Parse_E (n : Nat) (s : BA) : fnA tys (callees Out (r4_May_es n)) (r4_Parse_hint n) n Tryd.f16 (encL (.pair .str .unit) (s, ())) [] (soloA fun v => some (.ret v)) (soloA fun v => some (.pan v)) = r4_Parse_B n s (fun y => some (.ret (encR (.many (.pair (.pair .str (.pair .str .unit)) (.pair .bool .unit))) y))) := by kernel_rfl
def r4_Parse_en (n : Nat) : Entry := ⟨16, pcT (.pair .str .unit) (.many (.pair (.pair .str (.pair .str .unit)) (.pair .bool .unit))) (fun xs => r4_Parse n xs.1), none, none⟩
theorem r4_Parse_ok (n : Nat) : EntryOk Tryd.prog gl (r4_Parse_en n) :=
  pcT_ok (r4_Parse_ent n) fun xs y h => ans_of_fn tys_ok (r4_May_es_ok n) mixed (hint := r4_Parse_hint n) (n := n) (fn := Tryd.f16) r4_Parse_at (runsC (r4_Parse_runs n)) (run_ret (φ := (fun y => some (Out.ret (encR (.many (.pair (.pair .str (.pair .str .unit)) (.pair .bool .unit))) y)))) ((r4_Parse_E n xs.1).trans (r4_Parse_N (R := ((BA × (BA × Unit)) × Bool × Unit)) (S := Out) n xs.1 some (fun y => some (Out.ret (encR (.many (.pair (.pair .str (.pair .str .unit)) (.pair .bool .unit))) y))))) h)
def r4_Parse_es (n : Nat) : List Entry := r4_Parse_en n :: r4_May_es n
theorem r4_Parse_es_ok (n : Nat) : AllOk Tryd.prog gl (r4_Parse_es n) := .cons (r4_Parse_ok n) (r4_May_es_ok n)
/- pouch/pouchref4.Path -/
def r4_Path_B (n : Nat) {R : Type} (s : BA) (k : ((BA × (BA × Unit)) × Bool × Bool × Unit) → Option R) : Option R :=
 if (s.toList == (⟨#[60, 62]⟩ : BA).toList) = true then
  k (((⟨#[]⟩ : BA), ((⟨#[]⟩ : BA), ())), (true, (true, ())))
 else
  if (decide ((s.size : Int) < (2 : Int))) = false then
   if 0 ≤ (0 : Int) ∧ (0 : Int) < (s.size : Int) then
    if ((bt s (0 : Int)) != (60 : Int)) = false then
     if 0 ≤ (IntKind.wrap .i64 ((s.size : Int) - (1 : Int))) ∧ (IntKind.wrap .i64 ((s.size : Int) - (1 : Int))) < (s.size : Int) then
      if ((bt s (IntKind.wrap .i64 ((s.size : Int) - (1 : Int)))) != (62 : Int)) = true then
       k (((⟨#[]⟩ : BA), ((⟨#[]⟩ : BA), ())), (false, (false, ())))
      else
       if 0 ≤ (IntKind.wrap .i64 ((s.size : Int) - (1 : Int))) ∧ (IntKind.wrap .i64 ((s.size : Int) - (1 : Int))) ≤ (s.size : Int) then
        if 0 ≤ (1 : Int) ∧ (1 : Int) ≤ (IntKind.wrap .i64 ((s.size : Int) - (1 : Int))) then
         (r4_Parse n (s.extract (Int.toNat (1 : Int)) (Int.toNat (IntKind.wrap .i64 ((s.size : Int) - (1 : Int)))))).bind fun v =>
         k ((v.1.1, (v.1.2.1, ())), (false, (v.2.1, ())))
        else
         none
       else
        none
     else
      none
    else
     k (((⟨#[]⟩ : BA), ((⟨#[]⟩ : BA), ())), (false, (false, ())))
   else
    none
  else
   k (((⟨#[]⟩ : BA), ((⟨#[]⟩ : BA), ())), (false, (false, ())))
def r4_Path (n : Nat) (s : BA) : Option ((BA × (BA × Unit)) × Bool × Bool × Unit) := r4_Path_B n s some
theorem r4_Path_N (n : Nat) {R S : Type} (s : BA) (k : ((BA × (BA × Unit)) × Bool × Bool × Unit) → Option R) (φ : R → Option S) : r4_Path_B n s (fun a => (k a).bind φ) = (r4_Path_B n s k).bind φ := by
  unfold r4_Path_B
  first | (simp only [dup_self, both_self, iB, bB, oL, oX, nB]) | rfl
def r4_Path_hint (n : Nat) : Hint Out := { live := fun c => [], run := fun c => none, xm := fun c q => none }
theorem r4_Path_runs (n : Nat) : RunsOk tys (callees Out (r4_Parse_es n)) (r4_Path_hint n) n (bodyOf Tryd.f7) 0 := runs_noloop (fun _ => rfl) _ _ (by kernel_rfl)
theorem r4_Path_at : Tryd.prog.funcs[7]? = some Tryd.f7 := by kernel_rfl
theorem r4_Path_ent (n : Nat) : Enters Tryd.prog 7 := enters_of (c := bodyOf Tryd.f7) r4_Path_at (by kernel_rfl) (by kernel_rfl)
theorem r4_Path_E (n : Nat) (s : BA) : fnA tys (callees Out (r4_Parse_es n)) (r4_Path_hint n) n Tryd.f7 (encL (.pair .str .unit) (s, ())) [] (soloA fun v => some (.ret v)) (soloA fun v => some (.pan v)) = r4_Path_B n s (fun y => some (.ret (encR (.many (.pair (.pair .str (.pair .str .unit)) (.pair .bool (.pair .bool .unit)))) y))) := by kernel_rfl
def r4_Path_en (n : Nat) : Entry := ⟨7, pcT (.pair .str .unit) (.many (.pair (.pair .str (.pair .str .unit)) (.pair .bool (.pair .bool .unit)))) (fun xs => r4_Path n xs.1), none, none⟩
theorem r4_Path_ok (n : Nat) : EntryOk Tryd.prog gl (r4_Path_en n) :=
  pcT_ok (r4_Path_ent n) fun xs y h => ans_of_fn tys_ok (r4_Parse_es_ok n) mixed (hint := r4_Path_hint n) (n := n) (fn := Tryd.f7) r4_Path_at (runsC (r4_Path_runs n)) (run_ret (φ := (fun y => some (Out.ret (encR (.many (.pair (.pair .str (.pair .str .unit)) (.pair .bool (.pair .bool .unit)))) y)))) ((r4_Path_E n xs.1).trans (r4_Path_N (R := ((BA × (BA × Unit)) × Bool × Bool × Unit)) (S := Out) n xs.1 some (fun y => some (Out.ret (encR (.many (.pair (.pair .str (.pair .str .unit)) (.pair .bool (.pair .bool .unit)))) y))))) h)
def r4_Path_es (n : Nat) : List Entry := r4_Path_en n :: r4_Parse_es n
theorem r4_Path_es_ok (n : Nat) : AllOk Tryd.prog gl (r4_Path_es n) := .cons (r4_Path_ok n) (r4_Parse_es_ok n)
/- pouch/addr.Path -/
def ad_Path_B (n : Nat) {R : Type} (s : BA) (k : ((BA × (BA × Unit)) × Bool × Int × Unit) → Option R) : Option R :=
 if (s.toList == (⟨#[60, 62]⟩ : BA).toList) = true then
  k (((⟨#[]⟩ : BA), ((⟨#[]⟩ : BA), ())), (true, ((0 : Int), ())))
 else
  if (decide ((s.size : Int) < (2 : Int))) = false then
   if 0 ≤ (0 : Int) ∧ (0 : Int) < (s.size : Int) then
    if ((bt s (0 : Int)) != (60 : Int)) = false then
     if 0 ≤ (IntKind.wrap .i64 ((s.size : Int) - (1 : Int))) ∧ (IntKind.wrap .i64 ((s.size : Int) - (1 : Int))) < (s.size : Int) then
      if ((bt s (IntKind.wrap .i64 ((s.size : Int) - (1 : Int)))) != (62 : Int)) = true then
       k (((⟨#[]⟩ : BA), ((⟨#[]⟩ : BA), ())), (false, ((8 : Int), ())))
      else
       if 0 ≤ (IntKind.wrap .i64 ((s.size : Int) - (1 : Int))) ∧ (IntKind.wrap .i64 ((s.size : Int) - (1 : Int))) ≤ (s.size : Int) then
        if 0 ≤ (1 : Int) ∧ (1 : Int) ≤ (IntKind.wrap .i64 ((s.size : Int) - (1 : Int))) then
         (ad_Parse n (s.extract (Int.toNat (1 : Int)) (Int.toNat (IntKind.wrap .i64 ((s.size : Int) - (1 : Int)))))).bind fun v =>
         k ((v.1.1, (v.1.2.1, ())), (false, (v.2.1, ())))
        else
         none
       else
        none
     else
      none
    else
     k (((⟨#[]⟩ : BA), ((⟨#[]⟩ : BA), ())), (false, ((8 : Int), ())))
   else
    none
  else
   k (((⟨#[]⟩ : BA), ((⟨#[]⟩ : BA), ())), (false, ((8 : Int), ())))
def ad_Path (n : Nat) (s : BA) : Option ((BA × (BA × Unit)) × Bool × Int × Unit) := ad_Path_B n s some
theorem ad_Path_N (n : Nat) {R S : Type} (s : BA) (k : ((BA × (BA × Unit)) × Bool × Int × Unit) → Option R) (φ : R → Option S) : ad_Path_B n s (fun a => (k a).bind φ) = (ad_Path_B n s k).bind φ := by
  unfold ad_Path_B
  first | (simp only [dup_self, both_self, iB, bB, oL, oX, nB]) | rfl
def ad_Path_hint (n : Nat) : Hint Out := { live := fun c => [], run := fun c => none, xm := fun c q => none }
theorem ad_Path_runs (n : Nat) : RunsOk tys (callees Out (r4_Path_es n)) (ad_Path_hint n) n (bodyOf Tryd.f8) 0 := runs_noloop (fun _ => rfl) _ _ (by kernel_rfl)
theorem ad_Path_at : Tryd.prog.funcs[8]? = some Tryd.f8 := by kernel_rfl
theorem ad_Path_ent (n : Nat) : Enters Tryd.prog 8 := enters_of (c := bodyOf Tryd.f8) ad_Path_at (by kernel_rfl) (by kernel_rfl)
theorem ad_Path_E (n : Nat) (s : BA) : fnA tys (callees Out (r4_Path_es n)) (ad_Path_hint n) n Tryd.f8 (encL (.pair .str .unit) (s, ())) [] (soloA fun v => some (.ret v)) (soloA fun v => some (.pan v)) = ad_Path_B n s (fun y => some (.ret (encR (.many (.pair (.pair .str (.pair .str .unit)) (.pair .bool (.pair (.int .i64) .unit)))) y))) := by kernel_rfl
def ad_Path_en (n : Nat) : Entry := ⟨8, pcT (.pair .str .unit) (.many (.pair (.pair .str (.pair .str .unit)) (.pair .bool (.pair (.int .i64) .unit)))) (fun xs => ad_Path n xs.1), none, none⟩
theorem ad_Path_ok (n : Nat) : EntryOk Tryd.prog gl (ad_Path_en n) :=
  pcT_ok (ad_Path_ent n) fun xs y h => ans_of_fn tys_ok (r4_Path_es_ok n) mixed (hint := ad_Path_hint n) (n := n) (fn := Tryd.f8) ad_Path_at (runsC (ad_Path_runs n)) (run_ret (φ := (fun y => some (Out.ret (encR (.many (.pair (.pair .str (.pair .str .unit)) (.pair .bool (.pair (.int .i64) .unit)))) y)))) ((ad_Path_E n xs.1).trans (ad_Path_N (R := ((BA × (BA × Unit)) × Bool × Int × Unit)) (S := Out) n xs.1 some (fun y => some (Out.ret (encR (.many (.pair (.pair .str (.pair .str .unit)) (.pair .bool (.pair (.int .i64) .unit)))) y))))) h)
def ad_Path_es (n : Nat) : List Entry := ad_Path_en n :: r4_Path_es n
theorem ad_Path_es_ok (n : Nat) : AllOk Tryd.prog gl (ad_Path_es n) := .cons (ad_Path_ok n) (r4_Path_es_ok n)
/- pouch/pouchlaw4.num -/
def w4_num_B (n : Nat) {R : Type} (e : Int) (k : Int → Option R) : Option R :=
 k e
def w4_num (n : Nat) (e : Int) : Option Int := w4_num_B n e some
theorem w4_num_N (n : Nat) {R S : Type} (e : Int) (k : Int → Option R) (φ : R → Option S) : w4_num_B n e (fun a => (k a).bind φ) = (w4_num_B n e k).bind φ := by
  unfold w4_num_B
  first | (simp only [dup_self, both_self, iB, bB, oL, oX, nB]) | rfl
def w4_num_hint (n : Nat) : Hint Out := { live := fun c => [], run := fun c => none, xm := fun c q => none }
theorem w4_num_runs (n : Nat) : RunsOk tys (callees Out (ad_Path_es n)) (w4_num_hint n) n (bodyOf Tryd.f9) 0 := runs_noloop (fun _ => rfl) _ _ (by kernel_rfl)
theorem w4_num_at : Tryd.prog.funcs[9]? = some Tryd.f9 := by kernel_rfl
theorem w4_num_ent (n : Nat) : Enters Tryd.prog 9 := enters_of (c := bodyOf Tryd.f9) w4_num_at (by kernel_rfl) (by kernel_rfl)
theorem w4_num_E (n : Nat) (e : Int) : fnA tys (callees Out (ad_Path_es n)) (w4_num_hint n) n Tryd.f9 (encL (.pair (.int .i64) .unit) (e, ())) [] (soloA fun v => some (.ret v)) (soloA fun v => some (.pan v)) = w4_num_B n e (fun y => some (.ret (encR (.one (.int .i64)) y))) := by kernel_rfl
def w4_num_en (n : Nat) : Entry := ⟨9, pcT (.pair (.int .i64) .unit) (.one (.int .i64)) (fun xs => w4_num n xs.1), none, none⟩
theorem w4_num_ok (n : Nat) : EntryOk Tryd.prog gl (w4_num_en n) :=
  pcT_ok (w4_num_ent n) fun xs y h => ans_of_fn tys_ok (ad_Path_es_ok n) mixed (hint := w4_num_hint n) (n := n) (fn := Tryd.f9) w4_num_at (runsC (w4_num_runs n)) (run_ret (φ := (fun y => some (Out.ret (encR (.one (.int .i64)) y)))) ((w4_num_E n xs.1).trans (w4_num_N (R := Int) (S := Out) n xs.1 some (fun y => some (Out.ret (encR (.one (.int .i64)) y))))) h)
def w4_num_es (n : Nat) : List Entry := w4_num_en n :: ad_Path_es n
theorem w4_num_es_ok (n : Nat) : AllOk Tryd.prog gl (w4_num_es n) := .cons (w4_num_ok n) (ad_Path_es_ok n)
/- pouch/pouchlaw4.wakes -/
def w4_wakes_B (n : Nat) {R : Type} (k : Bool → Option R) : Option R :=
 (ad_Parse n (⟨#[65, 46, 98, 64, 69, 88, 46, 111, 114, 103]⟩ : BA)).bind fun v =>
 (w4_num n v.2.1).bind fun v1 =>
 if (v1 == (0 : Int)) = true then
  k ((v.1.1.toList == (⟨#[65, 46, 98]⟩ : BA).toList) && ((v.1.2.1.toList == (⟨#[101, 120, 46, 111, 114, 103]⟩ : BA).toList) && true))
 else
  k false
def w4_wakes (n : Nat) : Option Bool := w4_wakes_B n some
theorem w4_wakes_N (n : Nat) {R S : Type} (k : Bool → Option R) (φ : R → Option S) : w4_wakes_B n (fun a => (k a).bind φ) = (w4_wakes_B n k).bind φ := by
  unfold w4_wakes_B
  first | (simp only [dup_self, both_self, iB, bB, oL, oX, nB]) | rfl
def w4_wakes_hint (n : Nat) : Hint Out := { live := fun c => [], run := fun c => none, xm := fun c q => none }
theorem w4_wakes_runs (n : Nat) : RunsOk tys (callees Out (w4_num_es n)) (w4_wakes_hint n) n (bodyOf Tryd.f10) 0 := runs_noloop (fun _ => rfl) _ _ (by kernel_rfl)
theorem w4_wakes_at : Tryd.prog.funcs[10]? = some Tryd.f10 := by kernel_rfl
theorem w4_wakes_ent (n : Nat) : Enters Tryd.prog 10 := enters_of (c := bodyOf Tryd.f10) w4_wakes_at (by kernel_rfl) (by kernel_rfl)
theorem w4_wakes_E (n : Nat) : fnA tys (callees Out (w4_num_es n)) (w4_wakes_hint n) n Tryd.f10 (encL .unit ()) [] (soloA fun v => some (.ret v)) (soloA fun v => some (.pan v)) = w4_wakes_B n (fun y => some (.ret (encR (.one .bool) y))) := by kernel_rfl
def w4_wakes_en (n : Nat) : Entry := ⟨10, pcT .unit (.one .bool) (fun xs => w4_wakes n ), none, none⟩
theorem w4_wakes_ok (n : Nat) : EntryOk Tryd.prog gl (w4_wakes_en n) :=
  pcT_ok (w4_wakes_ent n) fun xs y h => ans_of_fn tys_ok (w4_num_es_ok n) mixed (hint := w4_wakes_hint n) (n := n) (fn := Tryd.f10) w4_wakes_at (runsC (w4_wakes_runs n)) (run_ret (φ := (fun y => some (Out.ret (encR (.one .bool) y)))) ((w4_wakes_E n ).trans (w4_wakes_N (R := Bool) (S := Out) n  some (fun y => some (Out.ret (encR (.one .bool) y))))) h)
def w4_wakes_es (n : Nat) : List Entry := w4_wakes_en n :: w4_num_es n
theorem w4_wakes_es_ok (n : Nat) : AllOk Tryd.prog gl (w4_wakes_es n) := .cons (w4_wakes_ok n) (w4_num_es_ok n)
/- pouch/pouchlaw4.AddrPaths -/
def w4_AddrPaths_B1 (n : Nat) {R : Type} (l2 : (Sq ((BA × (BA × Unit)) × (BA × Unit)))) (i1 : Int) (k0 : Int) (kn : (Sq ((BA × (BA × Unit)) × (BA × Unit))) → Int → Int → Option R) (ko : ((Sq ((BA × (BA × Unit)) × (BA × Unit))) × Int) → Option R) (kr : (Bool) → Option R) (kp : Int → Option R) : Option R :=
 if (decide (k0 < (2 : Int))) = true then
  if 0 ≤ i1 ∧ i1 < (l2.n : Int) then
   if 0 ≤ i1 ∧ i1 < (l2.n : Int) then
    if strFits (⟨#[60]⟩ : BA) ((((l2.at' (Int.toNat i1))).2).1) = true then
     if strFits ((⟨#[60]⟩ : BA) ++ ((((l2.at' (Int.toNat i1))).2).1)) (⟨#[62]⟩ : BA) = true then
      if 0 ≤ k0 ∧ k0 < (2 : Int) then
       (r4_Path n ((fun q => List.getD (α := BA) [(((l2.at' (Int.toNat i1))).2).1, (((⟨#[60]⟩ : BA) ++ ((((l2.at' (Int.toNat i1))).2).1)) ++ (⟨#[62]⟩ : BA))] q (zeroEl .str)) (Int.toNat k0))).bind fun v1 =>
       if v1.2.2.1 = true then
        (ad_Path n ((fun q => List.getD (α := BA) [(((l2.at' (Int.toNat i1))).2).1, (((⟨#[60]⟩ : BA) ++ ((((l2.at' (Int.toNat i1))).2).1)) ++ (⟨#[62]⟩ : BA))] q (zeroEl .str)) (Int.toNat k0))).bind fun v2 =>
        (w4_num n v2.2.2.1).bind fun v3 =>
        if (v3 != (0 : Int)) = false then
         if ((0 : Int) == (0 : Int)) = true then
          if (!((v2.1.1.toList == v1.1.1.toList) && ((v2.1.2.1.toList == v1.1.2.1.toList) && true))) = false then
           if (!(v2.2.1 == v1.2.1)) = true then
            kr false
           else
            kn l2 i1 (IntKind.wrap .i64 (k0 + (1 : Int)))
          else
           kr false
         else
          kn l2 i1 (IntKind.wrap .i64 (k0 + (1 : Int)))
        else
         kr false
       else
        (ad_Path n ((fun q => List.getD (α := BA) [(((l2.at' (Int.toNat i1))).2).1, (((⟨#[60]⟩ : BA) ++ ((((l2.at' (Int.toNat i1))).2).1)) ++ (⟨#[62]⟩ : BA))] q (zeroEl .str)) (Int.toNat k0))).bind fun v4 =>
        (w4_num n v4.2.2.1).bind fun v5 =>
        if (v5 != (8 : Int)) = false then
         if ((8 : Int) == (0 : Int)) = true then
          if (!((v4.1.1.toList == v1.1.1.toList) && ((v4.1.2.1.toList == v1.1.2.1.toList) && true))) = false then
           if (!(v4.2.1 == v1.2.1)) = true then
            kr false
           else
            kn l2 i1 (IntKind.wrap .i64 (k0 + (1 : Int)))
          else
           kr false
         else
          kn l2 i1 (IntKind.wrap .i64 (k0 + (1 : Int)))
        else
         kr false
      else
       none
     else
      none
    else
     none
   else
    none
  else
   none
 else
  ko (l2, i1)
theorem w4_AddrPaths_B1_N (n : Nat) {R S : Type} (l2 : (Sq ((BA × (BA × Unit)) × (BA × Unit)))) (i1 : Int) (k0 : Int) (kn : (Sq ((BA × (BA × Unit)) × (BA × Unit))) → Int → Int → Option R) (ko : ((Sq ((BA × (BA × Unit)) × (BA × Unit))) × Int) → Option R) (kr : (Bool) → Option R) (kp : Int → Option R) (φ : R → Option S) : w4_AddrPaths_B1 n l2 i1 k0 (fun l2 i1 k0 => (kn l2 i1 k0).bind φ) (fun a => (ko a).bind φ) (fun a => (kr a).bind φ) (fun a => (kp a).bind φ) = (w4_AddrPaths_B1 n l2 i1 k0 kn ko kr kp).bind φ := by
  unfold w4_AddrPaths_B1
  first | (simp only [dup_self, both_self, iB, bB, oL, oX, nB]) | rfl
def w4_AddrPaths_L1 (n : Nat) : Nat → (Sq ((BA × (BA × Unit)) × (BA × Unit))) → Int → Int → Option (Lx ((Sq ((BA × (BA × Unit)) × (BA × Unit))) × Int) (Bool))
  | 0, _, _, _ => none
  | m + 1, l2, i1, k0 => w4_AddrPaths_B1 n l2 i1 k0 (fun l2 i1 k0 => w4_AddrPaths_L1 n m l2 i1 k0) (fun a => some (.out a)) (fun a => some (.ret a)) (fun p => some (.pan p))
def w4_AddrPaths_L1_sp : List Sl := .dat (.sl (.pair (.pair .str (.pair .str .unit)) (.pair .str .unit))) :: .top :: .top :: .dat (.int .i64) :: .dat (.int .i64) :: tp 75 []
def w4_AddrPaths_L1_rp : List RS := []
def w4_AddrPaths_L1_out_sp : List Sl := .dat (.sl (.pair (.pair .str (.pair .str .unit)) (.pair .str .unit))) :: .top :: .top :: .dat (.int .i64) :: tp 76 []
def w4_AddrPaths_L1_out_rp : List RS := []
def w4_AddrPaths_L1_ret_sp : List Sl := .top :: .top :: .dat .bool :: tp 77 []
def w4_AddrPaths_L1_ret_rp : List RS := []
def w4_AddrPaths_L1_K (K : XE → List AV → AHeap → Option Out) : Lx ((Sq ((BA × (BA × Unit)) × (BA × Unit))) × Int) (Bool) → Option Out := fun x => onL x (fun a => layK w4_AddrPaths_L1_out_sp w4_AddrPaths_L1_out_rp (a.1, (a.2, ())) () (K (.exit 2))) (fun a => layK w4_AddrPaths_L1_ret_sp w4_AddrPaths_L1_ret_rp (a, ()) () (K .ret)) (fun _ => none)
def w4_AddrPaths_B0 (n : Nat) {R : Type} (l1 : (Sq ((BA × (BA × Unit)) × (BA × Unit)))) (i : Int) (kn : (Sq ((BA × (BA × Unit)) × (BA × Unit))) → Int → Option R) (ko : (Unit) → Option R) (kr : (Bool) → Option R) (kp : Int → Option R) : Option R :=
 if (decide (i < (l1.n : Int))) = true then
  if (decide (i < (20 : Int))) = true then
   if 0 ≤ i ∧ i < (l1.n : Int) then
    (w4_heavy n (((((l1.at' (Int.toNat i))).1).1, (((((l1.at' (Int.toNat i))).1).2).1, ())), ((((l1.at' (Int.toNat i))).2).1, ()))).bind fun v =>
    if v = true then
     kr true
    else
     (w4_AddrPaths_L1 n n l1 i (0 : Int)).bind fun x_1 => onL x_1
      (fun a_2 =>
       kn a_2.1 (IntKind.wrap .i64 (a_2.2 + (1 : Int))))
      (fun a_3 =>
       kr a_3)
      (fun _ => none)
   else
    none
  else
   ko ()
 else
  ko ()
theorem w4_AddrPaths_B0_N (n : Nat) {R S : Type} (l1 : (Sq ((BA × (BA × Unit)) × (BA × Unit)))) (i : Int) (kn : (Sq ((BA × (BA × Unit)) × (BA × Unit))) → Int → Option R) (ko : (Unit) → Option R) (kr : (Bool) → Option R) (kp : Int → Option R) (φ : R → Option S) : w4_AddrPaths_B0 n l1 i (fun l1 i => (kn l1 i).bind φ) (fun a => (ko a).bind φ) (fun a => (kr a).bind φ) (fun a => (kp a).bind φ) = (w4_AddrPaths_B0 n l1 i kn ko kr kp).bind φ := by
  unfold w4_AddrPaths_B0
  first | (simp only [dup_self, both_self, iB, bB, oL, oX, nB]) | rfl
def w4_AddrPaths_L0 (n : Nat) : Nat → (Sq ((BA × (BA × Unit)) × (BA × Unit))) → Int → Option (Lx (Unit) (Bool))
  | 0, _, _ => none
  | m + 1, l1, i => w4_AddrPaths_B0 n l1 i (fun l1 i => w4_AddrPaths_L0 n m l1 i) (fun a => some (.out a)) (fun a => some (.ret a)) (fun p => some (.pan p))
def w4_AddrPaths_L0_sp : List Sl := .dat (.sl (.pair (.pair .str (.pair .str .unit)) (.pair .str .unit))) :: .top :: .top :: .dat (.int .i64) :: tp 76 []
def w4_AddrPaths_L0_rp : List RS := []
def w4_AddrPaths_L0_out_sp : List Sl := tp 80 []
def w4_AddrPaths_L0_out_rp : List RS := []
def w4_AddrPaths_L0_ret_sp : List Sl := .top :: .top :: .dat .bool :: tp 77 []
def w4_AddrPaths_L0_ret_rp : List RS := []
def w4_AddrPaths_L0_K (K : XE → List AV → AHeap → Option Out) : Lx (Unit) (Bool) → Option Out := fun x => onL x (fun a => layK w4_AddrPaths_L0_out_sp w4_AddrPaths_L0_out_rp () () (K (.exit 0))) (fun a => layK w4_AddrPaths_L0_ret_sp w4_AddrPaths_L0_ret_rp (a, ()) () (K .ret)) (fun _ => none)
def w4_AddrPaths_B (n : Nat) {R : Type} (l : (Sq ((BA × (BA × Unit)) × (BA × Unit)))) (k : Bool → Option R) : Option R :=
 (w4_AddrPaths_L0 n n l (0 : Int)).bind fun x_1 => onL x_1
  (fun a_2 =>
   (w4_wakes n).bind fun v6 =>
   k v6)
  (fun a_3 =>
   k a_3)
  (fun _ => none)
def w4_AddrPaths (n : Nat) (l : (Sq ((BA × (BA × Unit)) × (BA × Unit)))) : Option Bool := w4_AddrPaths_B n l some
theorem w4_AddrPaths_N (n : Nat) {R S : Type} (l : (Sq ((BA × (BA × Unit)) × (BA × Unit)))) (k : Bool → Option R) (φ : R → Option S) : w4_AddrPaths_B n l (fun a => (k a).bind φ) = (w4_AddrPaths_B n l k).bind φ := by
  unfold w4_AddrPaths_B
  first | (simp only [dup_self, both_self, iB, bB, oL, oX, nB]) | rfl
def w4_AddrPaths_hint (n : Nat) : Hint Out := { live := fun c => (cond (Nat.beq c 0) [(0, some (.sl (.pair (.pair .str (.pair .str .unit)) (.pair .str .unit)))), (3, none)] (cond (Nat.beq c 2) [(0, some (.sl (.pair (.pair .str (.pair .str .unit)) (.pair .str .unit)))), (3, none), (4, none)] [])), run := fun c => (cond (Nat.beq c 0) (some (runL w4_AddrPaths_L0_sp w4_AddrPaths_L0_rp fun σ ρ K => (w4_AddrPaths_L0 n n σ.1 σ.2.1).bind (w4_AddrPaths_L0_K K))) (cond (Nat.beq c 2) (some (runL w4_AddrPaths_L1_sp w4_AddrPaths_L1_rp fun σ ρ K => (w4_AddrPaths_L1 n n σ.1 σ.2.1 σ.2.2.1).bind (w4_AddrPaths_L1_K K))) none)), xm := fun c q => (cond (Nat.beq c 0 && Nat.beq (q.getD 1000000) 0 && q.isSome) (some []) (cond (Nat.beq c 2 && Nat.beq (q.getD 1000000) 2 && q.isSome) (some [(0, some (.sl (.pair (.pair .str (.pair .str .unit)) (.pair .str .unit)))), (3, none)]) (cond (Nat.beq c 3 && q.isNone) (some [(2, none)]) (cond (Nat.beq c 1 && q.isNone) (some [(2, none)]) none)))), sch := fun c => (cond (Nat.beq c 9) (some [(0, 0), (1, 0), (2, 0), (3, 0), (5, 0), (6, 0), (7, 0), (8, 0), (13, 0), (4, 1), (9, 1), (10, 0), (11, 0), (12, 2), (14, 0), (15, 3), (16, 0)]) none) }
def w4_AddrPaths_L1_I (n : Nat) (K : XE → List AV → AHeap → Option Out) (m : Nat) (l2 : (Sq ((BA × (BA × Unit)) × (BA × Unit)))) (i1 : Int) (k0 : Int) : Option Out := loopI tys (callees Out (w4_wakes_es n)) (w4_AddrPaths_hint n) n (codeAt [1, 0, 1, 0, 0, 1, 0, 0, 1, 1, 0, 0] (bodyOf Tryd.f3)) 2 w4_AddrPaths_L1_sp w4_AddrPaths_L1_rp K m (l2, (i1, (k0, ()))) ()
theorem w4_AddrPaths_L1_E (n : Nat) (K : XE → List AV → AHeap → Option Out) : ∀ (m : Nat) (l2 : (Sq ((BA × (BA × Unit)) × (BA × Unit)))) (i1 : Int) (k0 : Int), w4_AddrPaths_L1_I n K m l2 i1 k0 = (w4_AddrPaths_L1 n m l2 i1 k0).bind (w4_AddrPaths_L1_K K)
  | 0, l2, i1, k0 => by kernel_rfl
  | m + 1, l2, i1, k0 => by
    have h1 : w4_AddrPaths_L1_I n K (m + 1) l2 i1 k0 = w4_AddrPaths_B1 n l2 i1 k0 (fun l2 i1 k0 => w4_AddrPaths_L1_I n K m l2 i1 k0) (fun a => w4_AddrPaths_L1_K K (.out a)) (fun a => w4_AddrPaths_L1_K K (.ret a)) (fun p => w4_AddrPaths_L1_K K (.pan p)) := by kernel_rfl
    have h2 : (fun l2 i1 k0 => w4_AddrPaths_L1_I n K m l2 i1 k0) = (fun l2 i1 k0 => (w4_AddrPaths_L1 n m l2 i1 k0).bind (w4_AddrPaths_L1_K K)) := funext fun l2 => funext fun i1 => funext fun k0 => w4_AddrPaths_L1_E n K m l2 i1 k0
    exact h1.trans ((congrArg (fun z => w4_AddrPaths_B1 n l2 i1 k0 z (fun a => w4_AddrPaths_L1_K K (.out a)) (fun a => w4_AddrPaths_L1_K K (.ret a)) (fun p => w4_AddrPaths_L1_K K (.pan p))) h2).trans (w4_AddrPaths_B1_N n l2 i1 k0 (fun l2 i1 k0 => w4_AddrPaths_L1 n m l2 i1 k0) (fun a => some (.out a)) (fun a => some (.ret a)) (fun p => some (.pan p)) (w4_AddrPaths_L1_K K)))
theorem w4_AddrPaths_L1_ok (n : Nat) : RunOk tys (callees Out (w4_wakes_es n)) (w4_AddrPaths_hint n) n (codeAt [1, 0, 1, 0, 0, 1, 0, 0, 1, 1, 0, 0] (bodyOf Tryd.f3)) 2 := runOk_of (sp := w4_AddrPaths_L1_sp) (rp := w4_AddrPaths_L1_rp) (F := fun σ ρ K => (w4_AddrPaths_L1 n n σ.1 σ.2.1 σ.2.2.1).bind (w4_AddrPaths_L1_K K)) (by kernel_rfl) fun K σ ρ => w4_AddrPaths_L1_E n K n σ.1 σ.2.1 σ.2.2.1
def w4_AddrPaths_L0_I (n : Nat) (K : XE → List AV → AHeap → Option Out) (m : Nat) (l1 : (Sq ((BA × (BA × Unit)) × (BA × Unit)))) (i : Int) : Option Out := loopI tys (callees Out (w4_wakes_es n)) (w4_AddrPaths_hint n) n (codeAt [1, 0, 1, 0, 0] (bodyOf Tryd.f3)) 0 w4_AddrPaths_L0_sp w4_AddrPaths_L0_rp K m (l1, (i, ())) ()
theorem w4_AddrPaths_L0_E (n : Nat) (K : XE → List AV → AHeap → Option Out) : ∀ (m : Nat) (l1 : (Sq ((BA × (BA × Unit)) × (BA × Unit)))) (i : Int), w4_AddrPaths_L0_I n K m l1 i = (w4_AddrPaths_L0 n m l1 i).bind (w4_AddrPaths_L0_K K)
  | 0, l1, i => by kernel_rfl
  | m + 1, l1, i => by
    have h1 : w4_AddrPaths_L0_I n K (m + 1) l1 i = w4_AddrPaths_B0 n l1 i (fun l1 i => w4_AddrPaths_L0_I n K m l1 i) (fun a => w4_AddrPaths_L0_K K (.out a)) (fun a => w4_AddrPaths_L0_K K (.ret a)) (fun p => w4_AddrPaths_L0_K K (.pan p)) := by kernel_rfl
    have h2 : (fun l1 i => w4_AddrPaths_L0_I n K m l1 i) = (fun l1 i => (w4_AddrPaths_L0 n m l1 i).bind (w4_AddrPaths_L0_K K)) := funext fun l1 => funext fun i => w4_AddrPaths_L0_E n K m l1 i
    exact h1.trans ((congrArg (fun z => w4_AddrPaths_B0 n l1 i z (fun a => w4_AddrPaths_L0_K K (.out a)) (fun a => w4_AddrPaths_L0_K K (.ret a)) (fun p => w4_AddrPaths_L0_K K (.pan p))) h2).trans (w4_AddrPaths_B0_N n l1 i (fun l1 i => w4_AddrPaths_L0 n m l1 i) (fun a => some (.out a)) (fun a => some (.ret a)) (fun p => some (.pan p)) (w4_AddrPaths_L0_K K)))
theorem w4_AddrPaths_L0_ok (n : Nat) : RunOk tys (callees Out (w4_wakes_es n)) (w4_AddrPaths_hint n) n (codeAt [1, 0, 1, 0, 0] (bodyOf Tryd.f3)) 0 := runOk_of (sp := w4_AddrPaths_L0_sp) (rp := w4_AddrPaths_L0_rp) (F := fun σ ρ K => (w4_AddrPaths_L0 n n σ.1 σ.2.1).bind (w4_AddrPaths_L0_K K)) (by kernel_rfl) fun K σ ρ => w4_AddrPaths_L0_E n K n σ.1 σ.2.1
theorem w4_AddrPaths_runs (n : Nat) : RunsOk tys (callees Out (w4_wakes_es n)) (w4_AddrPaths_hint n) n (bodyOf Tryd.f3) 0 := ⟨trivial, ⟨⟨trivial, ⟨w4_AddrPaths_L0_ok n, ⟨⟨trivial, ⟨trivial, trivial⟩⟩, ⟨⟨⟨trivial, ⟨⟨trivial, trivial⟩, trivial⟩⟩, ⟨trivial, ⟨w4_AddrPaths_L1_ok n, ⟨⟨trivial, ⟨trivial, trivial⟩⟩, ⟨⟨trivial, ⟨trivial, ⟨trivial, ⟨⟨trivial, ⟨trivial, trivial⟩⟩, ⟨trivial, ⟨trivial, ⟨⟨trivial, trivial⟩, trivial⟩⟩⟩⟩⟩⟩⟩, trivial⟩⟩⟩⟩⟩, trivial⟩⟩⟩⟩, ⟨trivial, trivial⟩⟩⟩
theorem w4_AddrPaths_at : Tryd.prog.funcs[3]? = some Tryd.f3 := by kernel_rfl
theorem w4_AddrPaths_ent (n : Nat) : Enters Tryd.prog 3 := enters_of (c := bodyOf Tryd.f3) w4_AddrPaths_at (by kernel_rfl) (by kernel_rfl)
theorem w4_AddrPaths_E (n : Nat) (l : (Sq ((BA × (BA × Unit)) × (BA × Unit)))) : fnA tys (callees Out (w4_wakes_es n)) (w4_AddrPaths_hint n) n Tryd.f3 (encL (.pair (.sl (.pair (.pair .str (.pair .str .unit)) (.pair .str .unit))) .unit) (l, ())) [] (soloA fun v => some (.ret v)) (soloA fun v => some (.pan v)) = w4_AddrPaths_B n l (fun y => some (.ret (encR (.one .bool) y))) := by kernel_rfl
def w4_AddrPaths_en (n : Nat) : Entry := ⟨3, pcT (.pair (.sl (.pair (.pair .str (.pair .str .unit)) (.pair .str .unit))) .unit) (.one .bool) (fun xs => w4_AddrPaths n xs.1), none, none⟩
theorem w4_AddrPaths_ok (n : Nat) : EntryOk Tryd.prog gl (w4_AddrPaths_en n) :=
  pcT_ok (w4_AddrPaths_ent n) fun xs y h => ans_of_fn tys_ok (w4_wakes_es_ok n) mixed (hint := w4_AddrPaths_hint n) (n := n) (fn := Tryd.f3) w4_AddrPaths_at (runsC (w4_AddrPaths_runs n)) (run_ret (φ := (fun y => some (Out.ret (encR (.one .bool) y)))) ((w4_AddrPaths_E n xs.1).trans (w4_AddrPaths_N (R := Bool) (S := Out) n xs.1 some (fun y => some (Out.ret (encR (.one .bool) y))))) h)
def w4_AddrPaths_es (n : Nat) : List Entry := w4_AddrPaths_en n :: w4_wakes_es n
theorem w4_AddrPaths_es_ok (n : Nat) : AllOk Tryd.prog gl (w4_AddrPaths_es n) := .cons (w4_AddrPaths_ok n) (w4_wakes_es_ok n)
/- pouch/pouchref4.Text -/
def r4_Text_B (n : Nat) {R : Type} (m0 : (BA × (BA × Unit))) (k : BA → Option R) : Option R :=
 if strFits m0.1 (⟨#[64]⟩ : BA) = true then
  if strFits (m0.1 ++ (⟨#[64]⟩ : BA)) m0.2.1 = true then
   k ((m0.1 ++ (⟨#[64]⟩ : BA)) ++ m0.2.1)
  else
   none
 else
  none
def r4_Text (n : Nat) (m0 : (BA × (BA × Unit))) : Option BA := r4_Text_B n m0 some
theorem r4_Text_N (n : Nat) {R S : Type} (m0 : (BA × (BA × Unit))) (k : BA → Option R) (φ : R → Option S) : r4_Text_B n m0 (fun a => (k a).bind φ) = (r4_Text_B n m0 k).bind φ := by
  unfold r4_Text_B
  first | (simp only [dup_self, both_self, iB, bB, oL, oX, nB]) | rfl
def r4_Text_hint (n : Nat) : Hint Out := { live := fun c => [], run := fun c => none, xm := fun c q => none }
theorem r4_Text_runs (n : Nat) : RunsOk tys (callees Out (w4_AddrPaths_es n)) (r4_Text_hint n) n (bodyOf Tryd.f12) 0 := runs_noloop (fun _ => rfl) _ _ (by kernel_rfl)
theorem r4_Text_at : Tryd.prog.funcs[12]? = some Tryd.f12 := by kernel_rfl
theorem r4_Text_ent (n : Nat) : Enters Tryd.prog 12 := enters_of (c := bodyOf Tryd.f12) r4_Text_at (by kernel_rfl) (by kernel_rfl)
theorem r4_Text_E (n : Nat) (m0 : (BA × (BA × Unit))) : fnA tys (callees Out (w4_AddrPaths_es n)) (r4_Text_hint n) n Tryd.f12 (encL (.pair (.pair .str (.pair .str .unit)) .unit) (m0, ())) [] (soloA fun v => some (.ret v)) (soloA fun v => some (.pan v)) = r4_Text_B n m0 (fun y => some (.ret (encR (.one .str) y))) := by kernel_rfl
def r4_Text_en (n : Nat) : Entry := ⟨12, pcT (.pair (.pair .str (.pair .str .unit)) .unit) (.one .str) (fun xs => r4_Text n xs.1), none, none⟩
theorem r4_Text_ok (n : Nat) : EntryOk Tryd.prog gl (r4_Text_en n) :=
  pcT_ok (r4_Text_ent n) fun xs y h => ans_of_fn tys_ok (w4_AddrPaths_es_ok n) mixed (hint := r4_Text_hint n) (n := n) (fn := Tryd.f12) r4_Text_at (runsC (r4_Text_runs n)) (run_ret (φ := (fun y => some (Out.ret (encR (.one .str) y)))) ((r4_Text_E n xs.1).trans (r4_Text_N (R := BA) (S := Out) n xs.1 some (fun y => some (Out.ret (encR (.one .str) y))))) h)
def r4_Text_es (n : Nat) : List Entry := r4_Text_en n :: w4_AddrPaths_es n
theorem r4_Text_es_ok (n : Nat) : AllOk Tryd.prog gl (r4_Text_es n) := .cons (r4_Text_ok n) (w4_AddrPaths_es_ok n)
/- pouch/addr.Lay -/
def ad_Lay_B (n : Nat) {R : Type} (m0 : (BA × (BA × Unit))) (k : BA → Option R) : Option R :=
 if strFits m0.1 (⟨#[64]⟩ : BA) = true then
  if strFits (m0.1 ++ (⟨#[64]⟩ : BA)) m0.2.1 = true then
   k ((m0.1 ++ (⟨#[64]⟩ : BA)) ++ m0.2.1)
  else
   none
 else
  none
def ad_Lay (n : Nat) (m0 : (BA × (BA × Unit))) : Option BA := ad_Lay_B n m0 some
theorem ad_Lay_N (n : Nat) {R S : Type} (m0 : (BA × (BA × Unit))) (k : BA → Option R) (φ : R → Option S) : ad_Lay_B n m0 (fun a => (k a).bind φ) = (ad_Lay_B n m0 k).bind φ := by
  unfold ad_Lay_B
  first | (simp only [dup_self, both_self, iB, bB, oL, oX, nB]) | rfl
def ad_Lay_hint (n : Nat) : Hint Out := { live := fun c => [], run := fun c => none, xm := fun c q => none }
theorem ad_Lay_runs (n : Nat) : RunsOk tys (callees Out (r4_Text_es n)) (ad_Lay_hint n) n (bodyOf Tryd.f20) 0 := runs_noloop (fun _ => rfl) _ _ (by kernel_rfl)
theorem ad_Lay_at : Tryd.prog.funcs[20]? = some Tryd.f20 := by kernel_rfl
theorem ad_Lay_ent (n : Nat) : Enters Tryd.prog 20 := enters_of (c := bodyOf Tryd.f20) ad_Lay_at (by kernel_rfl) (by kernel_rfl)
theorem ad_Lay_E (n : Nat) (m0 : (BA × (BA × Unit))) : fnA tys (callees Out (r4_Text_es n)) (ad_Lay_hint n) n Tryd.f20 (encL (.pair (.pair .str (.pair .str .unit)) .unit) (m0, ())) [] (soloA fun v => some (.ret v)) (soloA fun v => some (.pan v)) = ad_Lay_B n m0 (fun y => some (.ret (encR (.one .str) y))) := by kernel_rfl
def ad_Lay_en (n : Nat) : Entry := ⟨20, pcT (.pair (.pair .str (.pair .str .unit)) .unit) (.one .str) (fun xs => ad_Lay n xs.1), none, none⟩
theorem ad_Lay_ok (n : Nat) : EntryOk Tryd.prog gl (ad_Lay_en n) :=
  pcT_ok (ad_Lay_ent n) fun xs y h => ans_of_fn tys_ok (r4_Text_es_ok n) mixed (hint := ad_Lay_hint n) (n := n) (fn := Tryd.f20) ad_Lay_at (runsC (ad_Lay_runs n)) (run_ret (φ := (fun y => some (Out.ret (encR (.one .str) y)))) ((ad_Lay_E n xs.1).trans (ad_Lay_N (R := BA) (S := Out) n xs.1 some (fun y => some (Out.ret (encR (.one .str) y))))) h)
def ad_Lay_es (n : Nat) : List Entry := ad_Lay_en n :: r4_Text_es n
theorem ad_Lay_es_ok (n : Nat) : AllOk Tryd.prog gl (ad_Lay_es n) := .cons (ad_Lay_ok n) (r4_Text_es_ok n)
/- pouch/addr.May -/
def ad_May_B (n : Nat) {R : Type} (m0 : (BA × (BA × Unit))) (k : Bool → Option R) : Option R :=
 (ad_Lay n (m0.1, (m0.2.1, ()))).bind fun v =>
 (ad_Parse n v).bind fun v1 =>
 if (v1.2.1 == (0 : Int)) = true then
  k ((v1.1.1.toList == m0.1.toList) && ((v1.1.2.1.toList == m0.2.1.toList) && true))
 else
  k false
def ad_May (n : Nat) (m0 : (BA × (BA × Unit))) : Option Bool := ad_May_B n m0 some
theorem ad_May_N (n : Nat) {R S : Type} (m0 : (BA × (BA × Unit))) (k : Bool → Option R) (φ : R → Option S) : ad_May_B n m0 (fun a => (k a).bind φ) = (ad_May_B n m0 k).bind φ := by
  unfold ad_May_B
  first | (simp only [dup_self, both_self, iB, bB, oL, oX, nB]) | rfl
def ad_May_hint (n : Nat) : Hint Out := { live := fun c => [], run := fun c => none, xm := fun c q => none }
theorem ad_May_runs (n : Nat) : RunsOk tys (callees Out (ad_Lay_es n)) (ad_May_hint n) n (bodyOf Tryd.f19) 0 := runs_noloop (fun _ => rfl) _ _ (by kernel_rfl)
theorem ad_May_at : Tryd.prog.funcs[19]? = some Tryd.f19 := by kernel_rfl
theorem ad_May_ent (n : Nat) : Enters Tryd.prog 19 := enters_of (c := bodyOf Tryd.f19) ad_May_at (by kernel_rfl) (by kernel_rfl)
theorem ad_May_E (n : Nat) (m0 : (BA × (BA × Unit))) : fnA tys (callees Out (ad_Lay_es n)) (ad_May_hint n) n Tryd.f19 (encL (.pair (.pair .str (.pair .str .unit)) .unit) (m0, ())) [] (soloA fun v => some (.ret v)) (soloA fun v => some (.pan v)) = ad_May_B n m0 (fun y => some (.ret (encR (.one .bool) y))) := by kernel_rfl
def ad_May_en (n : Nat) : Entry := ⟨19, pcT (.pair (.pair .str (.pair .str .unit)) .unit) (.one .bool) (fun xs => ad_May n xs.1), none, none⟩
theorem ad_May_ok (n : Nat) : EntryOk Tryd.prog gl (ad_May_en n) :=
  pcT_ok (ad_May_ent n) fun xs y h => ans_of_fn tys_ok (ad_Lay_es_ok n) mixed (hint := ad_May_hint n) (n := n) (fn := Tryd.f19) ad_May_at (runsC (ad_May_runs n)) (run_ret (φ := (fun y => some (Out.ret (encR (.one .bool) y)))) ((ad_May_E n xs.1).trans (ad_May_N (R := Bool) (S := Out) n xs.1 some (fun y => some (Out.ret (encR (.one .bool) y))))) h)
def ad_May_es (n : Nat) : List Entry := ad_May_en n :: ad_Lay_es n
theorem ad_May_es_ok (n : Nat) : AllOk Tryd.prog gl (ad_May_es n) := .cons (ad_May_ok n) (ad_Lay_es_ok n)
/- pouch/addr.Text -/
def ad_Text_B (n : Nat) {R : Type} (m0 : (BA × (BA × Unit))) (k : (BA × Int × Unit) → Option R) : Option R :=
 (ad_May n (m0.1, (m0.2.1, ()))).bind fun v =>
 if (!v) = true then
  k ((⟨#[]⟩ : BA), ((1 : Int), ()))
 else
  (ad_Lay n (m0.1, (m0.2.1, ()))).bind fun v1 =>
  k (v1, ((0 : Int), ()))
def ad_Text (n : Nat) (m0 : (BA × (BA × Unit))) : Option (BA × Int × Unit) := ad_Text_B n m0 some
theorem ad_Text_N (n : Nat) {R S : Type} (m0 : (BA × (BA × Unit))) (k : (BA × Int × Unit) → Option R) (φ : R → Option S) : ad_Text_B n m0 (fun a => (k a).bind φ) = (ad_Text_B n m0 k).bind φ := by
  unfold ad_Text_B
  first | (simp only [dup_self, both_self, iB, bB, oL, oX, nB]) | rfl
def ad_Text_hint (n : Nat) : Hint Out := { live := fun c => [], run := fun c => none, xm := fun c q => none }
theorem ad_Text_runs (n : Nat) : RunsOk tys (callees Out (ad_May_es n)) (ad_Text_hint n) n (bodyOf Tryd.f13) 0 := runs_noloop (fun _ => rfl) _ _ (by kernel_rfl)
theorem ad_Text_at : Tryd.prog.funcs[13]? = some Tryd.f13 := by kernel_rfl
theorem ad_Text_ent (n : Nat) : Enters Tryd.prog 13 := enters_of (c := bodyOf Tryd.f13) ad_Text_at (by kernel_rfl) (by kernel_rfl)
theorem ad_Text_E (n : Nat) (m0 : (BA × (BA × Unit))) : fnA tys (callees Out (ad_May_es n)) (ad_Text_hint n) n Tryd.f13 (encL (.pair (.pair .str (.pair .str .unit)) .unit) (m0, ())) [] (soloA fun v => some (.ret v)) (soloA fun v => some (.pan v)) = ad_Text_B n m0 (fun y => some (.ret (encR (.many (.pair .str (.pair (.int .i64) .unit))) y))) := by kernel_rfl
def ad_Text_en (n : Nat) : Entry := ⟨13, pcT (.pair (.pair .str (.pair .str .unit)) .unit) (.many (.pair .str (.pair (.int .i64) .unit))) (fun xs => ad_Text n xs.1), none, none⟩
theorem ad_Text_ok (n : Nat) : EntryOk Tryd.prog gl (ad_Text_en n) :=
  pcT_ok (ad_Text_ent n) fun xs y h => ans_of_fn tys_ok (ad_May_es_ok n) mixed (hint := ad_Text_hint n) (n := n) (fn := Tryd.f13) ad_Text_at (runsC (ad_Text_runs n)) (run_ret (φ := (fun y => some (Out.ret (encR (.many (.pair .str (.pair (.int .i64) .unit))) y)))) ((ad_Text_E n xs.1).trans (ad_Text_N (R := (BA × Int × Unit)) (S := Out) n xs.1 some (fun y => some (Out.ret (encR (.many (.pair .str (.pair (.int .i64) .unit))) y))))) h)
def ad_Text_es (n : Nat) : List Entry := ad_Text_en n :: ad_May_es n
theorem ad_Text_es_ok (n : Nat) : AllOk Tryd.prog gl (ad_Text_es n) := .cons (ad_Text_ok n) (ad_May_es_ok n)
/- pouch/addr.Check -/
def ad_Check_B (n : Nat) {R : Type} (m0 : (BA × (BA × Unit))) (k : Int → Option R) : Option R :=
 (ad_May n (m0.1, (m0.2.1, ()))).bind fun v =>
 if (!v) = true then
  k (1 : Int)
 else
  k (0 : Int)
def ad_Check (n : Nat) (m0 : (BA × (BA × Unit))) : Option Int := ad_Check_B n m0 some
theorem ad_Check_N (n : Nat) {R S : Type} (m0 : (BA × (BA × Unit))) (k : Int → Option R) (φ : R → Option S) : ad_Check_B n m0 (fun a => (k a).bind φ) = (ad_Check_B n m0 k).bind φ := by
  unfold ad_Check_B
  first | (simp only [dup_self, both_self, iB, bB, oL, oX, nB]) | rfl
def ad_Check_hint (n : Nat) : Hint Out := { live := fun c => [], run := fun c => none, xm := fun c q => none }
theorem ad_Check_runs (n : Nat) : RunsOk tys (callees Out (ad_Text_es n)) (ad_Check_hint n) n (bodyOf Tryd.f14) 0 := runs_noloop (fun _ => rfl) _ _ (by kernel_rfl)
theorem ad_Check_at : Tryd.prog.funcs[14]? = some Tryd.f14 := by kernel_rfl
theorem ad_Check_ent (n : Nat) : Enters Tryd.prog 14 := enters_of (c := bodyOf Tryd.f14) ad_Check_at (by kernel_rfl) (by kernel_rfl)
theorem ad_Check_E (n : Nat) (m0 : (BA × (BA × Unit))) : fnA tys (callees Out (ad_Text_es n)) (ad_Check_hint n) n Tryd.f14 (encL (.pair (.pair .str (.pair .str .unit)) .unit) (m0, ())) [] (soloA fun v => some (.ret v)) (soloA fun v => some (.pan v)) = ad_Check_B n m0 (fun y => some (.ret (encR (.one (.int .i64)) y))) := by kernel_rfl
def ad_Check_en (n : Nat) : Entry := ⟨14, pcT (.pair (.pair .str (.pair .str .unit)) .unit) (.one (.int .i64)) (fun xs => ad_Check n xs.1), none, none⟩
theorem ad_Check_ok (n : Nat) : EntryOk Tryd.prog gl (ad_Check_en n) :=
  pcT_ok (ad_Check_ent n) fun xs y h => ans_of_fn tys_ok (ad_Text_es_ok n) mixed (hint := ad_Check_hint n) (n := n) (fn := Tryd.f14) ad_Check_at (runsC (ad_Check_runs n)) (run_ret (φ := (fun y => some (Out.ret (encR (.one (.int .i64)) y)))) ((ad_Check_E n xs.1).trans (ad_Check_N (R := Int) (S := Out) n xs.1 some (fun y => some (Out.ret (encR (.one (.int .i64)) y))))) h)
def ad_Check_es (n : Nat) : List Entry := ad_Check_en n :: ad_Text_es n
theorem ad_Check_es_ok (n : Nat) : AllOk Tryd.prog gl (ad_Check_es n) := .cons (ad_Check_ok n) (ad_Text_es_ok n)
/- pouch/pouchlaw4.AddrTexts -/
def w4_AddrTexts_B0 (n : Nat) {R : Type} (l1 : (Sq ((BA × (BA × Unit)) × (BA × Unit)))) (i : Int) (kn : (Sq ((BA × (BA × Unit)) × (BA × Unit))) → Int → Option R) (ko : (Unit) → Option R) (kr : (Bool) → Option R) (kp : Int → Option R) : Option R :=
 if (decide (i < (l1.n : Int))) = true then
  if (decide (i < (20 : Int))) = true then
   if 0 ≤ i ∧ i < (l1.n : Int) then
    (w4_heavy n (((((l1.at' (Int.toNat i))).1).1, (((((l1.at' (Int.toNat i))).1).2).1, ())), ((((l1.at' (Int.toNat i))).2).1, ()))).bind fun v =>
    if v = true then
     kr true
    else
     if 0 ≤ i ∧ i < (l1.n : Int) then
      (r4_May n ((((l1.at' (Int.toNat i))).1).1, (((((l1.at' (Int.toNat i))).1).2).1, ()))).bind fun v1 =>
      if v1 = true then
       if 0 ≤ i ∧ i < (l1.n : Int) then
        (r4_Text n ((((l1.at' (Int.toNat i))).1).1, (((((l1.at' (Int.toNat i))).1).2).1, ()))).bind fun v2 =>
        if 0 ≤ i ∧ i < (l1.n : Int) then
         (ad_Text n ((((l1.at' (Int.toNat i))).1).1, (((((l1.at' (Int.toNat i))).1).2).1, ()))).bind fun v3 =>
         if 0 ≤ i ∧ i < (l1.n : Int) then
          (ad_Check n ((((l1.at' (Int.toNat i))).1).1, (((((l1.at' (Int.toNat i))).1).2).1, ()))).bind fun v4 =>
          (w4_num n v4).bind fun v5 =>
          if (v5 != (0 : Int)) = false then
           (w4_num n v3.2.1).bind fun v6 =>
           if (v6 != (0 : Int)) = false then
            if (!(v3.1.toList == v2.toList)) = true then
             kr false
            else
             kn l1 (IntKind.wrap .i64 (i + (1 : Int)))
           else
            kr false
          else
           kr false
         else
          none
        else
         none
       else
        none
      else
       if 0 ≤ i ∧ i < (l1.n : Int) then
        (ad_Text n ((((l1.at' (Int.toNat i))).1).1, (((((l1.at' (Int.toNat i))).1).2).1, ()))).bind fun v7 =>
        if 0 ≤ i ∧ i < (l1.n : Int) then
         (ad_Check n ((((l1.at' (Int.toNat i))).1).1, (((((l1.at' (Int.toNat i))).1).2).1, ()))).bind fun v8 =>
         (w4_num n v8).bind fun v9 =>
         if (v9 != (1 : Int)) = false then
          (w4_num n v7.2.1).bind fun v10 =>
          if (v10 != (1 : Int)) = false then
           if (!(v7.1.toList == (⟨#[]⟩ : BA).toList)) = true then
            kr false
           else
            kn l1 (IntKind.wrap .i64 (i + (1 : Int)))
          else
           kr false
         else
          kr false
        else
         none
       else
        none
     else
      none
   else
    none
  else
   ko ()
 else
  ko ()
theorem w4_AddrTexts_B0_N (n : Nat) {R S : Type} (l1 : (Sq ((BA × (BA × Unit)) × (BA × Unit)))) (i : Int) (kn : (Sq ((BA × (BA × Unit)) × (BA × Unit))) → Int → Option R) (ko : (Unit) → Option R) (kr : (Bool) → Option R) (kp : Int → Option R) (φ : R → Option S) : w4_AddrTexts_B0 n l1 i (fun l1 i => (kn l1 i).bind φ) (fun a => (ko a).bind φ) (fun a => (kr a).bind φ) (fun a => (kp a).bind φ) = (w4_AddrTexts_B0 n l1 i kn ko kr kp).bind φ := by
  unfold w4_AddrTexts_B0
  first | (simp only [dup_self, both_self, iB, bB, oL, oX, nB]) | rfl
def w4_AddrTexts_L0 (n : Nat) : Nat → (Sq ((BA × (BA × Unit)) × (BA × Unit))) → Int → Option (Lx (Unit) (Bool))
  | 0, _, _ => none
  | m + 1, l1, i => w4_AddrTexts_B0 n l1 i (fun l1 i => w4_AddrTexts_L0 n m l1 i) (fun a => some (.out a)) (fun a => some (.ret a)) (fun p => some (.pan p))
def w4_AddrTexts_L0_sp : List Sl := .dat (.sl (.pair (.pair .str (.pair .str .unit)) (.pair .str .unit))) :: .top :: .top :: .dat (.int .i64) :: tp 61 []
def w4_AddrTexts_L0_rp : List RS := []
def w4_AddrTexts_L0_out_sp : List Sl := tp 65 []
def w4_AddrTexts_L0_out_rp : List RS := []
def w4_AddrTexts_L0_ret_sp : List Sl := .top :: .top :: .dat .bool :: tp 62 []
def w4_AddrTexts_L0_ret_rp : List RS := []
def w4_AddrTexts_L0_K (K : XE → List AV → AHeap → Option Out) : Lx (Unit) (Bool) → Option Out := fun x => onL x (fun a => layK w4_AddrTexts_L0_out_sp w4_AddrTexts_L0_out_rp () () (K (.exit 0))) (fun a => layK w4_AddrTexts_L0_ret_sp w4_AddrTexts_L0_ret_rp (a, ()) () (K .ret)) (fun _ => none)
def w4_AddrTexts_B (n : Nat) {R : Type} (l : (Sq ((BA × (BA × Unit)) × (BA × Unit)))) (k : Bool → Option R) : Option R :=
 (w4_AddrTexts_L0 n n l (0 : Int)).bind fun x_1 => onL x_1
  (fun a_2 =>
   (w4_wakes n).bind fun v11 =>
   k v11)
  (fun a_3 =>
   k a_3)
  (fun _ => none)
def w4_AddrTexts (n : Nat) (l : (Sq ((BA × (BA × Unit)) × (BA × Unit)))) : Option Bool := w4_AddrTexts_B n l some
theorem w4_AddrTexts_N (n : Nat) {R S : Type} (l : (Sq ((BA × (BA × Unit)) × (BA × Unit)))) (k : Bool → Option R) (φ : R → Option S) : w4_AddrTexts_B n l (fun a => (k a).bind φ) = (w4_AddrTexts_B n l k).bind φ := by
  unfold w4_AddrTexts_B
  first | (simp only [dup_self, both_self, iB, bB, oL, oX, nB]) | rfl
def w4_AddrTexts_hint (n : Nat) : Hint Out := { live := fun c => (cond (Nat.beq c 0) [(0, some (.sl (.pair (.pair .str (.pair .str .unit)) (.pair .str .unit)))), (3, none)] []), run := fun c => (cond (Nat.beq c 0) (some (runL w4_AddrTexts_L0_sp w4_AddrTexts_L0_rp fun σ ρ K => (w4_AddrTexts_L0 n n σ.1 σ.2.1).bind (w4_AddrTexts_L0_K K))) none), xm := fun c q => (cond (Nat.beq c 0 && Nat.beq (q.getD 1000000) 0 && q.isSome) (some []) (cond (Nat.beq c 1 && q.isNone) (some [(2, none)]) none)) }
def w4_AddrTexts_L0_I (n : Nat) (K : XE → List AV → AHeap → Option Out) (m : Nat) (l1 : (Sq ((BA × (BA × Unit)) × (BA × Unit)))) (i : Int) : Option Out := loopI tys (callees Out (ad_Check_es n)) (w4_AddrTexts_hint n) n (codeAt [1, 0, 1, 0, 0] (bodyOf Tryd.f4)) 0 w4_AddrTexts_L0_sp w4_AddrTexts_L0_rp K m (l1, (i, ())) ()
theorem w4_AddrTexts_L0_E (n : Nat) (K : XE → List AV → AHeap → Option Out) : ∀ (m : Nat) (l1 : (Sq ((BA × (BA × Unit)) × (BA × Unit)))) (i : Int), w4_AddrTexts_L0_I n K m l1 i = (w4_AddrTexts_L0 n m l1 i).bind (w4_AddrTexts_L0_K K)
  | 0, l1, i => by kernel_rfl
  | m + 1, l1, i => by
    have h1 : w4_AddrTexts_L0_I n K (m + 1) l1 i = w4_AddrTexts_B0 n l1 i (fun l1 i => w4_AddrTexts_L0_I n K m l1 i) (fun a => w4_AddrTexts_L0_K K (.out a)) (fun a => w4_AddrTexts_L0_K K (.ret a)) (fun p => w4_AddrTexts_L0_K K (.pan p)) := by kernel_rfl
    have h2 : (fun l1 i => w4_AddrTexts_L0_I n K m l1 i) = (fun l1 i => (w4_AddrTexts_L0 n m l1 i).bind (w4_AddrTexts_L0_K K)) := funext fun l1 => funext fun i => w4_AddrTexts_L0_E n K m l1 i
    exact h1.trans ((congrArg (fun z => w4_AddrTexts_B0 n l1 i z (fun a => w4_AddrTexts_L0_K K (.out a)) (fun a => w4_AddrTexts_L0_K K (.ret a)) (fun p => w4_AddrTexts_L0_K K (.pan p))) h2).trans (w4_AddrTexts_B0_N n l1 i (fun l1 i => w4_AddrTexts_L0 n m l1 i) (fun a => some (.out a)) (fun a => some (.ret a)) (fun p => some (.pan p)) (w4_AddrTexts_L0_K K)))
theorem w4_AddrTexts_L0_ok (n : Nat) : RunOk tys (callees Out (ad_Check_es n)) (w4_AddrTexts_hint n) n (codeAt [1, 0, 1, 0, 0] (bodyOf Tryd.f4)) 0 := runOk_of (sp := w4_AddrTexts_L0_sp) (rp := w4_AddrTexts_L0_rp) (F := fun σ ρ K => (w4_AddrTexts_L0 n n σ.1 σ.2.1).bind (w4_AddrTexts_L0_K K)) (by kernel_rfl) fun K σ ρ => w4_AddrTexts_L0_E n K n σ.1 σ.2.1
theorem w4_AddrTexts_runs (n : Nat) : RunsOk tys (callees Out (ad_Check_es n)) (w4_AddrTexts_hint n) n (bodyOf Tryd.f4) 0 := ⟨trivial, ⟨⟨trivial, ⟨w4_AddrTexts_L0_ok n, ⟨⟨trivial, ⟨trivial, trivial⟩⟩, ⟨⟨⟨trivial, ⟨⟨trivial, trivial⟩, trivial⟩⟩, ⟨trivial, ⟨⟨trivial, ⟨trivial, trivial⟩⟩, ⟨trivial, ⟨trivial, ⟨⟨trivial, trivial⟩, trivial⟩⟩⟩⟩⟩⟩, trivial⟩⟩⟩⟩, ⟨trivial, trivial⟩⟩⟩
theorem w4_AddrTexts_at : Tryd.prog.funcs[4]? = some Tryd.f4 := by kernel_rfl
theorem w4_AddrTexts_ent (n : Nat) : Enters Tryd.prog 4 := enters_of (c := bodyOf Tryd.f4) w4_AddrTexts_at (by kernel_rfl) (by kernel_rfl)
theorem w4_AddrTexts_E (n : Nat) (l : (Sq ((BA × (BA × Unit)) × (BA × Unit)))) : fnA tys (callees Out (ad_Check_es n)) (w4_AddrTexts_hint n) n Tryd.f4 (encL (.pair (.sl (.pair (.pair .str (.pair .str .unit)) (.pair .str .unit))) .unit) (l, ())) [] (soloA fun v => some (.ret v)) (soloA fun v => some (.pan v)) = w4_AddrTexts_B n l (fun y => some (.ret (encR (.one .bool) y))) := by kernel_rfl
def w4_AddrTexts_en (n : Nat) : Entry := ⟨4, pcT (.pair (.sl (.pair (.pair .str (.pair .str .unit)) (.pair .str .unit))) .unit) (.one .bool) (fun xs => w4_AddrTexts n xs.1), none, none⟩
theorem w4_AddrTexts_ok (n : Nat) : EntryOk Tryd.prog gl (w4_AddrTexts_en n) :=
  pcT_ok (w4_AddrTexts_ent n) fun xs y h => ans_of_fn tys_ok (ad_Check_es_ok n) mixed (hint := w4_AddrTexts_hint n) (n := n) (fn := Tryd.f4) w4_AddrTexts_at (runsC (w4_AddrTexts_runs n)) (run_ret (φ := (fun y => some (Out.ret (encR (.one .bool) y)))) ((w4_AddrTexts_E n xs.1).trans (w4_AddrTexts_N (R := Bool) (S := Out) n xs.1 some (fun y => some (Out.ret (encR (.one .bool) y))))) h)
def w4_AddrTexts_es (n : Nat) : List Entry := w4_AddrTexts_en n :: ad_Check_es n
theorem w4_AddrTexts_es_ok (n : Nat) : AllOk Tryd.prog gl (w4_AddrTexts_es n) := .cons (w4_AddrTexts_ok n) (ad_Check_es_ok n)
end
end Go.Proofs.YtpgboapflbpieaaDoor.AM
