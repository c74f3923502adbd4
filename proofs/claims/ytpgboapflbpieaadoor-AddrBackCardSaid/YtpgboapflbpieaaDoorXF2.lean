/- Typed functions that tell what the Go functions of this seat answer, and proofs of it, by program (gen.py). -/
import Derived.Test.YtpgboapflbpieaaDoorXF1
set_option linter.all false
set_option linter.unusedVariables false
set_option linter.unusedSimpArgs false
set_option maxRecDepth 1000000
set_option maxHeartbeats 0
namespace Go.Proofs.YtpgboapflbpieaaDoor.AM
open Go Go.RowKit
noncomputable section
/- pouch/pouchlaw4.AddrBack -/
def w4_AddrBack_J0_B (n : Nat) {R : Type} (l2 : (Sq ((BA × (BA × Unit)) × (BA × Unit)))) (i1 : Int) (ko : ((Sq ((BA × (BA × Unit)) × (BA × Unit))) × Int) → Option R) (kr : (Bool) → Option R) (kp : Int → Option R) : Option R :=
 if 0 ≤ i1 ∧ i1 < (l2.n : Int) then
  (w4_heavy n (((((l2.at' (Int.toNat i1))).1).1, (((((l2.at' (Int.toNat i1))).1).2).1, ())), ((((l2.at' (Int.toNat i1))).2).1, ()))).bind fun v =>
  if v = true then
   kr true
  else
   ko (l2, i1)
 else
  none
theorem w4_AddrBack_J0_B_N (n : Nat) {R S : Type} (l2 : (Sq ((BA × (BA × Unit)) × (BA × Unit)))) (i1 : Int) (ko : ((Sq ((BA × (BA × Unit)) × (BA × Unit))) × Int) → Option R) (kr : (Bool) → Option R) (kp : Int → Option R) (φ : R → Option S) : w4_AddrBack_J0_B n l2 i1 (fun a => (ko a).bind φ) (fun a => (kr a).bind φ) (fun a => (kp a).bind φ) = (w4_AddrBack_J0_B n l2 i1 ko kr kp).bind φ := by
  unfold w4_AddrBack_J0_B
  first | (simp only [dup_self, both_self, iB, bB, oL, oX, nB]) | rfl
def w4_AddrBack_J0 (n : Nat) (l2 : (Sq ((BA × (BA × Unit)) × (BA × Unit)))) (i1 : Int) : Option (Lx ((Sq ((BA × (BA × Unit)) × (BA × Unit))) × Int) (Bool)) := w4_AddrBack_J0_B n l2 i1 (fun a => some (.out a)) (fun a => some (.ret a)) (fun p => some (.pan p))
def w4_AddrBack_J0_sp : List Sl := .dat (.sl (.pair (.pair .str (.pair .str .unit)) (.pair .str .unit))) :: .top :: .top :: .dat (.int .i64) :: tp 181 []
def w4_AddrBack_J0_rp : List RS := []
def w4_AddrBack_J0_out_sp : List Sl := .dat (.sl (.pair (.pair .str (.pair .str .unit)) (.pair .str .unit))) :: .top :: .top :: .dat (.int .i64) :: tp 181 []
def w4_AddrBack_J0_out_rp : List RS := []
def w4_AddrBack_J0_ret_sp : List Sl := .top :: .top :: .dat .bool :: tp 182 []
def w4_AddrBack_J0_ret_rp : List RS := []
def w4_AddrBack_J0_K (K : XE → List AV → AHeap → Option Out) : Lx ((Sq ((BA × (BA × Unit)) × (BA × Unit))) × Int) (Bool) → Option Out := fun x => onL x (fun a => layK w4_AddrBack_J0_out_sp w4_AddrBack_J0_out_rp (a.1, (a.2, ())) () (K .normal)) (fun a => layK w4_AddrBack_J0_ret_sp w4_AddrBack_J0_ret_rp (a, ()) () (K .ret)) (fun _ => none)
def w4_AddrBack_J1_B (n : Nat) {R : Type} (l5 : (Sq ((BA × (BA × Unit)) × (BA × Unit)))) (i4 : Int) (s1 : BA) (f1 : Int) (k01 : Int) (m02 : BA) (m03 : BA) (up1 : (Sq Int)) (ko : ((Sq ((BA × (BA × Unit)) × (BA × Unit))) × Int × BA × Int × Int × BA × BA × (Sq Int)) → Option R) (kr : Unit → Option R) (kp : Int → Option R) : Option R :=
 if 0 ≤ k01 ∧ k01 < (up1.n : Int) then
  if (decide ((up1.at' (Int.toNat k01)) ≥ (97 : Int))) = true then
   if 0 ≤ k01 ∧ k01 < (up1.n : Int) then
    if (decide ((up1.at' (Int.toNat k01)) ≤ (122 : Int))) = true then
     if 0 ≤ k01 ∧ k01 < (up1.n : Int) then
      if 0 ≤ k01 ∧ k01 < (up1.n : Int) then
       ko (l5, i4, s1, f1, k01, m02, m03, (⟨up1.n, fun q => if q = (Int.toNat k01) ∧ q < up1.n then (IntKind.wrap .u8 ((up1.at' (Int.toNat k01)) - (32 : Int))) else up1.at' q⟩ : Sq Int))
      else
       none
     else
      none
    else
     ko (l5, i4, s1, f1, k01, m02, m03, up1)
   else
    none
  else
   ko (l5, i4, s1, f1, k01, m02, m03, up1)
 else
  none
theorem w4_AddrBack_J1_B_N (n : Nat) {R S : Type} (l5 : (Sq ((BA × (BA × Unit)) × (BA × Unit)))) (i4 : Int) (s1 : BA) (f1 : Int) (k01 : Int) (m02 : BA) (m03 : BA) (up1 : (Sq Int)) (ko : ((Sq ((BA × (BA × Unit)) × (BA × Unit))) × Int × BA × Int × Int × BA × BA × (Sq Int)) → Option R) (kr : Unit → Option R) (kp : Int → Option R) (φ : R → Option S) : w4_AddrBack_J1_B n l5 i4 s1 f1 k01 m02 m03 up1 (fun a => (ko a).bind φ) (fun a => (kr a).bind φ) (fun a => (kp a).bind φ) = (w4_AddrBack_J1_B n l5 i4 s1 f1 k01 m02 m03 up1 ko kr kp).bind φ := by
  unfold w4_AddrBack_J1_B
  first | (simp only [dup_self, both_self, iB, bB, oL, oX, nB]) | rfl
def w4_AddrBack_J1 (n : Nat) (l5 : (Sq ((BA × (BA × Unit)) × (BA × Unit)))) (i4 : Int) (s1 : BA) (f1 : Int) (k01 : Int) (m02 : BA) (m03 : BA) (up1 : (Sq Int)) : Option (Lx ((Sq ((BA × (BA × Unit)) × (BA × Unit))) × Int × BA × Int × Int × BA × BA × (Sq Int)) Unit) := w4_AddrBack_J1_B n l5 i4 s1 f1 k01 m02 m03 up1 (fun a => some (.out a)) (fun a => some (.ret a)) (fun p => some (.pan p))
def w4_AddrBack_J1_sp : List Sl := .dat (.sl (.pair (.pair .str (.pair .str .unit)) (.pair .str .unit))) :: .top :: .top :: .dat (.int .i64) :: .dat .str :: .top :: .ptr 0 0 0 :: .dat (.int .i64) :: .row 1 :: .dat (.int .i64) :: tp 175 []
def w4_AddrBack_J1_rp : List RS := [.box 25 2 true [.dat .str, .dat .str], .row 5 1 (.int .u8) false true]
def w4_AddrBack_J1_out_sp : List Sl := .dat (.sl (.pair (.pair .str (.pair .str .unit)) (.pair .str .unit))) :: .top :: .top :: .dat (.int .i64) :: .dat .str :: .top :: .ptr 0 0 0 :: .dat (.int .i64) :: .row 1 :: .dat (.int .i64) :: tp 175 []
def w4_AddrBack_J1_out_rp : List RS := [.box 25 2 true [.dat .str, .dat .str], .row 5 1 (.int .u8) false true]
def w4_AddrBack_J1_K (K : XE → List AV → AHeap → Option Out) : Lx ((Sq ((BA × (BA × Unit)) × (BA × Unit))) × Int × BA × Int × Int × BA × BA × (Sq Int)) Unit → Option Out := fun x => onL x (fun a => layK w4_AddrBack_J1_out_sp w4_AddrBack_J1_out_rp (a.1, (a.2.1, (a.2.2.1, (a.2.2.2.1, (a.2.2.2.2.1, ()))))) ((a.2.2.2.2.2.1, (a.2.2.2.2.2.2.1, ())), (a.2.2.2.2.2.2.2, ())) (K .normal)) (fun _ => none) (fun _ => none)
def w4_AddrBack_B1 (n : Nat) {R : Type} (l4 : (Sq ((BA × (BA × Unit)) × (BA × Unit)))) (i3 : Int) (s : BA) (f : Int) (k0 : Int) (m0 : BA) (m01 : BA) (up : (Sq Int)) (kn : (Sq ((BA × (BA × Unit)) × (BA × Unit))) → Int → BA → Int → Int → BA → BA → (Sq Int) → Option R) (ko : ((Sq ((BA × (BA × Unit)) × (BA × Unit))) × Int × BA × Int × BA × BA × (Sq Int)) → Option R) (kr : Unit → Option R) (kp : Int → Option R) : Option R :=
 if (decide (k0 < (up.n : Int))) = true then
  (w4_AddrBack_J1 n l4 i3 s f k0 m0 m01 up).bind fun x_1 => onL x_1
   (fun a_2 =>
    kn a_2.1 a_2.2.1 a_2.2.2.1 a_2.2.2.2.1 (IntKind.wrap .i64 (a_2.2.2.2.2.1 + (1 : Int))) a_2.2.2.2.2.2.1 a_2.2.2.2.2.2.2.1 a_2.2.2.2.2.2.2.2)
   (fun _ => none)
   (fun _ => none)
 else
  ko (l4, i3, s, f, m0, m01, up)
theorem w4_AddrBack_B1_N (n : Nat) {R S : Type} (l4 : (Sq ((BA × (BA × Unit)) × (BA × Unit)))) (i3 : Int) (s : BA) (f : Int) (k0 : Int) (m0 : BA) (m01 : BA) (up : (Sq Int)) (kn : (Sq ((BA × (BA × Unit)) × (BA × Unit))) → Int → BA → Int → Int → BA → BA → (Sq Int) → Option R) (ko : ((Sq ((BA × (BA × Unit)) × (BA × Unit))) × Int × BA × Int × BA × BA × (Sq Int)) → Option R) (kr : Unit → Option R) (kp : Int → Option R) (φ : R → Option S) : w4_AddrBack_B1 n l4 i3 s f k0 m0 m01 up (fun l4 i3 s f k0 m0 m01 up => (kn l4 i3 s f k0 m0 m01 up).bind φ) (fun a => (ko a).bind φ) (fun a => (kr a).bind φ) (fun a => (kp a).bind φ) = (w4_AddrBack_B1 n l4 i3 s f k0 m0 m01 up kn ko kr kp).bind φ := by
  unfold w4_AddrBack_B1
  first | (simp only [dup_self, both_self, iB, bB, oL, oX, nB]) | rfl
def w4_AddrBack_L1 (n : Nat) : Nat → (Sq ((BA × (BA × Unit)) × (BA × Unit))) → Int → BA → Int → Int → BA → BA → (Sq Int) → Option (Lx ((Sq ((BA × (BA × Unit)) × (BA × Unit))) × Int × BA × Int × BA × BA × (Sq Int)) Unit)
  | 0, _, _, _, _, _, _, _, _ => none
  | m + 1, l4, i3, s, f, k0, m0, m01, up => w4_AddrBack_B1 n l4 i3 s f k0 m0 m01 up (fun l4 i3 s f k0 m0 m01 up => w4_AddrBack_L1 n m l4 i3 s f k0 m0 m01 up) (fun a => some (.out a)) (fun a => some (.ret a)) (fun p => some (.pan p))
def w4_AddrBack_L1_sp : List Sl := .dat (.sl (.pair (.pair .str (.pair .str .unit)) (.pair .str .unit))) :: .top :: .top :: .dat (.int .i64) :: .dat .str :: .top :: .ptr 0 0 0 :: .dat (.int .i64) :: .row 1 :: .dat (.int .i64) :: tp 175 []
def w4_AddrBack_L1_rp : List RS := [.box 25 2 true [.dat .str, .dat .str], .row 5 1 (.int .u8) false true]
def w4_AddrBack_L1_out_sp : List Sl := .dat (.sl (.pair (.pair .str (.pair .str .unit)) (.pair .str .unit))) :: .top :: .top :: .dat (.int .i64) :: .dat .str :: .top :: .ptr 0 0 0 :: .dat (.int .i64) :: .row 1 :: tp 176 []
def w4_AddrBack_L1_out_rp : List RS := [.box 25 2 true [.dat .str, .dat .str], .row 5 1 (.int .u8) false true]
def w4_AddrBack_L1_K (K : XE → List AV → AHeap → Option Out) : Lx ((Sq ((BA × (BA × Unit)) × (BA × Unit))) × Int × BA × Int × BA × BA × (Sq Int)) Unit → Option Out := fun x => onL x (fun a => layK w4_AddrBack_L1_out_sp w4_AddrBack_L1_out_rp (a.1, (a.2.1, (a.2.2.1, (a.2.2.2.1, ())))) ((a.2.2.2.2.1, (a.2.2.2.2.2.1, ())), (a.2.2.2.2.2.2, ())) (K (.exit 2))) (fun _ => none) (fun _ => none)
def w4_AddrBack_B0 (n : Nat) {R : Type} (l1 : (Sq ((BA × (BA × Unit)) × (BA × Unit)))) (i : Int) (kn : (Sq ((BA × (BA × Unit)) × (BA × Unit))) → Int → Option R) (ko : (Unit) → Option R) (kr : (Bool) → Option R) (kp : Int → Option R) : Option R :=
 if (decide (i < (l1.n : Int))) = true then
  if (decide (i < (20 : Int))) = true then
   (w4_AddrBack_J0 n l1 i).bind fun x_1 => onL x_1
    (fun a_2 =>
     if 0 ≤ a_2.2 ∧ a_2.2 < (a_2.1.n : Int) then
      (ad_Text n ((((a_2.1.at' (Int.toNat a_2.2))).1).1, (((((a_2.1.at' (Int.toNat a_2.2))).1).2).1, ()))).bind fun v1 =>
      (w4_num n v1.2.1).bind fun v2 =>
      if (v2 == (0 : Int)) = true then
       (ad_Parse n v1.1).bind fun v3 =>
       if 0 ≤ a_2.2 ∧ a_2.2 < (a_2.1.n : Int) then
        (w4_AddrBack_L1 n n a_2.1 a_2.2 v1.1 v3.2.1 (0 : Int) v3.1.1 v3.1.2.1 (⟨(((((a_2.1.at' (Int.toNat a_2.2))).1).2).1).size, fun q => bt (((((a_2.1.at' (Int.toNat a_2.2))).1).2).1) q⟩ : Sq Int)).bind fun x_3 => onL x_3
         (fun a_4 =>
          if 0 ≤ a_4.2.1 ∧ a_4.2.1 < (a_4.1.n : Int) then
           if strFits ((((a_4.1.at' (Int.toNat a_4.2.1))).1).1) (⟨#[64]⟩ : BA) = true then
            if strFits (((((a_4.1.at' (Int.toNat a_4.2.1))).1).1) ++ (⟨#[64]⟩ : BA)) (strOf a_4.2.2.2.2.2.2.n a_4.2.2.2.2.2.2.at') = true then
             dup 1 (
              (ad_Parse n ((((((a_4.1.at' (Int.toNat a_4.2.1))).1).1) ++ (⟨#[64]⟩ : BA)) ++ (strOf a_4.2.2.2.2.2.2.n a_4.2.2.2.2.2.2.at'))).bind fun v4 =>
              if strFits (⟨#[60]⟩ : BA) a_4.2.2.1 = true then
               if strFits ((⟨#[60]⟩ : BA) ++ a_4.2.2.1) (⟨#[62]⟩ : BA) = true then
                (ad_Path n (((⟨#[60]⟩ : BA) ++ a_4.2.2.1) ++ (⟨#[62]⟩ : BA))).bind fun v5 =>
                (w4_num n a_4.2.2.2.1).bind fun v6 =>
                if (v6 != (0 : Int)) = false then
                 if 0 ≤ a_4.2.1 ∧ a_4.2.1 < (a_4.1.n : Int) then
                  if (!((a_4.2.2.2.2.1.toList == ((((a_4.1.at' (Int.toNat a_4.2.1))).1).1).toList) && ((a_4.2.2.2.2.2.1.toList == (((((a_4.1.at' (Int.toNat a_4.2.1))).1).2).1).toList) && true))) = false then
                   (w4_num n v4.2.1).bind fun v7 =>
                   if (v7 != (0 : Int)) = false then
                    if (!((v4.1.1.toList == a_4.2.2.2.2.1.toList) && ((v4.1.2.1.toList == a_4.2.2.2.2.2.1.toList) && true))) = false then
                     (w4_num n v5.2.2.1).bind fun v8 =>
                     if (v8 != (0 : Int)) = false then
                      if v5.2.1 = false then
                       if (!((v5.1.1.toList == a_4.2.2.2.2.1.toList) && ((v5.1.2.1.toList == a_4.2.2.2.2.2.1.toList) && true))) = true then
                        kr false
                       else
                        if 0 ≤ a_4.2.1 ∧ a_4.2.1 < (a_4.1.n : Int) then
                         (ad_Parse n ((((a_4.1.at' (Int.toNat a_4.2.1))).2).1)).bind fun v9 =>
                         (w4_num n v9.2.1).bind fun v10 =>
                         if (v10 == (0 : Int)) = true then
                          (ad_Text n (v9.1.1, (v9.1.2.1, ()))).bind fun v11 =>
                          (ad_Parse n v11.1).bind fun v12 =>
                          (w4_num n v11.2.1).bind fun v13 =>
                          if (v13 != (0 : Int)) = false then
                           (w4_num n v12.2.1).bind fun v14 =>
                           if (v14 != (0 : Int)) = false then
                            if (!((v12.1.1.toList == v9.1.1.toList) && ((v12.1.2.1.toList == v9.1.2.1.toList) && true))) = false then
                             (ad_Check n (v9.1.1, (v9.1.2.1, ()))).bind fun v15 =>
                             (w4_num n v15).bind fun v16 =>
                             if (v16 != (0 : Int)) = true then
                              kr false
                             else
                              kn a_4.1 (IntKind.wrap .i64 (a_4.2.1 + (1 : Int)))
                            else
                             kr false
                           else
                            kr false
                          else
                           kr false
                         else
                          kn a_4.1 (IntKind.wrap .i64 (a_4.2.1 + (1 : Int)))
                        else
                         none
                      else
                       kr false
                     else
                      kr false
                    else
                     kr false
                   else
                    kr false
                  else
                   kr false
                 else
                  none
                else
                 kr false
               else
                none
              else
               none)
            else
             none
           else
            none
          else
           none)
         (fun _ => none)
         (fun _ => none)
       else
        none
      else
       if 0 ≤ a_2.2 ∧ a_2.2 < (a_2.1.n : Int) then
        (ad_Parse n ((((a_2.1.at' (Int.toNat a_2.2))).2).1)).bind fun v30 =>
        (w4_num n v30.2.1).bind fun v31 =>
        if (v31 == (0 : Int)) = true then
         (ad_Text n (v30.1.1, (v30.1.2.1, ()))).bind fun v32 =>
         (ad_Parse n v32.1).bind fun v33 =>
         (w4_num n v32.2.1).bind fun v34 =>
         if (v34 != (0 : Int)) = false then
          (w4_num n v33.2.1).bind fun v35 =>
          if (v35 != (0 : Int)) = false then
           if (!((v33.1.1.toList == v30.1.1.toList) && ((v33.1.2.1.toList == v30.1.2.1.toList) && true))) = false then
            (ad_Check n (v30.1.1, (v30.1.2.1, ()))).bind fun v36 =>
            (w4_num n v36).bind fun v37 =>
            if (v37 != (0 : Int)) = true then
             kr false
            else
             kn a_2.1 (IntKind.wrap .i64 (a_2.2 + (1 : Int)))
           else
            kr false
          else
           kr false
         else
          kr false
        else
         kn a_2.1 (IntKind.wrap .i64 (a_2.2 + (1 : Int)))
       else
        none
     else
      none)
    (fun a_5 =>
     kr a_5)
    (fun _ => none)
  else
   ko ()
 else
  ko ()
theorem w4_AddrBack_B0_N (n : Nat) {R S : Type} (l1 : (Sq ((BA × (BA × Unit)) × (BA × Unit)))) (i : Int) (kn : (Sq ((BA × (BA × Unit)) × (BA × Unit))) → Int → Option R) (ko : (Unit) → Option R) (kr : (Bool) → Option R) (kp : Int → Option R) (φ : R → Option S) : w4_AddrBack_B0 n l1 i (fun l1 i => (kn l1 i).bind φ) (fun a => (ko a).bind φ) (fun a => (kr a).bind φ) (fun a => (kp a).bind φ) = (w4_AddrBack_B0 n l1 i kn ko kr kp).bind φ := by
  unfold w4_AddrBack_B0
  first | (simp only [dup_self, both_self, iB, bB, oL, oX, nB]) | rfl
def w4_AddrBack_L0 (n : Nat) : Nat → (Sq ((BA × (BA × Unit)) × (BA × Unit))) → Int → Option (Lx (Unit) (Bool))
  | 0, _, _ => none
  | m + 1, l1, i => w4_AddrBack_B0 n l1 i (fun l1 i => w4_AddrBack_L0 n m l1 i) (fun a => some (.out a)) (fun a => some (.ret a)) (fun p => some (.pan p))
def w4_AddrBack_L0_sp : List Sl := .dat (.sl (.pair (.pair .str (.pair .str .unit)) (.pair .str .unit))) :: .top :: .top :: .dat (.int .i64) :: tp 181 []
def w4_AddrBack_L0_rp : List RS := []
def w4_AddrBack_L0_out_sp : List Sl := tp 185 []
def w4_AddrBack_L0_out_rp : List RS := []
def w4_AddrBack_L0_ret_sp : List Sl := .top :: .top :: .dat .bool :: tp 182 []
def w4_AddrBack_L0_ret_rp : List RS := []
def w4_AddrBack_L0_K (K : XE → List AV → AHeap → Option Out) : Lx (Unit) (Bool) → Option Out := fun x => onL x (fun a => layK w4_AddrBack_L0_out_sp w4_AddrBack_L0_out_rp () () (K (.exit 0))) (fun a => layK w4_AddrBack_L0_ret_sp w4_AddrBack_L0_ret_rp (a, ()) () (K .ret)) (fun _ => none)
def w4_AddrBack_B (n : Nat) {R : Type} (l : (Sq ((BA × (BA × Unit)) × (BA × Unit)))) (k : Bool → Option R) : Option R :=
 (w4_AddrBack_L0 n n l (0 : Int)).bind fun x_1 => onL x_1
  (fun a_2 =>
   (w4_wakes n).bind fun v38 =>
   k v38)
  (fun a_3 =>
   k a_3)
  (fun _ => none)
def w4_AddrBack (n : Nat) (l : (Sq ((BA × (BA × Unit)) × (BA × Unit)))) : Option Bool := w4_AddrBack_B n l some
theorem w4_AddrBack_N (n : Nat) {R S : Type} (l : (Sq ((BA × (BA × Unit)) × (BA × Unit)))) (k : Bool → Option R) (φ : R → Option S) : w4_AddrBack_B n l (fun a => (k a).bind φ) = (w4_AddrBack_B n l k).bind φ := by
  unfold w4_AddrBack_B
  first | (simp only [dup_self, both_self, iB, bB, oL, oX, nB]) | rfl
def w4_AddrBack_hint (n : Nat) : Hint Out := { live := fun c => (cond (Nat.beq c 0) [(0, some (.sl (.pair (.pair .str (.pair .str .unit)) (.pair .str .unit)))), (3, none)] (cond (Nat.beq c 2) [(0, some (.sl (.pair (.pair .str (.pair .str .unit)) (.pair .str .unit)))), (3, none), (4, none), (6, none), (7, none), (8, some (.sl (.int .u8))), (9, none)] [])), run := fun c => (cond (Nat.beq c 0) (some (runL w4_AddrBack_L0_sp w4_AddrBack_L0_rp fun σ ρ K => (w4_AddrBack_L0 n n σ.1 σ.2.1).bind (w4_AddrBack_L0_K K))) (cond (Nat.beq c 2) (some (runL w4_AddrBack_L1_sp w4_AddrBack_L1_rp fun σ ρ K => (w4_AddrBack_L1 n n σ.1 σ.2.1 σ.2.2.1 σ.2.2.2.1 σ.2.2.2.2.1 ρ.1.1 ρ.1.2.1 ρ.2.1).bind (w4_AddrBack_L1_K K))) none)), xm := fun c q => (cond (Nat.beq c 0 && q.isNone) (some [(2, none)]) (cond (Nat.beq c 0 && Nat.beq (q.getD 1000000) 0 && q.isSome) (some []) (cond (Nat.beq c 2 && Nat.beq (q.getD 1000000) 2 && q.isSome) (some [(0, some (.sl (.pair (.pair .str (.pair .str .unit)) (.pair .str .unit)))), (3, none), (4, none), (6, none), (7, none), (8, some (.sl (.int .u8)))]) (cond (Nat.beq c 1 && q.isNone) (some [(2, none)]) none)))), jn := fun c => (cond (Nat.beq c 13) (some (runL w4_AddrBack_J1_sp w4_AddrBack_J1_rp fun σ ρ K => (w4_AddrBack_J1 n σ.1 σ.2.1 σ.2.2.1 σ.2.2.2.1 σ.2.2.2.2.1 ρ.1.1 ρ.1.2.1 ρ.2.1).bind (w4_AddrBack_J1_K K))) (cond (Nat.beq c 7) (some (runL w4_AddrBack_J0_sp w4_AddrBack_J0_rp fun σ ρ K => (w4_AddrBack_J0 n σ.1 σ.2.1).bind (w4_AddrBack_J0_K K))) none)), jl := fun c => (cond (Nat.beq c 13) [(0, some (.sl (.pair (.pair .str (.pair .str .unit)) (.pair .str .unit)))), (3, none), (4, none), (6, none), (7, none), (8, some (.sl (.int .u8))), (9, none)] (cond (Nat.beq c 7) [(0, some (.sl (.pair (.pair .str (.pair .str .unit)) (.pair .str .unit)))), (3, none)] [])), jo := fun c => (cond (Nat.beq c 13) [(0, some (.sl (.pair (.pair .str (.pair .str .unit)) (.pair .str .unit)))), (3, none), (4, none), (6, none), (7, none), (8, some (.sl (.int .u8))), (9, none)] (cond (Nat.beq c 7) [(0, some (.sl (.pair (.pair .str (.pair .str .unit)) (.pair .str .unit)))), (3, none)] [])), sch := fun c => (cond (Nat.beq c 15) (some [(0, 0), (1, 0), (2, 0), (3, 0), (4, 0), (7, 0), (5, 1), (6, 0), (8, 1), (9, 0), (15, 5), (10, 7), (11, 6), (12, 6), (13, 6), (14, 7), (16, 6)]) none) }
theorem w4_AddrBack_J0_E (n : Nat) (K : XE → List AV → AHeap → Option Out) (l2 : (Sq ((BA × (BA × Unit)) × (BA × Unit)))) (i1 : Int) : joinI tys (callees Out (w4_AddrTexts_es n)) (w4_AddrBack_hint n) n (codeAt [1, 0, 1, 0, 0, 1, 0, 0, 0] (bodyOf Tryd.f5)) 1 7 w4_AddrBack_J0_sp w4_AddrBack_J0_rp K (l2, (i1, ())) () = (w4_AddrBack_J0 n l2 i1).bind (w4_AddrBack_J0_K K) := by
  have h1 : joinI tys (callees Out (w4_AddrTexts_es n)) (w4_AddrBack_hint n) n (codeAt [1, 0, 1, 0, 0, 1, 0, 0, 0] (bodyOf Tryd.f5)) 1 7 w4_AddrBack_J0_sp w4_AddrBack_J0_rp K (l2, (i1, ())) () = w4_AddrBack_J0_B n l2 i1 (fun a => w4_AddrBack_J0_K K (.out a)) (fun a => w4_AddrBack_J0_K K (.ret a)) (fun p => w4_AddrBack_J0_K K (.pan p)) := by kernel_rfl
  exact h1.trans (w4_AddrBack_J0_B_N (R := Lx ((Sq ((BA × (BA × Unit)) × (BA × Unit))) × Int) (Bool)) (S := Out) n l2 i1 (fun a => some (.out a)) (fun a => some (.ret a)) (fun p => some (.pan p)) (w4_AddrBack_J0_K K))
theorem w4_AddrBack_J0_ok (n : Nat) : JnOk tys (callees Out (w4_AddrTexts_es n)) (w4_AddrBack_hint n) n (codeAt [1, 0, 1, 0, 0, 1, 0, 0, 0] (bodyOf Tryd.f5)) 1 7 := jnOk_of (sp := w4_AddrBack_J0_sp) (rp := w4_AddrBack_J0_rp) (F := fun σ ρ K => (w4_AddrBack_J0 n σ.1 σ.2.1).bind (w4_AddrBack_J0_K K)) (by kernel_rfl) fun K σ ρ => w4_AddrBack_J0_E n K σ.1 σ.2.1
theorem w4_AddrBack_J1_E (n : Nat) (K : XE → List AV → AHeap → Option Out) (l5 : (Sq ((BA × (BA × Unit)) × (BA × Unit)))) (i4 : Int) (s1 : BA) (f1 : Int) (k01 : Int) (m02 : BA) (m03 : BA) (up1 : (Sq Int)) : joinI tys (callees Out (w4_AddrTexts_es n)) (w4_AddrBack_hint n) n (codeAt [1, 0, 1, 0, 0, 1, 0, 0, 1, 1, 0, 1, 0, 1, 1, 0, 1, 0, 0, 1, 0] (bodyOf Tryd.f5)) 2 13 w4_AddrBack_J1_sp w4_AddrBack_J1_rp K (l5, (i4, (s1, (f1, (k01, ()))))) ((m02, (m03, ())), (up1, ())) = (w4_AddrBack_J1 n l5 i4 s1 f1 k01 m02 m03 up1).bind (w4_AddrBack_J1_K K) := by
  have h1 : joinI tys (callees Out (w4_AddrTexts_es n)) (w4_AddrBack_hint n) n (codeAt [1, 0, 1, 0, 0, 1, 0, 0, 1, 1, 0, 1, 0, 1, 1, 0, 1, 0, 0, 1, 0] (bodyOf Tryd.f5)) 2 13 w4_AddrBack_J1_sp w4_AddrBack_J1_rp K (l5, (i4, (s1, (f1, (k01, ()))))) ((m02, (m03, ())), (up1, ())) = w4_AddrBack_J1_B n l5 i4 s1 f1 k01 m02 m03 up1 (fun a => w4_AddrBack_J1_K K (.out a)) (fun a => w4_AddrBack_J1_K K (.ret a)) (fun p => w4_AddrBack_J1_K K (.pan p)) := by kernel_rfl
  exact h1.trans (w4_AddrBack_J1_B_N (R := Lx ((Sq ((BA × (BA × Unit)) × (BA × Unit))) × Int × BA × Int × Int × BA × BA × (Sq Int)) Unit) (S := Out) n l5 i4 s1 f1 k01 m02 m03 up1 (fun a => some (.out a)) (fun a => some (.ret a)) (fun p => some (.pan p)) (w4_AddrBack_J1_K K))
theorem w4_AddrBack_J1_ok (n : Nat) : JnOk tys (callees Out (w4_AddrTexts_es n)) (w4_AddrBack_hint n) n (codeAt [1, 0, 1, 0, 0, 1, 0, 0, 1, 1, 0, 1, 0, 1, 1, 0, 1, 0, 0, 1, 0] (bodyOf Tryd.f5)) 2 13 := jnOk_of (sp := w4_AddrBack_J1_sp) (rp := w4_AddrBack_J1_rp) (F := fun σ ρ K => (w4_AddrBack_J1 n σ.1 σ.2.1 σ.2.2.1 σ.2.2.2.1 σ.2.2.2.2.1 ρ.1.1 ρ.1.2.1 ρ.2.1).bind (w4_AddrBack_J1_K K)) (by kernel_rfl) fun K σ ρ => w4_AddrBack_J1_E n K σ.1 σ.2.1 σ.2.2.1 σ.2.2.2.1 σ.2.2.2.2.1 ρ.1.1 ρ.1.2.1 ρ.2.1
def w4_AddrBack_L1_I (n : Nat) (K : XE → List AV → AHeap → Option Out) (m : Nat) (l4 : (Sq ((BA × (BA × Unit)) × (BA × Unit)))) (i3 : Int) (s : BA) (f : Int) (k0 : Int) (m0 : BA) (m01 : BA) (up : (Sq Int)) : Option Out := loopI tys (callees Out (w4_AddrTexts_es n)) (w4_AddrBack_hint n) n (codeAt [1, 0, 1, 0, 0, 1, 0, 0, 1, 1, 0, 1, 0, 1, 1, 0, 1, 0, 0] (bodyOf Tryd.f5)) 2 w4_AddrBack_L1_sp w4_AddrBack_L1_rp K m (l4, (i3, (s, (f, (k0, ()))))) ((m0, (m01, ())), (up, ()))
theorem w4_AddrBack_L1_E (n : Nat) (K : XE → List AV → AHeap → Option Out) : ∀ (m : Nat) (l4 : (Sq ((BA × (BA × Unit)) × (BA × Unit)))) (i3 : Int) (s : BA) (f : Int) (k0 : Int) (m0 : BA) (m01 : BA) (up : (Sq Int)), w4_AddrBack_L1_I n K m l4 i3 s f k0 m0 m01 up = (w4_AddrBack_L1 n m l4 i3 s f k0 m0 m01 up).bind (w4_AddrBack_L1_K K)
  | 0, l4, i3, s, f, k0, m0, m01, up => by kernel_rfl
  | m + 1, l4, i3, s, f, k0, m0, m01, up => by
    have h1 : w4_AddrBack_L1_I n K (m + 1) l4 i3 s f k0 m0 m01 up = w4_AddrBack_B1 n l4 i3 s f k0 m0 m01 up (fun l4 i3 s f k0 m0 m01 up => w4_AddrBack_L1_I n K m l4 i3 s f k0 m0 m01 up) (fun a => w4_AddrBack_L1_K K (.out a)) (fun a => w4_AddrBack_L1_K K (.ret a)) (fun p => w4_AddrBack_L1_K K (.pan p)) := by kernel_rfl
    have h2 : (fun l4 i3 s f k0 m0 m01 up => w4_AddrBack_L1_I n K m l4 i3 s f k0 m0 m01 up) = (fun l4 i3 s f k0 m0 m01 up => (w4_AddrBack_L1 n m l4 i3 s f k0 m0 m01 up).bind (w4_AddrBack_L1_K K)) := funext fun l4 => funext fun i3 => funext fun s => funext fun f => funext fun k0 => funext fun m0 => funext fun m01 => funext fun up => w4_AddrBack_L1_E n K m l4 i3 s f k0 m0 m01 up
    exact h1.trans ((congrArg (fun z => w4_AddrBack_B1 n l4 i3 s f k0 m0 m01 up z (fun a => w4_AddrBack_L1_K K (.out a)) (fun a => w4_AddrBack_L1_K K (.ret a)) (fun p => w4_AddrBack_L1_K K (.pan p))) h2).trans (w4_AddrBack_B1_N n l4 i3 s f k0 m0 m01 up (fun l4 i3 s f k0 m0 m01 up => w4_AddrBack_L1 n m l4 i3 s f k0 m0 m01 up) (fun a => some (.out a)) (fun a => some (.ret a)) (fun p => some (.pan p)) (w4_AddrBack_L1_K K)))
theorem w4_AddrBack_L1_ok (n : Nat) : RunOk tys (callees Out (w4_AddrTexts_es n)) (w4_AddrBack_hint n) n (codeAt [1, 0, 1, 0, 0, 1, 0, 0, 1, 1, 0, 1, 0, 1, 1, 0, 1, 0, 0] (bodyOf Tryd.f5)) 2 := runOk_of (sp := w4_AddrBack_L1_sp) (rp := w4_AddrBack_L1_rp) (F := fun σ ρ K => (w4_AddrBack_L1 n n σ.1 σ.2.1 σ.2.2.1 σ.2.2.2.1 σ.2.2.2.2.1 ρ.1.1 ρ.1.2.1 ρ.2.1).bind (w4_AddrBack_L1_K K)) (by kernel_rfl) fun K σ ρ => w4_AddrBack_L1_E n K n σ.1 σ.2.1 σ.2.2.1 σ.2.2.2.1 σ.2.2.2.2.1 ρ.1.1 ρ.1.2.1 ρ.2.1
def w4_AddrBack_L0_I (n : Nat) (K : XE → List AV → AHeap → Option Out) (m : Nat) (l1 : (Sq ((BA × (BA × Unit)) × (BA × Unit)))) (i : Int) : Option Out := loopI tys (callees Out (w4_AddrTexts_es n)) (w4_AddrBack_hint n) n (codeAt [1, 0, 1, 0, 0] (bodyOf Tryd.f5)) 0 w4_AddrBack_L0_sp w4_AddrBack_L0_rp K m (l1, (i, ())) ()
theorem w4_AddrBack_L0_E (n : Nat) (K : XE → List AV → AHeap → Option Out) : ∀ (m : Nat) (l1 : (Sq ((BA × (BA × Unit)) × (BA × Unit)))) (i : Int), w4_AddrBack_L0_I n K m l1 i = (w4_AddrBack_L0 n m l1 i).bind (w4_AddrBack_L0_K K)
  | 0, l1, i => by kernel_rfl
  | m + 1, l1, i => by
    have h1 : w4_AddrBack_L0_I n K (m + 1) l1 i = w4_AddrBack_B0 n l1 i (fun l1 i => w4_AddrBack_L0_I n K m l1 i) (fun a => w4_AddrBack_L0_K K (.out a)) (fun a => w4_AddrBack_L0_K K (.ret a)) (fun p => w4_AddrBack_L0_K K (.pan p)) := by kernel_rfl
    have h2 : (fun l1 i => w4_AddrBack_L0_I n K m l1 i) = (fun l1 i => (w4_AddrBack_L0 n m l1 i).bind (w4_AddrBack_L0_K K)) := funext fun l1 => funext fun i => w4_AddrBack_L0_E n K m l1 i
    exact h1.trans ((congrArg (fun z => w4_AddrBack_B0 n l1 i z (fun a => w4_AddrBack_L0_K K (.out a)) (fun a => w4_AddrBack_L0_K K (.ret a)) (fun p => w4_AddrBack_L0_K K (.pan p))) h2).trans (w4_AddrBack_B0_N n l1 i (fun l1 i => w4_AddrBack_L0 n m l1 i) (fun a => some (.out a)) (fun a => some (.ret a)) (fun p => some (.pan p)) (w4_AddrBack_L0_K K)))
theorem w4_AddrBack_L0_ok (n : Nat) : RunOk tys (callees Out (w4_AddrTexts_es n)) (w4_AddrBack_hint n) n (codeAt [1, 0, 1, 0, 0] (bodyOf Tryd.f5)) 0 := runOk_of (sp := w4_AddrBack_L0_sp) (rp := w4_AddrBack_L0_rp) (F := fun σ ρ K => (w4_AddrBack_L0 n n σ.1 σ.2.1).bind (w4_AddrBack_L0_K K)) (by kernel_rfl) fun K σ ρ => w4_AddrBack_L0_E n K n σ.1 σ.2.1
theorem w4_AddrBack_runs (n : Nat) : RunsOk tys (callees Out (w4_AddrTexts_es n)) (w4_AddrBack_hint n) n (bodyOf Tryd.f5) 0 := ⟨trivial, ⟨⟨trivial, ⟨w4_AddrBack_L0_ok n, ⟨⟨trivial, ⟨trivial, trivial⟩⟩, ⟨⟨⟨⟨trivial, ⟨⟨trivial, trivial⟩, trivial⟩⟩, ⟨trivial, ⟨⟨trivial, ⟨⟨trivial, ⟨trivial, ⟨⟨trivial, ⟨w4_AddrBack_L1_ok n, ⟨⟨trivial, ⟨trivial, trivial⟩⟩, ⟨⟨⟨trivial, ⟨trivial, trivial⟩⟩, trivial⟩, w4_AddrBack_J1_ok n⟩⟩⟩⟩, ⟨trivial, ⟨trivial, ⟨trivial, ⟨⟨trivial, trivial⟩, trivial⟩⟩⟩⟩⟩⟩⟩, trivial⟩⟩, ⟨trivial, ⟨trivial, ⟨⟨trivial, ⟨trivial, ⟨trivial, ⟨⟨trivial, trivial⟩, trivial⟩⟩⟩⟩, trivial⟩⟩⟩⟩⟩⟩, w4_AddrBack_J0_ok n⟩, trivial⟩⟩⟩⟩, ⟨trivial, trivial⟩⟩⟩
theorem w4_AddrBack_at : Tryd.prog.funcs[5]? = some Tryd.f5 := by kernel_rfl
theorem w4_AddrBack_ent (n : Nat) : Enters Tryd.prog 5 := enters_of (c := bodyOf Tryd.f5) w4_AddrBack_at (by kernel_rfl) (by kernel_rfl)
theorem w4_AddrBack_E (n : Nat) (l : (Sq ((BA × (BA × Unit)) × (BA × Unit)))) : fnA tys (callees Out (w4_AddrTexts_es n)) (w4_AddrBack_hint n) n Tryd.f5 (encL (.pair (.sl (.pair (.pair .str (.pair .str .unit)) (.pair .str .unit))) .unit) (l, ())) [] (soloA fun v => some (.ret v)) (soloA fun v => some (.pan v)) = w4_AddrBack_B n l (fun y => some (.ret (encR (.one .bool) y))) := by kernel_rfl
def w4_AddrBack_en (n : Nat) : Entry := ⟨5, pcT (.pair (.sl (.pair (.pair .str (.pair .str .unit)) (.pair .str .unit))) .unit) (.one .bool) (fun xs => w4_AddrBack n xs.1), none, none⟩
theorem w4_AddrBack_ok (n : Nat) : EntryOk Tryd.prog gl (w4_AddrBack_en n) :=
  pcT_ok (w4_AddrBack_ent n) fun xs y h => ans_of_fn tys_ok (w4_AddrTexts_es_ok n) mixed (hint := w4_AddrBack_hint n) (n := n) (fn := Tryd.f5) w4_AddrBack_at (runsC (w4_AddrBack_runs n)) (run_ret (φ := (fun y => some (Out.ret (encR (.one .bool) y)))) ((w4_AddrBack_E n xs.1).trans (w4_AddrBack_N (R := Bool) (S := Out) n xs.1 some (fun y => some (Out.ret (encR (.one .bool) y))))) h)
def w4_AddrBack_es (n : Nat) : List Entry := w4_AddrBack_en n :: w4_AddrTexts_es n
theorem w4_AddrBack_es_ok (n : Nat) : AllOk Tryd.prog gl (w4_AddrBack_es n) := .cons (w4_AddrBack_ok n) (w4_AddrTexts_es_ok n)
end
end Go.Proofs.YtpgboapflbpieaaDoor.AM
