/- Typed functions that tell what the Go functions of this seat answer, and proofs of it, by program (gen.py). -/
import Derived.Test.YtbmcabjgeegjkaaGreatDoorXF1
set_option linter.all false
set_option maxRecDepth 1000000
set_option maxHeartbeats 0
namespace Go.Proofs.YtbmcabjgeegjkaaGreatDoor.AM
open Go Go.RowKit
noncomputable section
/- pouch/pouchref4.ParseVerb -/
def r4_ParseVerb_J0_B (n : Nat) {R : Type} (s2 : BA) (kind1 : Int) (k01 : Int) (t26 : Int) (t27 : BA) (t28 : Bool) (t29 : BA) (t210 : BA) (t211 : Int) (ko : (BA × Int × Int × Int × BA × Bool × BA × BA × Int) → Option R) (kr : Unit → Option R) (kp : Int → Option R) : Option R :=
 (r4_name n k01).bind fun v =>
 (r4_begins n s2 v).bind fun v1 =>
 if v1 = true then
  ko (s2, k01, k01, t26, t27, t28, t29, t210, t211)
 else
  ko (s2, kind1, k01, t26, t27, t28, t29, t210, t211)
theorem r4_ParseVerb_J0_B_N (n : Nat) {R S : Type} (s2 : BA) (kind1 : Int) (k01 : Int) (t26 : Int) (t27 : BA) (t28 : Bool) (t29 : BA) (t210 : BA) (t211 : Int) (ko : (BA × Int × Int × Int × BA × Bool × BA × BA × Int) → Option R) (kr : Unit → Option R) (kp : Int → Option R) (φ : R → Option S) : r4_ParseVerb_J0_B n s2 kind1 k01 t26 t27 t28 t29 t210 t211 (fun a => (ko a).bind φ) (fun a => (kr a).bind φ) (fun a => (kp a).bind φ) = (r4_ParseVerb_J0_B n s2 kind1 k01 t26 t27 t28 t29 t210 t211 ko kr kp).bind φ := by
  unfold r4_ParseVerb_J0_B
  first | (simp only [dup_self, both_self, iB, bB, oL, oX, nB]) | rfl
def r4_ParseVerb_J0 (n : Nat) (s2 : BA) (kind1 : Int) (k01 : Int) (t26 : Int) (t27 : BA) (t28 : Bool) (t29 : BA) (t210 : BA) (t211 : Int) : Option (Lx (BA × Int × Int × Int × BA × Bool × BA × BA × Int) Unit) := r4_ParseVerb_J0_B n s2 kind1 k01 t26 t27 t28 t29 t210 t211 (fun a => some (.out a)) (fun a => some (.ret a)) (fun p => some (.pan p))
def r4_ParseVerb_J0_sp : List Sl := .dat .str :: .top :: .ptr 0 0 0 :: .top :: .dat (.int .i64) :: .dat (.int .i64) :: tp 124 []
def r4_ParseVerb_J0_rp : List RS := [.box 27 6 true [.dat (.int .i64), .dat .str, .dat .bool, .dat .str, .dat .str, .dat (.int .i64)]]
def r4_ParseVerb_J0_out_sp : List Sl := .dat .str :: .top :: .ptr 0 0 0 :: .top :: .dat (.int .i64) :: .dat (.int .i64) :: tp 124 []
def r4_ParseVerb_J0_out_rp : List RS := [.box 27 6 true [.dat (.int .i64), .dat .str, .dat .bool, .dat .str, .dat .str, .dat (.int .i64)]]
def r4_ParseVerb_J0_K (K : XE → List AV → AHeap → Option Out) : Lx (BA × Int × Int × Int × BA × Bool × BA × BA × Int) Unit → Option Out := fun x => onL x (fun a => layK r4_ParseVerb_J0_out_sp r4_ParseVerb_J0_out_rp (a.1, (a.2.1, (a.2.2.1, ()))) ((a.2.2.2.1, (a.2.2.2.2.1, (a.2.2.2.2.2.1, (a.2.2.2.2.2.2.1, (a.2.2.2.2.2.2.2.1, (a.2.2.2.2.2.2.2.2, ())))))), ()) (K .normal)) (fun _ => none) (fun _ => none)
def r4_ParseVerb_B0 (n : Nat) {R : Type} (s1 : BA) (kind : Int) (k0 : Int) (t2 : Int) (t21 : BA) (t22 : Bool) (t23 : BA) (t24 : BA) (t25 : Int) (kn : BA → Int → Int → Int → BA → Bool → BA → BA → Int → Option R) (ko : (BA × Int × Int × BA × Bool × BA × BA × Int) → Option R) (kr : Unit → Option R) (kp : Int → Option R) : Option R :=
 if (decide (k0 ≤ (9 : Int))) = true then
  (r4_ParseVerb_J0 n s1 kind k0 t2 t21 t22 t23 t24 t25).bind fun x_1 => onL x_1
   (fun a_2 =>
    kn a_2.1 a_2.2.1 (IntKind.wrap .i64 (a_2.2.2.1 + (1 : Int))) a_2.2.2.2.1 a_2.2.2.2.2.1 a_2.2.2.2.2.2.1 a_2.2.2.2.2.2.2.1 a_2.2.2.2.2.2.2.2.1 a_2.2.2.2.2.2.2.2.2)
   (fun _ => none)
   (fun _ => none)
 else
  ko (s1, kind, t2, t21, t22, t23, t24, t25)
theorem r4_ParseVerb_B0_N (n : Nat) {R S : Type} (s1 : BA) (kind : Int) (k0 : Int) (t2 : Int) (t21 : BA) (t22 : Bool) (t23 : BA) (t24 : BA) (t25 : Int) (kn : BA → Int → Int → Int → BA → Bool → BA → BA → Int → Option R) (ko : (BA × Int × Int × BA × Bool × BA × BA × Int) → Option R) (kr : Unit → Option R) (kp : Int → Option R) (φ : R → Option S) : r4_ParseVerb_B0 n s1 kind k0 t2 t21 t22 t23 t24 t25 (fun s1 kind k0 t2 t21 t22 t23 t24 t25 => (kn s1 kind k0 t2 t21 t22 t23 t24 t25).bind φ) (fun a => (ko a).bind φ) (fun a => (kr a).bind φ) (fun a => (kp a).bind φ) = (r4_ParseVerb_B0 n s1 kind k0 t2 t21 t22 t23 t24 t25 kn ko kr kp).bind φ := by
  unfold r4_ParseVerb_B0
  first | (simp only [dup_self, both_self, iB, bB, oL, oX, nB]) | rfl
def r4_ParseVerb_L0 (n : Nat) : Nat → BA → Int → Int → Int → BA → Bool → BA → BA → Int → Option (Lx (BA × Int × Int × BA × Bool × BA × BA × Int) Unit)
  | 0, _, _, _, _, _, _, _, _, _ => none
  | m + 1, s1, kind, k0, t2, t21, t22, t23, t24, t25 => r4_ParseVerb_B0 n s1 kind k0 t2 t21 t22 t23 t24 t25 (fun s1 kind k0 t2 t21 t22 t23 t24 t25 => r4_ParseVerb_L0 n m s1 kind k0 t2 t21 t22 t23 t24 t25) (fun a => some (.out a)) (fun a => some (.ret a)) (fun p => some (.pan p))
def r4_ParseVerb_L0_sp : List Sl := .dat .str :: .top :: .ptr 0 0 0 :: .top :: .dat (.int .i64) :: .dat (.int .i64) :: tp 124 []
def r4_ParseVerb_L0_rp : List RS := [.box 27 6 true [.dat (.int .i64), .dat .str, .dat .bool, .dat .str, .dat .str, .dat (.int .i64)]]
def r4_ParseVerb_L0_out_sp : List Sl := .dat .str :: .top :: .ptr 0 0 0 :: .top :: .dat (.int .i64) :: tp 125 []
def r4_ParseVerb_L0_out_rp : List RS := [.box 27 6 true [.dat (.int .i64), .dat .str, .dat .bool, .dat .str, .dat .str, .dat (.int .i64)]]
def r4_ParseVerb_L0_K (K : XE → List AV → AHeap → Option Out) : Lx (BA × Int × Int × BA × Bool × BA × BA × Int) Unit → Option Out := fun x => onL x (fun a => layK r4_ParseVerb_L0_out_sp r4_ParseVerb_L0_out_rp (a.1, (a.2.1, ())) ((a.2.2.1, (a.2.2.2.1, (a.2.2.2.2.1, (a.2.2.2.2.2.1, (a.2.2.2.2.2.2.1, (a.2.2.2.2.2.2.2, ())))))), ()) (K (.exit 0))) (fun _ => none) (fun _ => none)
def r4_ParseVerb_J1_B (n : Nat) {R : Type} (s5 : BA) (kind4 : Int) (t224 : Int) (t225 : BA) (t226 : Bool) (t227 : BA) (t228 : BA) (t229 : Int) (ko : (BA × Int × Int × BA × Bool × BA × BA × Int) → Option R) (kr : (Int × Int × BA × Bool × BA × BA × Int) → Option R) (kp : Int → Option R) : Option R :=
 if (kind4 == (0 : Int)) = false then
  if (decide ((s5.size : Int) > (4 : Int))) = true then
   if 0 ≤ (4 : Int) ∧ (4 : Int) < (s5.size : Int) then
    if ((bt s5 (4 : Int)) != (32 : Int)) = true then
     kr ((3 : Int), (0 : Int), (⟨#[]⟩ : BA), false, (⟨#[]⟩ : BA), (⟨#[]⟩ : BA), (0 : Int))
    else
     ko (s5, kind4, t224, t225, t226, t227, t228, t229)
   else
    none
  else
   ko (s5, kind4, t224, t225, t226, t227, t228, t229)
 else
  kr ((3 : Int), (0 : Int), (⟨#[]⟩ : BA), false, (⟨#[]⟩ : BA), (⟨#[]⟩ : BA), (0 : Int))
theorem r4_ParseVerb_J1_B_N (n : Nat) {R S : Type} (s5 : BA) (kind4 : Int) (t224 : Int) (t225 : BA) (t226 : Bool) (t227 : BA) (t228 : BA) (t229 : Int) (ko : (BA × Int × Int × BA × Bool × BA × BA × Int) → Option R) (kr : (Int × Int × BA × Bool × BA × BA × Int) → Option R) (kp : Int → Option R) (φ : R → Option S) : r4_ParseVerb_J1_B n s5 kind4 t224 t225 t226 t227 t228 t229 (fun a => (ko a).bind φ) (fun a => (kr a).bind φ) (fun a => (kp a).bind φ) = (r4_ParseVerb_J1_B n s5 kind4 t224 t225 t226 t227 t228 t229 ko kr kp).bind φ := by
  unfold r4_ParseVerb_J1_B
  first | (simp only [dup_self, both_self, iB, bB, oL, oX, nB]) | rfl
def r4_ParseVerb_J1 (n : Nat) (s5 : BA) (kind4 : Int) (t224 : Int) (t225 : BA) (t226 : Bool) (t227 : BA) (t228 : BA) (t229 : Int) : Option (Lx (BA × Int × Int × BA × Bool × BA × BA × Int) (Int × Int × BA × Bool × BA × BA × Int)) := r4_ParseVerb_J1_B n s5 kind4 t224 t225 t226 t227 t228 t229 (fun a => some (.out a)) (fun a => some (.ret a)) (fun p => some (.pan p))
def r4_ParseVerb_J1_sp : List Sl := .dat .str :: .top :: .ptr 0 0 0 :: .top :: .dat (.int .i64) :: tp 125 []
def r4_ParseVerb_J1_rp : List RS := [.box 27 6 true [.dat (.int .i64), .dat .str, .dat .bool, .dat .str, .dat .str, .dat (.int .i64)]]
def r4_ParseVerb_J1_out_sp : List Sl := .dat .str :: .top :: .ptr 0 0 0 :: .top :: .dat (.int .i64) :: tp 125 []
def r4_ParseVerb_J1_out_rp : List RS := [.box 27 6 true [.dat (.int .i64), .dat .str, .dat .bool, .dat .str, .dat .str, .dat (.int .i64)]]
def r4_ParseVerb_J1_ret_sp : List Sl := .top :: .top :: .ptr 0 0 0 :: .dat (.int .i64) :: tp 126 []
def r4_ParseVerb_J1_ret_rp : List RS := [.box 27 6 true [.dat (.int .i64), .dat .str, .dat .bool, .dat .str, .dat .str, .dat (.int .i64)]]
def r4_ParseVerb_J1_K (K : XE → List AV → AHeap → Option Out) : Lx (BA × Int × Int × BA × Bool × BA × BA × Int) (Int × Int × BA × Bool × BA × BA × Int) → Option Out := fun x => onL x (fun a => layK r4_ParseVerb_J1_out_sp r4_ParseVerb_J1_out_rp (a.1, (a.2.1, ())) ((a.2.2.1, (a.2.2.2.1, (a.2.2.2.2.1, (a.2.2.2.2.2.1, (a.2.2.2.2.2.2.1, (a.2.2.2.2.2.2.2, ())))))), ()) (K .normal)) (fun a => layK r4_ParseVerb_J1_ret_sp r4_ParseVerb_J1_ret_rp (a.1, ()) ((a.2.1, (a.2.2.1, (a.2.2.2.1, (a.2.2.2.2.1, (a.2.2.2.2.2.1, (a.2.2.2.2.2.2, ())))))), ()) (K .ret)) (fun _ => none)
def r4_ParseVerb_J3_B (n : Nat) {R : Type} (kind7 : Int) (rest1 : BA) (lead : BA) (t242 : Int) (t243 : BA) (t244 : Bool) (t245 : BA) (t246 : BA) (t247 : Int) (v10 : Int) (v11 : BA) (v12 : Bool) (v13 : BA) (v14 : BA) (v15 : Int) (ko : (Int × BA × BA × Int × BA × Bool × BA × BA × Int × Int × BA × Bool × BA × BA × Int) → Option R) (kr : Unit → Option R) (kp : Int → Option R) : Option R :=
 if (kind7 == (4 : Int)) = true then
  ko (kind7, rest1, (⟨#[32, 84, 79, 58]⟩ : BA), t242, t243, t244, t245, t246, t247, v10, v11, v12, v13, v14, v15)
 else
  ko (kind7, rest1, lead, t242, t243, t244, t245, t246, t247, v10, v11, v12, v13, v14, v15)
theorem r4_ParseVerb_J3_B_N (n : Nat) {R S : Type} (kind7 : Int) (rest1 : BA) (lead : BA) (t242 : Int) (t243 : BA) (t244 : Bool) (t245 : BA) (t246 : BA) (t247 : Int) (v10 : Int) (v11 : BA) (v12 : Bool) (v13 : BA) (v14 : BA) (v15 : Int) (ko : (Int × BA × BA × Int × BA × Bool × BA × BA × Int × Int × BA × Bool × BA × BA × Int) → Option R) (kr : Unit → Option R) (kp : Int → Option R) (φ : R → Option S) : r4_ParseVerb_J3_B n kind7 rest1 lead t242 t243 t244 t245 t246 t247 v10 v11 v12 v13 v14 v15 (fun a => (ko a).bind φ) (fun a => (kr a).bind φ) (fun a => (kp a).bind φ) = (r4_ParseVerb_J3_B n kind7 rest1 lead t242 t243 t244 t245 t246 t247 v10 v11 v12 v13 v14 v15 ko kr kp).bind φ := by
  unfold r4_ParseVerb_J3_B
  first | (simp only [dup_self, both_self, iB, bB, oL, oX, nB]) | rfl
def r4_ParseVerb_J3 (n : Nat) (kind7 : Int) (rest1 : BA) (lead : BA) (t242 : Int) (t243 : BA) (t244 : Bool) (t245 : BA) (t246 : BA) (t247 : Int) (v10 : Int) (v11 : BA) (v12 : Bool) (v13 : BA) (v14 : BA) (v15 : Int) : Option (Lx (Int × BA × BA × Int × BA × Bool × BA × BA × Int × Int × BA × Bool × BA × BA × Int) Unit) := r4_ParseVerb_J3_B n kind7 rest1 lead t242 t243 t244 t245 t246 t247 v10 v11 v12 v13 v14 v15 (fun a => some (.out a)) (fun a => some (.ret a)) (fun p => some (.pan p))
def r4_ParseVerb_J3_sp : List Sl := .top :: .top :: .ptr 0 0 0 :: .top :: .dat (.int .i64) :: .top :: .ptr 1 0 0 :: .dat .str :: .top :: .dat .str :: tp 120 []
def r4_ParseVerb_J3_rp : List RS := [.box 27 6 true [.dat (.int .i64), .dat .str, .dat .bool, .dat .str, .dat .str, .dat (.int .i64)], .box 27 6 true [.dat (.int .i64), .dat .str, .dat .bool, .dat .str, .dat .str, .dat (.int .i64)]]
def r4_ParseVerb_J3_out_sp : List Sl := .top :: .top :: .ptr 0 0 0 :: .top :: .dat (.int .i64) :: .top :: .ptr 1 0 0 :: .dat .str :: .top :: .dat .str :: tp 120 []
def r4_ParseVerb_J3_out_rp : List RS := [.box 27 6 true [.dat (.int .i64), .dat .str, .dat .bool, .dat .str, .dat .str, .dat (.int .i64)], .box 27 6 true [.dat (.int .i64), .dat .str, .dat .bool, .dat .str, .dat .str, .dat (.int .i64)]]
def r4_ParseVerb_J3_K (K : XE → List AV → AHeap → Option Out) : Lx (Int × BA × BA × Int × BA × Bool × BA × BA × Int × Int × BA × Bool × BA × BA × Int) Unit → Option Out := fun x => onL x (fun a => layK r4_ParseVerb_J3_out_sp r4_ParseVerb_J3_out_rp (a.1, (a.2.1, (a.2.2.1, ()))) ((a.2.2.2.1, (a.2.2.2.2.1, (a.2.2.2.2.2.1, (a.2.2.2.2.2.2.1, (a.2.2.2.2.2.2.2.1, (a.2.2.2.2.2.2.2.2.1, ())))))), ((a.2.2.2.2.2.2.2.2.2.1, (a.2.2.2.2.2.2.2.2.2.2.1, (a.2.2.2.2.2.2.2.2.2.2.2.1, (a.2.2.2.2.2.2.2.2.2.2.2.2.1, (a.2.2.2.2.2.2.2.2.2.2.2.2.2.1, (a.2.2.2.2.2.2.2.2.2.2.2.2.2.2, ())))))), ())) (K .normal)) (fun _ => none) (fun _ => none)
def r4_ParseVerb_J4_B (n : Nat) {R : Type} (kind9 : Int) (rest3 : BA) (lead2 : BA) (t254 : Int) (t255 : BA) (t256 : Bool) (t257 : BA) (t258 : BA) (t259 : Int) (v22 : Int) (v23 : BA) (v24 : Bool) (v25 : BA) (v26 : BA) (v27 : Int) (ko : (Int × BA × BA × Int × BA × Bool × BA × BA × Int × Int × BA × Bool × BA × BA × Int) → Option R) (kr : (Int × Int × BA × Bool × BA × BA × Int) → Option R) (kp : Int → Option R) : Option R :=
 (r4_begins n rest3 lead2).bind fun v28 =>
 if (!v28) = true then
  kr ((8 : Int), (0 : Int), (⟨#[]⟩ : BA), false, (⟨#[]⟩ : BA), (⟨#[]⟩ : BA), (0 : Int))
 else
  ko (kind9, rest3, lead2, t254, t255, t256, t257, t258, t259, v22, v23, v24, v25, v26, v27)
theorem r4_ParseVerb_J4_B_N (n : Nat) {R S : Type} (kind9 : Int) (rest3 : BA) (lead2 : BA) (t254 : Int) (t255 : BA) (t256 : Bool) (t257 : BA) (t258 : BA) (t259 : Int) (v22 : Int) (v23 : BA) (v24 : Bool) (v25 : BA) (v26 : BA) (v27 : Int) (ko : (Int × BA × BA × Int × BA × Bool × BA × BA × Int × Int × BA × Bool × BA × BA × Int) → Option R) (kr : (Int × Int × BA × Bool × BA × BA × Int) → Option R) (kp : Int → Option R) (φ : R → Option S) : r4_ParseVerb_J4_B n kind9 rest3 lead2 t254 t255 t256 t257 t258 t259 v22 v23 v24 v25 v26 v27 (fun a => (ko a).bind φ) (fun a => (kr a).bind φ) (fun a => (kp a).bind φ) = (r4_ParseVerb_J4_B n kind9 rest3 lead2 t254 t255 t256 t257 t258 t259 v22 v23 v24 v25 v26 v27 ko kr kp).bind φ := by
  unfold r4_ParseVerb_J4_B
  first | (simp only [dup_self, both_self, iB, bB, oL, oX, nB]) | rfl
def r4_ParseVerb_J4 (n : Nat) (kind9 : Int) (rest3 : BA) (lead2 : BA) (t254 : Int) (t255 : BA) (t256 : Bool) (t257 : BA) (t258 : BA) (t259 : Int) (v22 : Int) (v23 : BA) (v24 : Bool) (v25 : BA) (v26 : BA) (v27 : Int) : Option (Lx (Int × BA × BA × Int × BA × Bool × BA × BA × Int × Int × BA × Bool × BA × BA × Int) (Int × Int × BA × Bool × BA × BA × Int)) := r4_ParseVerb_J4_B n kind9 rest3 lead2 t254 t255 t256 t257 t258 t259 v22 v23 v24 v25 v26 v27 (fun a => some (.out a)) (fun a => some (.ret a)) (fun p => some (.pan p))
def r4_ParseVerb_J4_sp : List Sl := .top :: .top :: .ptr 0 0 0 :: .top :: .dat (.int .i64) :: .top :: .ptr 1 0 0 :: .dat .str :: .top :: .dat .str :: tp 120 []
def r4_ParseVerb_J4_rp : List RS := [.box 27 6 true [.dat (.int .i64), .dat .str, .dat .bool, .dat .str, .dat .str, .dat (.int .i64)], .box 27 6 true [.dat (.int .i64), .dat .str, .dat .bool, .dat .str, .dat .str, .dat (.int .i64)]]
def r4_ParseVerb_J4_out_sp : List Sl := .top :: .top :: .ptr 0 0 0 :: .top :: .dat (.int .i64) :: .top :: .ptr 1 0 0 :: .dat .str :: .top :: .dat .str :: tp 120 []
def r4_ParseVerb_J4_out_rp : List RS := [.box 27 6 true [.dat (.int .i64), .dat .str, .dat .bool, .dat .str, .dat .str, .dat (.int .i64)], .box 27 6 true [.dat (.int .i64), .dat .str, .dat .bool, .dat .str, .dat .str, .dat (.int .i64)]]
def r4_ParseVerb_J4_ret_sp : List Sl := .top :: .top :: .ptr 0 0 0 :: .dat (.int .i64) :: tp 126 []
def r4_ParseVerb_J4_ret_rp : List RS := [.box 27 6 true [.dat (.int .i64), .dat .str, .dat .bool, .dat .str, .dat .str, .dat (.int .i64)]]
def r4_ParseVerb_J4_K (K : XE → List AV → AHeap → Option Out) : Lx (Int × BA × BA × Int × BA × Bool × BA × BA × Int × Int × BA × Bool × BA × BA × Int) (Int × Int × BA × Bool × BA × BA × Int) → Option Out := fun x => onL x (fun a => layK r4_ParseVerb_J4_out_sp r4_ParseVerb_J4_out_rp (a.1, (a.2.1, (a.2.2.1, ()))) ((a.2.2.2.1, (a.2.2.2.2.1, (a.2.2.2.2.2.1, (a.2.2.2.2.2.2.1, (a.2.2.2.2.2.2.2.1, (a.2.2.2.2.2.2.2.2.1, ())))))), ((a.2.2.2.2.2.2.2.2.2.1, (a.2.2.2.2.2.2.2.2.2.2.1, (a.2.2.2.2.2.2.2.2.2.2.2.1, (a.2.2.2.2.2.2.2.2.2.2.2.2.1, (a.2.2.2.2.2.2.2.2.2.2.2.2.2.1, (a.2.2.2.2.2.2.2.2.2.2.2.2.2.2, ())))))), ())) (K .normal)) (fun a => layK r4_ParseVerb_J4_ret_sp r4_ParseVerb_J4_ret_rp (a.1, ()) ((a.2.1, (a.2.2.1, (a.2.2.2.1, (a.2.2.2.2.1, (a.2.2.2.2.2.1, (a.2.2.2.2.2.2, ())))))), ()) (K .ret)) (fun _ => none)
def r4_ParseVerb_J5_B (n : Nat) {R : Type} (kind11 : Int) (rest5 : BA) (t266 : Int) (t267 : BA) (t268 : Bool) (t269 : BA) (t270 : BA) (t271 : Int) (v35 : Int) (v36 : BA) (v37 : Bool) (v38 : BA) (v39 : BA) (v40 : Int) (ko : (Int × BA × Int × BA × Bool × BA × BA × Int × Int × BA × Bool × BA × BA × Int) → Option R) (kr : Unit → Option R) (kp : Int → Option R) : Option R :=
 if (!(rest5.toList == (⟨#[]⟩ : BA).toList)) = true then
  if 0 ≤ (0 : Int) ∧ (0 : Int) < (rest5.size : Int) then
   if ((bt rest5 (0 : Int)) == (32 : Int)) = true then
    if 0 ≤ (1 : Int) ∧ (1 : Int) ≤ (rest5.size : Int) then
     ko (kind11, (rest5.extract (Int.toNat (1 : Int)) (Int.toNat (rest5.size : Int))), t266, t267, t268, t269, t270, t271, v35, v36, v37, v38, v39, v40)
    else
     none
   else
    ko (kind11, rest5, t266, t267, t268, t269, t270, t271, v35, v36, v37, v38, v39, v40)
  else
   none
 else
  ko (kind11, rest5, t266, t267, t268, t269, t270, t271, v35, v36, v37, v38, v39, v40)
theorem r4_ParseVerb_J5_B_N (n : Nat) {R S : Type} (kind11 : Int) (rest5 : BA) (t266 : Int) (t267 : BA) (t268 : Bool) (t269 : BA) (t270 : BA) (t271 : Int) (v35 : Int) (v36 : BA) (v37 : Bool) (v38 : BA) (v39 : BA) (v40 : Int) (ko : (Int × BA × Int × BA × Bool × BA × BA × Int × Int × BA × Bool × BA × BA × Int) → Option R) (kr : Unit → Option R) (kp : Int → Option R) (φ : R → Option S) : r4_ParseVerb_J5_B n kind11 rest5 t266 t267 t268 t269 t270 t271 v35 v36 v37 v38 v39 v40 (fun a => (ko a).bind φ) (fun a => (kr a).bind φ) (fun a => (kp a).bind φ) = (r4_ParseVerb_J5_B n kind11 rest5 t266 t267 t268 t269 t270 t271 v35 v36 v37 v38 v39 v40 ko kr kp).bind φ := by
  unfold r4_ParseVerb_J5_B
  first | (simp only [dup_self, both_self, iB, bB, oL, oX, nB]) | rfl
def r4_ParseVerb_J5 (n : Nat) (kind11 : Int) (rest5 : BA) (t266 : Int) (t267 : BA) (t268 : Bool) (t269 : BA) (t270 : BA) (t271 : Int) (v35 : Int) (v36 : BA) (v37 : Bool) (v38 : BA) (v39 : BA) (v40 : Int) : Option (Lx (Int × BA × Int × BA × Bool × BA × BA × Int × Int × BA × Bool × BA × BA × Int) Unit) := r4_ParseVerb_J5_B n kind11 rest5 t266 t267 t268 t269 t270 t271 v35 v36 v37 v38 v39 v40 (fun a => some (.out a)) (fun a => some (.ret a)) (fun p => some (.pan p))
def r4_ParseVerb_J5_sp : List Sl := .top :: .top :: .ptr 0 0 0 :: .top :: .dat (.int .i64) :: .top :: .ptr 1 0 0 :: .dat .str :: tp 122 []
def r4_ParseVerb_J5_rp : List RS := [.box 27 6 true [.dat (.int .i64), .dat .str, .dat .bool, .dat .str, .dat .str, .dat (.int .i64)], .box 27 6 true [.dat (.int .i64), .dat .str, .dat .bool, .dat .str, .dat .str, .dat (.int .i64)]]
def r4_ParseVerb_J5_out_sp : List Sl := .top :: .top :: .ptr 0 0 0 :: .top :: .dat (.int .i64) :: .top :: .ptr 1 0 0 :: .dat .str :: tp 122 []
def r4_ParseVerb_J5_out_rp : List RS := [.box 27 6 true [.dat (.int .i64), .dat .str, .dat .bool, .dat .str, .dat .str, .dat (.int .i64)], .box 27 6 true [.dat (.int .i64), .dat .str, .dat .bool, .dat .str, .dat .str, .dat (.int .i64)]]
def r4_ParseVerb_J5_K (K : XE → List AV → AHeap → Option Out) : Lx (Int × BA × Int × BA × Bool × BA × BA × Int × Int × BA × Bool × BA × BA × Int) Unit → Option Out := fun x => onL x (fun a => layK r4_ParseVerb_J5_out_sp r4_ParseVerb_J5_out_rp (a.1, (a.2.1, ())) ((a.2.2.1, (a.2.2.2.1, (a.2.2.2.2.1, (a.2.2.2.2.2.1, (a.2.2.2.2.2.2.1, (a.2.2.2.2.2.2.2.1, ())))))), ((a.2.2.2.2.2.2.2.2.1, (a.2.2.2.2.2.2.2.2.2.1, (a.2.2.2.2.2.2.2.2.2.2.1, (a.2.2.2.2.2.2.2.2.2.2.2.1, (a.2.2.2.2.2.2.2.2.2.2.2.2.1, (a.2.2.2.2.2.2.2.2.2.2.2.2.2, ())))))), ())) (K .normal)) (fun _ => none) (fun _ => none)
def r4_ParseVerb_J6_B (n : Nat) {R : Type} (kind13 : Int) (rest7 : BA) (n0 : Int) (t278 : Int) (t279 : BA) (t280 : Bool) (t281 : BA) (t282 : BA) (t283 : Int) (v47 : Int) (v48 : BA) (v49 : Bool) (v50 : BA) (v51 : BA) (v52 : Int) (ko : (BA × Int × Int × BA × Bool × BA × BA × Int × Int × BA × Bool × BA × BA × Int) → Option R) (kr : Unit → Option R) (kp : Int → Option R) : Option R :=
 if (kind13 == (3 : Int)) = true then
  (r4_pathEnd n rest7).bind fun v53 =>
  ko (rest7, v53, t278, t279, t280, t281, t282, t283, v47, v48, v49, v50, v51, (-1 : Int))
 else
  ko (rest7, n0, t278, t279, t280, t281, t282, t283, v47, v48, v49, v50, v51, v52)
theorem r4_ParseVerb_J6_B_N (n : Nat) {R S : Type} (kind13 : Int) (rest7 : BA) (n0 : Int) (t278 : Int) (t279 : BA) (t280 : Bool) (t281 : BA) (t282 : BA) (t283 : Int) (v47 : Int) (v48 : BA) (v49 : Bool) (v50 : BA) (v51 : BA) (v52 : Int) (ko : (BA × Int × Int × BA × Bool × BA × BA × Int × Int × BA × Bool × BA × BA × Int) → Option R) (kr : Unit → Option R) (kp : Int → Option R) (φ : R → Option S) : r4_ParseVerb_J6_B n kind13 rest7 n0 t278 t279 t280 t281 t282 t283 v47 v48 v49 v50 v51 v52 (fun a => (ko a).bind φ) (fun a => (kr a).bind φ) (fun a => (kp a).bind φ) = (r4_ParseVerb_J6_B n kind13 rest7 n0 t278 t279 t280 t281 t282 t283 v47 v48 v49 v50 v51 v52 ko kr kp).bind φ := by
  unfold r4_ParseVerb_J6_B
  first | (simp only [dup_self, both_self, iB, bB, oL, oX, nB]) | rfl
def r4_ParseVerb_J6 (n : Nat) (kind13 : Int) (rest7 : BA) (n0 : Int) (t278 : Int) (t279 : BA) (t280 : Bool) (t281 : BA) (t282 : BA) (t283 : Int) (v47 : Int) (v48 : BA) (v49 : Bool) (v50 : BA) (v51 : BA) (v52 : Int) : Option (Lx (BA × Int × Int × BA × Bool × BA × BA × Int × Int × BA × Bool × BA × BA × Int) Unit) := r4_ParseVerb_J6_B n kind13 rest7 n0 t278 t279 t280 t281 t282 t283 v47 v48 v49 v50 v51 v52 (fun a => some (.out a)) (fun a => some (.ret a)) (fun p => some (.pan p))
def r4_ParseVerb_J6_sp : List Sl := .top :: .top :: .ptr 0 0 0 :: .top :: .dat (.int .i64) :: .top :: .ptr 1 0 0 :: .dat .str :: .top :: .top :: .dat (.int .i64) :: tp 119 []
def r4_ParseVerb_J6_rp : List RS := [.box 27 6 true [.dat (.int .i64), .dat .str, .dat .bool, .dat .str, .dat .str, .dat (.int .i64)], .box 27 6 true [.dat (.int .i64), .dat .str, .dat .bool, .dat .str, .dat .str, .dat (.int .i64)]]
def r4_ParseVerb_J6_out_sp : List Sl := .top :: .top :: .ptr 0 0 0 :: .top :: .top :: .top :: .ptr 1 0 0 :: .dat .str :: .top :: .top :: .dat (.int .i64) :: tp 119 []
def r4_ParseVerb_J6_out_rp : List RS := [.box 27 6 true [.dat (.int .i64), .dat .str, .dat .bool, .dat .str, .dat .str, .dat (.int .i64)], .box 27 6 true [.dat (.int .i64), .dat .str, .dat .bool, .dat .str, .dat .str, .dat (.int .i64)]]
def r4_ParseVerb_J6_K (K : XE → List AV → AHeap → Option Out) : Lx (BA × Int × Int × BA × Bool × BA × BA × Int × Int × BA × Bool × BA × BA × Int) Unit → Option Out := fun x => onL x (fun a => layK r4_ParseVerb_J6_out_sp r4_ParseVerb_J6_out_rp (a.1, (a.2.1, ())) ((a.2.2.1, (a.2.2.2.1, (a.2.2.2.2.1, (a.2.2.2.2.2.1, (a.2.2.2.2.2.2.1, (a.2.2.2.2.2.2.2.1, ())))))), ((a.2.2.2.2.2.2.2.2.1, (a.2.2.2.2.2.2.2.2.2.1, (a.2.2.2.2.2.2.2.2.2.2.1, (a.2.2.2.2.2.2.2.2.2.2.2.1, (a.2.2.2.2.2.2.2.2.2.2.2.2.1, (a.2.2.2.2.2.2.2.2.2.2.2.2.2, ())))))), ())) (K .normal)) (fun _ => none) (fun _ => none)
def r4_ParseVerb_J2_B (n : Nat) {R : Type} (kind6 : Int) (rest : BA) (t236 : Int) (t237 : BA) (t238 : Bool) (t239 : BA) (t240 : BA) (t241 : Int) (v2 : Int) (v3 : BA) (v4 : Bool) (v5 : BA) (v6 : BA) (v7 : Int) (ko : (Bool × Int × BA × Bool × BA × BA × Int × Int × BA × Bool × BA × BA × Int) → Option R) (kr : (Int × Int × BA × Bool × BA × BA × Int) → Option R) (kp : Int → Option R) : Option R :=
 if (kind6 == (1 : Int)) = true then
  if (!(rest.toList == (⟨#[]⟩ : BA).toList)) = true then
   if 0 ≤ (1 : Int) ∧ (1 : Int) ≤ (rest.size : Int) then
    (r0_Lower n (rest.extract (Int.toNat (1 : Int)) (Int.toNat (rest.size : Int)))).bind fun v8 =>
    ko ((!(rest.toList == (⟨#[]⟩ : BA).toList)), t236, t237, t238, t239, t240, t241, v2, v8, v4, v5, v6, v7)
   else
    none
  else
   ko ((!(rest.toList == (⟨#[]⟩ : BA).toList)), t236, t237, t238, t239, t240, t241, v2, v3, v4, v5, v6, v7)
 else
  if (kind6 == (2 : Int)) = true then
   if (!(rest.toList == (⟨#[]⟩ : BA).toList)) = true then
    if 0 ≤ (1 : Int) ∧ (1 : Int) ≤ (rest.size : Int) then
     (r0_Lower n (rest.extract (Int.toNat (1 : Int)) (Int.toNat (rest.size : Int)))).bind fun v9 =>
     ko ((!(rest.toList == (⟨#[]⟩ : BA).toList)), t236, t237, t238, t239, t240, t241, v2, v9, v4, v5, v6, v7)
    else
     none
   else
    ko ((!(rest.toList == (⟨#[]⟩ : BA).toList)), t236, t237, t238, t239, t240, t241, v2, v3, v4, v5, v6, v7)
  else
   if (kind6 == (7 : Int)) = true then
    if (!(rest.toList == (⟨#[]⟩ : BA).toList)) = true then
     if 0 ≤ (1 : Int) ∧ (1 : Int) ≤ (rest.size : Int) then
      ko ((!(rest.toList == (⟨#[32]⟩ : BA).toList)), t236, t237, t238, t239, t240, t241, v2, (rest.extract (Int.toNat (1 : Int)) (Int.toNat (rest.size : Int))), v4, v5, v6, v7)
     else
      none
    else
     ko ((!(rest.toList == (⟨#[32]⟩ : BA).toList)), t236, t237, t238, t239, t240, t241, v2, v3, v4, v5, v6, v7)
   else
    if (kind6 == (9 : Int)) = true then
     if (!(rest.toList == (⟨#[]⟩ : BA).toList)) = true then
      if 0 ≤ (1 : Int) ∧ (1 : Int) ≤ (rest.size : Int) then
       ko ((!(rest.toList == (⟨#[32]⟩ : BA).toList)), t236, t237, t238, t239, t240, t241, v2, (rest.extract (Int.toNat (1 : Int)) (Int.toNat (rest.size : Int))), v4, v5, v6, v7)
      else
       none
     else
      ko ((!(rest.toList == (⟨#[32]⟩ : BA).toList)), t236, t237, t238, t239, t240, t241, v2, v3, v4, v5, v6, v7)
    else
     if (kind6 == (3 : Int)) = true then
      (r4_ParseVerb_J3 n kind6 rest (⟨#[32, 70, 82, 79, 77, 58]⟩ : BA) t236 t237 t238 t239 t240 t241 v2 v3 v4 v5 v6 v7).bind fun x_1 => onL x_1
       (fun a_2 =>
        (r4_ParseVerb_J4 n a_2.1 a_2.2.1 a_2.2.2.1 a_2.2.2.2.1 a_2.2.2.2.2.1 a_2.2.2.2.2.2.1 a_2.2.2.2.2.2.2.1 a_2.2.2.2.2.2.2.2.1 a_2.2.2.2.2.2.2.2.2.1 a_2.2.2.2.2.2.2.2.2.2.1 a_2.2.2.2.2.2.2.2.2.2.2.1 a_2.2.2.2.2.2.2.2.2.2.2.2.1 a_2.2.2.2.2.2.2.2.2.2.2.2.2.1 a_2.2.2.2.2.2.2.2.2.2.2.2.2.2.1 a_2.2.2.2.2.2.2.2.2.2.2.2.2.2.2).bind fun x_3 => onL x_3
         (fun a_4 =>
          if 0 ≤ (a_4.2.2.1.size : Int) ∧ (a_4.2.2.1.size : Int) ≤ (a_4.2.1.size : Int) then
           (r4_ParseVerb_J5 n a_4.1 (a_4.2.1.extract (Int.toNat (a_4.2.2.1.size : Int)) (Int.toNat (a_4.2.1.size : Int))) a_4.2.2.2.1 a_4.2.2.2.2.1 a_4.2.2.2.2.2.1 a_4.2.2.2.2.2.2.1 a_4.2.2.2.2.2.2.2.1 a_4.2.2.2.2.2.2.2.2.1 a_4.2.2.2.2.2.2.2.2.2.1 a_4.2.2.2.2.2.2.2.2.2.2.1 a_4.2.2.2.2.2.2.2.2.2.2.2.1 a_4.2.2.2.2.2.2.2.2.2.2.2.2.1 a_4.2.2.2.2.2.2.2.2.2.2.2.2.2.1 a_4.2.2.2.2.2.2.2.2.2.2.2.2.2.2).bind fun x_5 => onL x_5
            (fun a_6 =>
             (r4_ParseVerb_J6 n a_6.1 a_6.2.1 (a_6.2.1.size : Int) a_6.2.2.1 a_6.2.2.2.1 a_6.2.2.2.2.1 a_6.2.2.2.2.2.1 a_6.2.2.2.2.2.2.1 a_6.2.2.2.2.2.2.2.1 a_6.2.2.2.2.2.2.2.2.1 a_6.2.2.2.2.2.2.2.2.2.1 a_6.2.2.2.2.2.2.2.2.2.2.1 a_6.2.2.2.2.2.2.2.2.2.2.2.1 a_6.2.2.2.2.2.2.2.2.2.2.2.2.1 a_6.2.2.2.2.2.2.2.2.2.2.2.2.2).bind fun x_7 => onL x_7
              (fun a_8 =>
               if 0 ≤ a_8.2.1 ∧ a_8.2.1 ≤ (a_8.1.size : Int) then
                (r4_Path n (a_8.1.extract (Int.toNat (0 : Int)) (Int.toNat a_8.2.1))).bind fun v60 =>
                if v60.2.2.1 = true then
                 if (decide (a_8.2.1 < (a_8.1.size : Int))) = true then
                  if 0 ≤ a_8.2.1 ∧ a_8.2.1 ≤ (a_8.1.size : Int) then
                   (r4_begins n (a_8.1.extract (Int.toNat a_8.2.1) (Int.toNat (a_8.1.size : Int))) (⟨#[32, 83, 73, 90, 69, 61]⟩ : BA)).bind fun v61 =>
                   if v61 = true then
                    if 0 ≤ (IntKind.wrap .i64 (a_8.2.1 + (6 : Int))) ∧ (IntKind.wrap .i64 (a_8.2.1 + (6 : Int))) ≤ (a_8.1.size : Int) then
                     (r4_size n (a_8.1.extract (Int.toNat (IntKind.wrap .i64 (a_8.2.1 + (6 : Int)))) (Int.toNat (a_8.1.size : Int)))).bind fun v62 =>
                     ko (v62.2.1, a_8.2.2.1, a_8.2.2.2.1, a_8.2.2.2.2.1, a_8.2.2.2.2.2.1, a_8.2.2.2.2.2.2.1, a_8.2.2.2.2.2.2.2.1, a_8.2.2.2.2.2.2.2.2.1, a_8.2.2.2.2.2.2.2.2.2.1, v60.2.1, v60.1.1, v60.1.2.1, v62.1)
                    else
                     none
                   else
                    ko (v61, a_8.2.2.1, a_8.2.2.2.1, a_8.2.2.2.2.1, a_8.2.2.2.2.2.1, a_8.2.2.2.2.2.2.1, a_8.2.2.2.2.2.2.2.1, a_8.2.2.2.2.2.2.2.2.1, a_8.2.2.2.2.2.2.2.2.2.1, v60.2.1, v60.1.1, v60.1.2.1, a_8.2.2.2.2.2.2.2.2.2.2.2.2.2)
                  else
                   none
                 else
                  ko (v60.2.2.1, a_8.2.2.1, a_8.2.2.2.1, a_8.2.2.2.2.1, a_8.2.2.2.2.2.1, a_8.2.2.2.2.2.2.1, a_8.2.2.2.2.2.2.2.1, a_8.2.2.2.2.2.2.2.2.1, a_8.2.2.2.2.2.2.2.2.2.1, v60.2.1, v60.1.1, v60.1.2.1, a_8.2.2.2.2.2.2.2.2.2.2.2.2.2)
                else
                 ko (v60.2.2.1, a_8.2.2.1, a_8.2.2.2.1, a_8.2.2.2.2.1, a_8.2.2.2.2.2.1, a_8.2.2.2.2.2.2.1, a_8.2.2.2.2.2.2.2.1, a_8.2.2.2.2.2.2.2.2.1, a_8.2.2.2.2.2.2.2.2.2.1, v60.2.1, v60.1.1, v60.1.2.1, a_8.2.2.2.2.2.2.2.2.2.2.2.2.2)
               else
                none)
              (fun _ => none)
              (fun _ => none))
            (fun _ => none)
            (fun _ => none)
          else
           none)
         (fun a_9 =>
          kr (a_9.1, a_9.2.1, a_9.2.2.1, a_9.2.2.2.1, a_9.2.2.2.2.1, a_9.2.2.2.2.2.1, a_9.2.2.2.2.2.2))
         (fun _ => none))
       (fun _ => none)
       (fun _ => none)
     else
      if (kind6 == (4 : Int)) = true then
       (r4_ParseVerb_J3 n kind6 rest (⟨#[32, 70, 82, 79, 77, 58]⟩ : BA) t236 t237 t238 t239 t240 t241 v2 v3 v4 v5 v6 v7).bind fun x_10 => onL x_10
        (fun a_11 =>
         (r4_ParseVerb_J4 n a_11.1 a_11.2.1 a_11.2.2.1 a_11.2.2.2.1 a_11.2.2.2.2.1 a_11.2.2.2.2.2.1 a_11.2.2.2.2.2.2.1 a_11.2.2.2.2.2.2.2.1 a_11.2.2.2.2.2.2.2.2.1 a_11.2.2.2.2.2.2.2.2.2.1 a_11.2.2.2.2.2.2.2.2.2.2.1 a_11.2.2.2.2.2.2.2.2.2.2.2.1 a_11.2.2.2.2.2.2.2.2.2.2.2.2.1 a_11.2.2.2.2.2.2.2.2.2.2.2.2.2.1 a_11.2.2.2.2.2.2.2.2.2.2.2.2.2.2).bind fun x_12 => onL x_12
          (fun a_13 =>
           if 0 ≤ (a_13.2.2.1.size : Int) ∧ (a_13.2.2.1.size : Int) ≤ (a_13.2.1.size : Int) then
            (r4_ParseVerb_J5 n a_13.1 (a_13.2.1.extract (Int.toNat (a_13.2.2.1.size : Int)) (Int.toNat (a_13.2.1.size : Int))) a_13.2.2.2.1 a_13.2.2.2.2.1 a_13.2.2.2.2.2.1 a_13.2.2.2.2.2.2.1 a_13.2.2.2.2.2.2.2.1 a_13.2.2.2.2.2.2.2.2.1 a_13.2.2.2.2.2.2.2.2.2.1 a_13.2.2.2.2.2.2.2.2.2.2.1 a_13.2.2.2.2.2.2.2.2.2.2.2.1 a_13.2.2.2.2.2.2.2.2.2.2.2.2.1 a_13.2.2.2.2.2.2.2.2.2.2.2.2.2.1 a_13.2.2.2.2.2.2.2.2.2.2.2.2.2.2).bind fun x_14 => onL x_14
             (fun a_15 =>
              (r4_ParseVerb_J6 n a_15.1 a_15.2.1 (a_15.2.1.size : Int) a_15.2.2.1 a_15.2.2.2.1 a_15.2.2.2.2.1 a_15.2.2.2.2.2.1 a_15.2.2.2.2.2.2.1 a_15.2.2.2.2.2.2.2.1 a_15.2.2.2.2.2.2.2.2.1 a_15.2.2.2.2.2.2.2.2.2.1 a_15.2.2.2.2.2.2.2.2.2.2.1 a_15.2.2.2.2.2.2.2.2.2.2.2.1 a_15.2.2.2.2.2.2.2.2.2.2.2.2.1 a_15.2.2.2.2.2.2.2.2.2.2.2.2.2).bind fun x_16 => onL x_16
               (fun a_17 =>
                if 0 ≤ a_17.2.1 ∧ a_17.2.1 ≤ (a_17.1.size : Int) then
                 (r4_Path n (a_17.1.extract (Int.toNat (0 : Int)) (Int.toNat a_17.2.1))).bind fun v87 =>
                 if v87.2.2.1 = true then
                  if (decide (a_17.2.1 < (a_17.1.size : Int))) = true then
                   if 0 ≤ a_17.2.1 ∧ a_17.2.1 ≤ (a_17.1.size : Int) then
                    (r4_begins n (a_17.1.extract (Int.toNat a_17.2.1) (Int.toNat (a_17.1.size : Int))) (⟨#[32, 83, 73, 90, 69, 61]⟩ : BA)).bind fun v88 =>
                    if v88 = true then
                     if 0 ≤ (IntKind.wrap .i64 (a_17.2.1 + (6 : Int))) ∧ (IntKind.wrap .i64 (a_17.2.1 + (6 : Int))) ≤ (a_17.1.size : Int) then
                      (r4_size n (a_17.1.extract (Int.toNat (IntKind.wrap .i64 (a_17.2.1 + (6 : Int)))) (Int.toNat (a_17.1.size : Int)))).bind fun v89 =>
                      ko (v89.2.1, a_17.2.2.1, a_17.2.2.2.1, a_17.2.2.2.2.1, a_17.2.2.2.2.2.1, a_17.2.2.2.2.2.2.1, a_17.2.2.2.2.2.2.2.1, a_17.2.2.2.2.2.2.2.2.1, a_17.2.2.2.2.2.2.2.2.2.1, v87.2.1, v87.1.1, v87.1.2.1, v89.1)
                     else
                      none
                    else
                     ko (v88, a_17.2.2.1, a_17.2.2.2.1, a_17.2.2.2.2.1, a_17.2.2.2.2.2.1, a_17.2.2.2.2.2.2.1, a_17.2.2.2.2.2.2.2.1, a_17.2.2.2.2.2.2.2.2.1, a_17.2.2.2.2.2.2.2.2.2.1, v87.2.1, v87.1.1, v87.1.2.1, a_17.2.2.2.2.2.2.2.2.2.2.2.2.2)
                   else
                    none
                  else
                   ko (v87.2.2.1, a_17.2.2.1, a_17.2.2.2.1, a_17.2.2.2.2.1, a_17.2.2.2.2.2.1, a_17.2.2.2.2.2.2.1, a_17.2.2.2.2.2.2.2.1, a_17.2.2.2.2.2.2.2.2.1, a_17.2.2.2.2.2.2.2.2.2.1, v87.2.1, v87.1.1, v87.1.2.1, a_17.2.2.2.2.2.2.2.2.2.2.2.2.2)
                 else
                  ko (v87.2.2.1, a_17.2.2.1, a_17.2.2.2.1, a_17.2.2.2.2.1, a_17.2.2.2.2.2.1, a_17.2.2.2.2.2.2.1, a_17.2.2.2.2.2.2.2.1, a_17.2.2.2.2.2.2.2.2.1, a_17.2.2.2.2.2.2.2.2.2.1, v87.2.1, v87.1.1, v87.1.2.1, a_17.2.2.2.2.2.2.2.2.2.2.2.2.2)
                else
                 none)
               (fun _ => none)
               (fun _ => none))
             (fun _ => none)
             (fun _ => none)
           else
            none)
          (fun a_18 =>
           kr (a_18.1, a_18.2.1, a_18.2.2.1, a_18.2.2.2.1, a_18.2.2.2.2.1, a_18.2.2.2.2.2.1, a_18.2.2.2.2.2.2))
          (fun _ => none))
        (fun _ => none)
        (fun _ => none)
      else
       ko ((rest.toList == (⟨#[]⟩ : BA).toList), t236, t237, t238, t239, t240, t241, v2, v3, v4, v5, v6, v7)
theorem r4_ParseVerb_J2_B_N (n : Nat) {R S : Type} (kind6 : Int) (rest : BA) (t236 : Int) (t237 : BA) (t238 : Bool) (t239 : BA) (t240 : BA) (t241 : Int) (v2 : Int) (v3 : BA) (v4 : Bool) (v5 : BA) (v6 : BA) (v7 : Int) (ko : (Bool × Int × BA × Bool × BA × BA × Int × Int × BA × Bool × BA × BA × Int) → Option R) (kr : (Int × Int × BA × Bool × BA × BA × Int) → Option R) (kp : Int → Option R) (φ : R → Option S) : r4_ParseVerb_J2_B n kind6 rest t236 t237 t238 t239 t240 t241 v2 v3 v4 v5 v6 v7 (fun a => (ko a).bind φ) (fun a => (kr a).bind φ) (fun a => (kp a).bind φ) = (r4_ParseVerb_J2_B n kind6 rest t236 t237 t238 t239 t240 t241 v2 v3 v4 v5 v6 v7 ko kr kp).bind φ := by
  unfold r4_ParseVerb_J2_B
  first | (simp only [dup_self, both_self, iB, bB, oL, oX, nB]) | rfl
def r4_ParseVerb_J2 (n : Nat) (kind6 : Int) (rest : BA) (t236 : Int) (t237 : BA) (t238 : Bool) (t239 : BA) (t240 : BA) (t241 : Int) (v2 : Int) (v3 : BA) (v4 : Bool) (v5 : BA) (v6 : BA) (v7 : Int) : Option (Lx (Bool × Int × BA × Bool × BA × BA × Int × Int × BA × Bool × BA × BA × Int) (Int × Int × BA × Bool × BA × BA × Int)) := r4_ParseVerb_J2_B n kind6 rest t236 t237 t238 t239 t240 t241 v2 v3 v4 v5 v6 v7 (fun a => some (.out a)) (fun a => some (.ret a)) (fun p => some (.pan p))
def r4_ParseVerb_J2_sp : List Sl := .top :: .top :: .ptr 0 0 0 :: .top :: .dat (.int .i64) :: .top :: .ptr 1 0 0 :: .dat .str :: tp 122 []
def r4_ParseVerb_J2_rp : List RS := [.box 27 6 true [.dat (.int .i64), .dat .str, .dat .bool, .dat .str, .dat .str, .dat (.int .i64)], .box 27 6 true [.dat (.int .i64), .dat .str, .dat .bool, .dat .str, .dat .str, .dat (.int .i64)]]
def r4_ParseVerb_J2_out_sp : List Sl := .top :: .top :: .ptr 0 0 0 :: .top :: .top :: .top :: .ptr 1 0 0 :: .top :: .dat .bool :: tp 121 []
def r4_ParseVerb_J2_out_rp : List RS := [.box 27 6 true [.dat (.int .i64), .dat .str, .dat .bool, .dat .str, .dat .str, .dat (.int .i64)], .box 27 6 true [.dat (.int .i64), .dat .str, .dat .bool, .dat .str, .dat .str, .dat (.int .i64)]]
def r4_ParseVerb_J2_ret_sp : List Sl := .top :: .top :: .ptr 0 0 0 :: .dat (.int .i64) :: tp 126 []
def r4_ParseVerb_J2_ret_rp : List RS := [.box 27 6 true [.dat (.int .i64), .dat .str, .dat .bool, .dat .str, .dat .str, .dat (.int .i64)]]
def r4_ParseVerb_J2_K (K : XE → List AV → AHeap → Option Out) : Lx (Bool × Int × BA × Bool × BA × BA × Int × Int × BA × Bool × BA × BA × Int) (Int × Int × BA × Bool × BA × BA × Int) → Option Out := fun x => onL x (fun a => layK r4_ParseVerb_J2_out_sp r4_ParseVerb_J2_out_rp (a.1, ()) ((a.2.1, (a.2.2.1, (a.2.2.2.1, (a.2.2.2.2.1, (a.2.2.2.2.2.1, (a.2.2.2.2.2.2.1, ())))))), ((a.2.2.2.2.2.2.2.1, (a.2.2.2.2.2.2.2.2.1, (a.2.2.2.2.2.2.2.2.2.1, (a.2.2.2.2.2.2.2.2.2.2.1, (a.2.2.2.2.2.2.2.2.2.2.2.1, (a.2.2.2.2.2.2.2.2.2.2.2.2, ())))))), ())) (K .normal)) (fun a => layK r4_ParseVerb_J2_ret_sp r4_ParseVerb_J2_ret_rp (a.1, ()) ((a.2.1, (a.2.2.1, (a.2.2.2.1, (a.2.2.2.2.1, (a.2.2.2.2.2.1, (a.2.2.2.2.2.2, ())))))), ()) (K .ret)) (fun _ => none)
def r4_ParseVerb_J7_B (n : Nat) {R : Type} (ok1 : Bool) (t2132 : Int) (t2133 : BA) (t2134 : Bool) (t2135 : BA) (t2136 : BA) (t2137 : Int) (v96 : Int) (v97 : BA) (v98 : Bool) (v99 : BA) (v100 : BA) (v101 : Int) (ko : (Int × BA × Bool × BA × BA × Int × Int × BA × Bool × BA × BA × Int) → Option R) (kr : (Int × Int × BA × Bool × BA × BA × Int) → Option R) (kp : Int → Option R) : Option R :=
 if (!ok1) = false then
  (r4_Verb n (v96, (v97, (v98, ((v99, (v100, ())), (v101, ())))))).bind fun v102 =>
  if (!v102) = true then
   kr ((8 : Int), (0 : Int), (⟨#[]⟩ : BA), false, (⟨#[]⟩ : BA), (⟨#[]⟩ : BA), (0 : Int))
  else
   ko (t2132, t2133, t2134, t2135, t2136, t2137, v96, v97, v98, v99, v100, v101)
 else
  kr ((8 : Int), (0 : Int), (⟨#[]⟩ : BA), false, (⟨#[]⟩ : BA), (⟨#[]⟩ : BA), (0 : Int))
theorem r4_ParseVerb_J7_B_N (n : Nat) {R S : Type} (ok1 : Bool) (t2132 : Int) (t2133 : BA) (t2134 : Bool) (t2135 : BA) (t2136 : BA) (t2137 : Int) (v96 : Int) (v97 : BA) (v98 : Bool) (v99 : BA) (v100 : BA) (v101 : Int) (ko : (Int × BA × Bool × BA × BA × Int × Int × BA × Bool × BA × BA × Int) → Option R) (kr : (Int × Int × BA × Bool × BA × BA × Int) → Option R) (kp : Int → Option R) (φ : R → Option S) : r4_ParseVerb_J7_B n ok1 t2132 t2133 t2134 t2135 t2136 t2137 v96 v97 v98 v99 v100 v101 (fun a => (ko a).bind φ) (fun a => (kr a).bind φ) (fun a => (kp a).bind φ) = (r4_ParseVerb_J7_B n ok1 t2132 t2133 t2134 t2135 t2136 t2137 v96 v97 v98 v99 v100 v101 ko kr kp).bind φ := by
  unfold r4_ParseVerb_J7_B
  first | (simp only [dup_self, both_self, iB, bB, oL, oX, nB]) | rfl
def r4_ParseVerb_J7 (n : Nat) (ok1 : Bool) (t2132 : Int) (t2133 : BA) (t2134 : Bool) (t2135 : BA) (t2136 : BA) (t2137 : Int) (v96 : Int) (v97 : BA) (v98 : Bool) (v99 : BA) (v100 : BA) (v101 : Int) : Option (Lx (Int × BA × Bool × BA × BA × Int × Int × BA × Bool × BA × BA × Int) (Int × Int × BA × Bool × BA × BA × Int)) := r4_ParseVerb_J7_B n ok1 t2132 t2133 t2134 t2135 t2136 t2137 v96 v97 v98 v99 v100 v101 (fun a => some (.out a)) (fun a => some (.ret a)) (fun p => some (.pan p))
def r4_ParseVerb_J7_sp : List Sl := .top :: .top :: .ptr 0 0 0 :: .top :: .top :: .top :: .ptr 1 0 0 :: .top :: .dat .bool :: tp 121 []
def r4_ParseVerb_J7_rp : List RS := [.box 27 6 true [.dat (.int .i64), .dat .str, .dat .bool, .dat .str, .dat .str, .dat (.int .i64)], .box 27 6 true [.dat (.int .i64), .dat .str, .dat .bool, .dat .str, .dat .str, .dat (.int .i64)]]
def r4_ParseVerb_J7_out_sp : List Sl := .top :: .top :: .ptr 0 0 0 :: .top :: .top :: .top :: .ptr 1 0 0 :: tp 123 []
def r4_ParseVerb_J7_out_rp : List RS := [.box 27 6 true [.dat (.int .i64), .dat .str, .dat .bool, .dat .str, .dat .str, .dat (.int .i64)], .box 27 6 true [.dat (.int .i64), .dat .str, .dat .bool, .dat .str, .dat .str, .dat (.int .i64)]]
def r4_ParseVerb_J7_ret_sp : List Sl := .top :: .top :: .ptr 0 0 0 :: .dat (.int .i64) :: tp 126 []
def r4_ParseVerb_J7_ret_rp : List RS := [.box 27 6 true [.dat (.int .i64), .dat .str, .dat .bool, .dat .str, .dat .str, .dat (.int .i64)]]
def r4_ParseVerb_J7_K (K : XE → List AV → AHeap → Option Out) : Lx (Int × BA × Bool × BA × BA × Int × Int × BA × Bool × BA × BA × Int) (Int × Int × BA × Bool × BA × BA × Int) → Option Out := fun x => onL x (fun a => layK r4_ParseVerb_J7_out_sp r4_ParseVerb_J7_out_rp () ((a.1, (a.2.1, (a.2.2.1, (a.2.2.2.1, (a.2.2.2.2.1, (a.2.2.2.2.2.1, ())))))), ((a.2.2.2.2.2.2.1, (a.2.2.2.2.2.2.2.1, (a.2.2.2.2.2.2.2.2.1, (a.2.2.2.2.2.2.2.2.2.1, (a.2.2.2.2.2.2.2.2.2.2.1, (a.2.2.2.2.2.2.2.2.2.2.2, ())))))), ())) (K .normal)) (fun a => layK r4_ParseVerb_J7_ret_sp r4_ParseVerb_J7_ret_rp (a.1, ()) ((a.2.1, (a.2.2.1, (a.2.2.2.1, (a.2.2.2.2.1, (a.2.2.2.2.2.1, (a.2.2.2.2.2.2, ())))))), ()) (K .ret)) (fun _ => none)
def r4_ParseVerb_B (n : Nat) {R : Type} (s : BA) (k : (T0 × Int × Unit) → Option R) : Option R :=
 (r4_ParseVerb_L0 n n s (0 : Int) (1 : Int) (0 : Int) (⟨#[]⟩ : BA) false (⟨#[]⟩ : BA) (⟨#[]⟩ : BA) (0 : Int)).bind fun x_1 => onL x_1
  (fun a_2 =>
   (r4_ParseVerb_J1 n a_2.1 a_2.2.1 a_2.2.2.1 a_2.2.2.2.1 a_2.2.2.2.2.1 a_2.2.2.2.2.2.1 a_2.2.2.2.2.2.2.1 a_2.2.2.2.2.2.2.2).bind fun x_3 => onL x_3
    (fun a_4 =>
     if 0 ≤ (4 : Int) ∧ (4 : Int) ≤ (a_4.1.size : Int) then
      (r4_ParseVerb_J2 n a_4.2.1 (a_4.1.extract (Int.toNat (4 : Int)) (Int.toNat (a_4.1.size : Int))) a_4.2.2.1 a_4.2.2.2.1 a_4.2.2.2.2.1 a_4.2.2.2.2.2.1 a_4.2.2.2.2.2.2.1 a_4.2.2.2.2.2.2.2 a_4.2.1 (⟨#[]⟩ : BA) false (⟨#[]⟩ : BA) (⟨#[]⟩ : BA) (0 : Int)).bind fun x_5 => onL x_5
       (fun a_6 =>
        (r4_ParseVerb_J7 n a_6.1 a_6.2.1 a_6.2.2.1 a_6.2.2.2.1 a_6.2.2.2.2.1 a_6.2.2.2.2.2.1 a_6.2.2.2.2.2.2.1 a_6.2.2.2.2.2.2.2.1 a_6.2.2.2.2.2.2.2.2.1 a_6.2.2.2.2.2.2.2.2.2.1 a_6.2.2.2.2.2.2.2.2.2.2.1 a_6.2.2.2.2.2.2.2.2.2.2.2.1 a_6.2.2.2.2.2.2.2.2.2.2.2.2).bind fun x_7 => onL x_7
         (fun a_8 =>
          k ((a_8.2.2.2.2.2.2.1, (a_8.2.2.2.2.2.2.2.1, (a_8.2.2.2.2.2.2.2.2.1, ((a_8.2.2.2.2.2.2.2.2.2.1, (a_8.2.2.2.2.2.2.2.2.2.2.1, ())), (a_8.2.2.2.2.2.2.2.2.2.2.2, ()))))), ((0 : Int), ())))
         (fun a_9 =>
          k ((a_9.2.1, (a_9.2.2.1, (a_9.2.2.2.1, ((a_9.2.2.2.2.1, (a_9.2.2.2.2.2.1, ())), (a_9.2.2.2.2.2.2, ()))))), (a_9.1, ())))
         (fun _ => none))
       (fun a_10 =>
        k ((a_10.2.1, (a_10.2.2.1, (a_10.2.2.2.1, ((a_10.2.2.2.2.1, (a_10.2.2.2.2.2.1, ())), (a_10.2.2.2.2.2.2, ()))))), (a_10.1, ())))
       (fun _ => none)
     else
      none)
    (fun a_11 =>
     k ((a_11.2.1, (a_11.2.2.1, (a_11.2.2.2.1, ((a_11.2.2.2.2.1, (a_11.2.2.2.2.2.1, ())), (a_11.2.2.2.2.2.2, ()))))), (a_11.1, ())))
    (fun _ => none))
  (fun _ => none)
  (fun _ => none)
def r4_ParseVerb (n : Nat) (s : BA) : Option (T0 × Int × Unit) := r4_ParseVerb_B n s some
theorem r4_ParseVerb_N (n : Nat) {R S : Type} (s : BA) (k : (T0 × Int × Unit) → Option R) (φ : R → Option S) : r4_ParseVerb_B n s (fun a => (k a).bind φ) = (r4_ParseVerb_B n s k).bind φ := by
  unfold r4_ParseVerb_B
  first | (simp only [dup_self, both_self, iB, bB, oL, oX, nB]) | rfl
def r4_ParseVerb_hint (n : Nat) : Hint Out := { live := fun c => (cond (Nat.beq c 0) (lv [0, 2, 4, 5]) []), run := fun c => (cond (Nat.beq c 0) (some (runL r4_ParseVerb_L0_sp r4_ParseVerb_L0_rp fun σ ρ K => (r4_ParseVerb_L0 n n σ.1 σ.2.1 σ.2.2.1 ρ.1.1 ρ.1.2.1 ρ.1.2.2.1 ρ.1.2.2.2.1 ρ.1.2.2.2.2.1 ρ.1.2.2.2.2.2.1).bind (r4_ParseVerb_L0_K K))) none), xm := fun c q => (cond (Nat.beq c 2 && q.isNone) (some [(2, none), (3, none)]) (cond (Nat.beq c 0 && q.isNone) (some [(2, none), (3, none)]) (cond (Nat.beq c 0 && Nat.beq (q.getD 1000000) 0 && q.isSome) (some (lv [0, 2, 4])) none))), jn := fun c => (cond (Nat.beq c 46) (some (runL r4_ParseVerb_J7_sp r4_ParseVerb_J7_rp fun σ ρ K => (r4_ParseVerb_J7 n σ.1 ρ.1.1 ρ.1.2.1 ρ.1.2.2.1 ρ.1.2.2.2.1 ρ.1.2.2.2.2.1 ρ.1.2.2.2.2.2.1 ρ.2.1.1 ρ.2.1.2.1 ρ.2.1.2.2.1 ρ.2.1.2.2.2.1 ρ.2.1.2.2.2.2.1 ρ.2.1.2.2.2.2.2.1).bind (r4_ParseVerb_J7_K K))) (cond (Nat.beq c 44) (some (runL r4_ParseVerb_J2_sp r4_ParseVerb_J2_rp fun σ ρ K => (r4_ParseVerb_J2 n σ.1 σ.2.1 ρ.1.1 ρ.1.2.1 ρ.1.2.2.1 ρ.1.2.2.2.1 ρ.1.2.2.2.2.1 ρ.1.2.2.2.2.2.1 ρ.2.1.1 ρ.2.1.2.1 ρ.2.1.2.2.1 ρ.2.1.2.2.2.1 ρ.2.1.2.2.2.2.1 ρ.2.1.2.2.2.2.2.1).bind (r4_ParseVerb_J2_K K))) (cond (Nat.beq c 39) (some (runL r4_ParseVerb_J6_sp r4_ParseVerb_J6_rp fun σ ρ K => (r4_ParseVerb_J6 n σ.1 σ.2.1 σ.2.2.1 ρ.1.1 ρ.1.2.1 ρ.1.2.2.1 ρ.1.2.2.2.1 ρ.1.2.2.2.2.1 ρ.1.2.2.2.2.2.1 ρ.2.1.1 ρ.2.1.2.1 ρ.2.1.2.2.1 ρ.2.1.2.2.2.1 ρ.2.1.2.2.2.2.1 ρ.2.1.2.2.2.2.2.1).bind (r4_ParseVerb_J6_K K))) (cond (Nat.beq c 35) (some (runL r4_ParseVerb_J5_sp r4_ParseVerb_J5_rp fun σ ρ K => (r4_ParseVerb_J5 n σ.1 σ.2.1 ρ.1.1 ρ.1.2.1 ρ.1.2.2.1 ρ.1.2.2.2.1 ρ.1.2.2.2.2.1 ρ.1.2.2.2.2.2.1 ρ.2.1.1 ρ.2.1.2.1 ρ.2.1.2.2.1 ρ.2.1.2.2.2.1 ρ.2.1.2.2.2.2.1 ρ.2.1.2.2.2.2.2.1).bind (r4_ParseVerb_J5_K K))) (cond (Nat.beq c 32) (some (runL r4_ParseVerb_J4_sp r4_ParseVerb_J4_rp fun σ ρ K => (r4_ParseVerb_J4 n σ.1 σ.2.1 σ.2.2.1 ρ.1.1 ρ.1.2.1 ρ.1.2.2.1 ρ.1.2.2.2.1 ρ.1.2.2.2.2.1 ρ.1.2.2.2.2.2.1 ρ.2.1.1 ρ.2.1.2.1 ρ.2.1.2.2.1 ρ.2.1.2.2.2.1 ρ.2.1.2.2.2.2.1 ρ.2.1.2.2.2.2.2.1).bind (r4_ParseVerb_J4_K K))) (cond (Nat.beq c 30) (some (runL r4_ParseVerb_J3_sp r4_ParseVerb_J3_rp fun σ ρ K => (r4_ParseVerb_J3 n σ.1 σ.2.1 σ.2.2.1 ρ.1.1 ρ.1.2.1 ρ.1.2.2.1 ρ.1.2.2.2.1 ρ.1.2.2.2.2.1 ρ.1.2.2.2.2.2.1 ρ.2.1.1 ρ.2.1.2.1 ρ.2.1.2.2.1 ρ.2.1.2.2.2.1 ρ.2.1.2.2.2.2.1 ρ.2.1.2.2.2.2.2.1).bind (r4_ParseVerb_J3_K K))) (cond (Nat.beq c 10) (some (runL r4_ParseVerb_J1_sp r4_ParseVerb_J1_rp fun σ ρ K => (r4_ParseVerb_J1 n σ.1 σ.2.1 ρ.1.1 ρ.1.2.1 ρ.1.2.2.1 ρ.1.2.2.2.1 ρ.1.2.2.2.2.1 ρ.1.2.2.2.2.2.1).bind (r4_ParseVerb_J1_K K))) (cond (Nat.beq c 5) (some (runL r4_ParseVerb_J0_sp r4_ParseVerb_J0_rp fun σ ρ K => (r4_ParseVerb_J0 n σ.1 σ.2.1 σ.2.2.1 ρ.1.1 ρ.1.2.1 ρ.1.2.2.1 ρ.1.2.2.2.1 ρ.1.2.2.2.2.1 ρ.1.2.2.2.2.2.1).bind (r4_ParseVerb_J0_K K))) none)))))))), jl := fun c => (cond (Nat.beq c 46) (lv [2, 6, 8]) (cond (Nat.beq c 44) (lv [2, 4, 6, 7]) (cond (Nat.beq c 39) (lv [2, 4, 6, 7, 10]) (cond (Nat.beq c 35) (lv [2, 4, 6, 7]) (cond (Nat.beq c 32) (lv [2, 4, 6, 7, 9]) (cond (Nat.beq c 30) (lv [2, 4, 6, 7, 9]) (cond (Nat.beq c 10) (lv [0, 2, 4]) (cond (Nat.beq c 5) (lv [0, 2, 4, 5]) [])))))))), jo := fun c => (cond (Nat.beq c 46) [(2, none), (6, none)] (cond (Nat.beq c 44) (lv [2, 6, 8]) (cond (Nat.beq c 39) (lv [2, 6, 7, 10]) (cond (Nat.beq c 35) (lv [2, 4, 6, 7]) (cond (Nat.beq c 32) (lv [2, 4, 6, 7, 9]) (cond (Nat.beq c 30) (lv [2, 4, 6, 7, 9]) (cond (Nat.beq c 10) (lv [0, 2, 4]) (cond (Nat.beq c 5) (lv [0, 2, 4, 5]) [])))))))) }
theorem r4_ParseVerb_J0_E (n : Nat) (K : XE → List AV → AHeap → Option Out) (s2 : BA) (kind1 : Int) (k01 : Int) (t26 : Int) (t27 : BA) (t28 : Bool) (t29 : BA) (t210 : BA) (t211 : Int) : joinI tys (callees Out (r4_Verb_es n)) (r4_ParseVerb_hint n) n (codeAt [1, 1, 0, 1, 0, 0, 1, 0] (bodyOf Tryz.f17)) 0 5 r4_ParseVerb_J0_sp r4_ParseVerb_J0_rp K (s2, (kind1, (k01, ()))) ((t26, (t27, (t28, (t29, (t210, (t211, ())))))), ()) = (r4_ParseVerb_J0 n s2 kind1 k01 t26 t27 t28 t29 t210 t211).bind (r4_ParseVerb_J0_K K) := by
  have h1 : joinI tys (callees Out (r4_Verb_es n)) (r4_ParseVerb_hint n) n (codeAt [1, 1, 0, 1, 0, 0, 1, 0] (bodyOf Tryz.f17)) 0 5 r4_ParseVerb_J0_sp r4_ParseVerb_J0_rp K (s2, (kind1, (k01, ()))) ((t26, (t27, (t28, (t29, (t210, (t211, ())))))), ()) = r4_ParseVerb_J0_B n s2 kind1 k01 t26 t27 t28 t29 t210 t211 (fun a => r4_ParseVerb_J0_K K (.out a)) (fun a => r4_ParseVerb_J0_K K (.ret a)) (fun p => r4_ParseVerb_J0_K K (.pan p)) := by kernel_rfl
  exact h1.trans (r4_ParseVerb_J0_B_N (R := Lx (BA × Int × Int × Int × BA × Bool × BA × BA × Int) Unit) (S := Out) n s2 kind1 k01 t26 t27 t28 t29 t210 t211 (fun a => some (.out a)) (fun a => some (.ret a)) (fun p => some (.pan p)) (r4_ParseVerb_J0_K K))
theorem r4_ParseVerb_J0_ok (n : Nat) : JnOk tys (callees Out (r4_Verb_es n)) (r4_ParseVerb_hint n) n (codeAt [1, 1, 0, 1, 0, 0, 1, 0] (bodyOf Tryz.f17)) 0 5 := jnOk_of (sp := r4_ParseVerb_J0_sp) (rp := r4_ParseVerb_J0_rp) (F := fun σ ρ K => (r4_ParseVerb_J0 n σ.1 σ.2.1 σ.2.2.1 ρ.1.1 ρ.1.2.1 ρ.1.2.2.1 ρ.1.2.2.2.1 ρ.1.2.2.2.2.1 ρ.1.2.2.2.2.2.1).bind (r4_ParseVerb_J0_K K)) (by kernel_rfl) fun K σ ρ => r4_ParseVerb_J0_E n K σ.1 σ.2.1 σ.2.2.1 ρ.1.1 ρ.1.2.1 ρ.1.2.2.1 ρ.1.2.2.2.1 ρ.1.2.2.2.2.1 ρ.1.2.2.2.2.2.1
def r4_ParseVerb_L0_I (n : Nat) (K : XE → List AV → AHeap → Option Out) (m : Nat) (s1 : BA) (kind : Int) (k0 : Int) (t2 : Int) (t21 : BA) (t22 : Bool) (t23 : BA) (t24 : BA) (t25 : Int) : Option Out := loopI tys (callees Out (r4_Verb_es n)) (r4_ParseVerb_hint n) n (codeAt [1, 1, 0, 1, 0, 0] (bodyOf Tryz.f17)) 0 r4_ParseVerb_L0_sp r4_ParseVerb_L0_rp K m (s1, (kind, (k0, ()))) ((t2, (t21, (t22, (t23, (t24, (t25, ())))))), ())
theorem r4_ParseVerb_L0_E (n : Nat) (K : XE → List AV → AHeap → Option Out) : ∀ (m : Nat) (s1 : BA) (kind : Int) (k0 : Int) (t2 : Int) (t21 : BA) (t22 : Bool) (t23 : BA) (t24 : BA) (t25 : Int), r4_ParseVerb_L0_I n K m s1 kind k0 t2 t21 t22 t23 t24 t25 = (r4_ParseVerb_L0 n m s1 kind k0 t2 t21 t22 t23 t24 t25).bind (r4_ParseVerb_L0_K K)
  | 0, s1, kind, k0, t2, t21, t22, t23, t24, t25 => by kernel_rfl
  | m + 1, s1, kind, k0, t2, t21, t22, t23, t24, t25 => by
    have h1 : r4_ParseVerb_L0_I n K (m + 1) s1 kind k0 t2 t21 t22 t23 t24 t25 = r4_ParseVerb_B0 n s1 kind k0 t2 t21 t22 t23 t24 t25 (fun s1 kind k0 t2 t21 t22 t23 t24 t25 => r4_ParseVerb_L0_I n K m s1 kind k0 t2 t21 t22 t23 t24 t25) (fun a => r4_ParseVerb_L0_K K (.out a)) (fun a => r4_ParseVerb_L0_K K (.ret a)) (fun p => r4_ParseVerb_L0_K K (.pan p)) := by kernel_rfl
    have h2 : (fun s1 kind k0 t2 t21 t22 t23 t24 t25 => r4_ParseVerb_L0_I n K m s1 kind k0 t2 t21 t22 t23 t24 t25) = (fun s1 kind k0 t2 t21 t22 t23 t24 t25 => (r4_ParseVerb_L0 n m s1 kind k0 t2 t21 t22 t23 t24 t25).bind (r4_ParseVerb_L0_K K)) := funext fun s1 => funext fun kind => funext fun k0 => funext fun t2 => funext fun t21 => funext fun t22 => funext fun t23 => funext fun t24 => funext fun t25 => r4_ParseVerb_L0_E n K m s1 kind k0 t2 t21 t22 t23 t24 t25
    exact h1.trans ((congrArg (fun z => r4_ParseVerb_B0 n s1 kind k0 t2 t21 t22 t23 t24 t25 z (fun a => r4_ParseVerb_L0_K K (.out a)) (fun a => r4_ParseVerb_L0_K K (.ret a)) (fun p => r4_ParseVerb_L0_K K (.pan p))) h2).trans (r4_ParseVerb_B0_N n s1 kind k0 t2 t21 t22 t23 t24 t25 (fun s1 kind k0 t2 t21 t22 t23 t24 t25 => r4_ParseVerb_L0 n m s1 kind k0 t2 t21 t22 t23 t24 t25) (fun a => some (.out a)) (fun a => some (.ret a)) (fun p => some (.pan p)) (r4_ParseVerb_L0_K K)))
theorem r4_ParseVerb_L0_ok (n : Nat) : RunOk tys (callees Out (r4_Verb_es n)) (r4_ParseVerb_hint n) n (codeAt [1, 1, 0, 1, 0, 0] (bodyOf Tryz.f17)) 0 := runOk_of (sp := r4_ParseVerb_L0_sp) (rp := r4_ParseVerb_L0_rp) (F := fun σ ρ K => (r4_ParseVerb_L0 n n σ.1 σ.2.1 σ.2.2.1 ρ.1.1 ρ.1.2.1 ρ.1.2.2.1 ρ.1.2.2.2.1 ρ.1.2.2.2.2.1 ρ.1.2.2.2.2.2.1).bind (r4_ParseVerb_L0_K K)) (by kernel_rfl) fun K σ ρ => r4_ParseVerb_L0_E n K n σ.1 σ.2.1 σ.2.2.1 ρ.1.1 ρ.1.2.1 ρ.1.2.2.1 ρ.1.2.2.2.1 ρ.1.2.2.2.2.1 ρ.1.2.2.2.2.2.1
theorem r4_ParseVerb_J1_E (n : Nat) (K : XE → List AV → AHeap → Option Out) (s5 : BA) (kind4 : Int) (t224 : Int) (t225 : BA) (t226 : Bool) (t227 : BA) (t228 : BA) (t229 : Int) : joinI tys (callees Out (r4_Verb_es n)) (r4_ParseVerb_hint n) n (codeAt [1, 1, 1, 0] (bodyOf Tryz.f17)) 0 10 r4_ParseVerb_J1_sp r4_ParseVerb_J1_rp K (s5, (kind4, ())) ((t224, (t225, (t226, (t227, (t228, (t229, ())))))), ()) = (r4_ParseVerb_J1 n s5 kind4 t224 t225 t226 t227 t228 t229).bind (r4_ParseVerb_J1_K K) := by
  have h1 : joinI tys (callees Out (r4_Verb_es n)) (r4_ParseVerb_hint n) n (codeAt [1, 1, 1, 0] (bodyOf Tryz.f17)) 0 10 r4_ParseVerb_J1_sp r4_ParseVerb_J1_rp K (s5, (kind4, ())) ((t224, (t225, (t226, (t227, (t228, (t229, ())))))), ()) = r4_ParseVerb_J1_B n s5 kind4 t224 t225 t226 t227 t228 t229 (fun a => r4_ParseVerb_J1_K K (.out a)) (fun a => r4_ParseVerb_J1_K K (.ret a)) (fun p => r4_ParseVerb_J1_K K (.pan p)) := by kernel_rfl
  exact h1.trans (r4_ParseVerb_J1_B_N (R := Lx (BA × Int × Int × BA × Bool × BA × BA × Int) (Int × Int × BA × Bool × BA × BA × Int)) (S := Out) n s5 kind4 t224 t225 t226 t227 t228 t229 (fun a => some (.out a)) (fun a => some (.ret a)) (fun p => some (.pan p)) (r4_ParseVerb_J1_K K))
theorem r4_ParseVerb_J1_ok (n : Nat) : JnOk tys (callees Out (r4_Verb_es n)) (r4_ParseVerb_hint n) n (codeAt [1, 1, 1, 0] (bodyOf Tryz.f17)) 0 10 := jnOk_of (sp := r4_ParseVerb_J1_sp) (rp := r4_ParseVerb_J1_rp) (F := fun σ ρ K => (r4_ParseVerb_J1 n σ.1 σ.2.1 ρ.1.1 ρ.1.2.1 ρ.1.2.2.1 ρ.1.2.2.2.1 ρ.1.2.2.2.2.1 ρ.1.2.2.2.2.2.1).bind (r4_ParseVerb_J1_K K)) (by kernel_rfl) fun K σ ρ => r4_ParseVerb_J1_E n K σ.1 σ.2.1 ρ.1.1 ρ.1.2.1 ρ.1.2.2.1 ρ.1.2.2.2.1 ρ.1.2.2.2.2.1 ρ.1.2.2.2.2.2.1
theorem r4_ParseVerb_J3_E (n : Nat) (K : XE → List AV → AHeap → Option Out) (kind7 : Int) (rest1 : BA) (lead : BA) (t242 : Int) (t243 : BA) (t244 : Bool) (t245 : BA) (t246 : BA) (t247 : Int) (v10 : Int) (v11 : BA) (v12 : Bool) (v13 : BA) (v14 : BA) (v15 : Int) : joinI tys (callees Out (r4_Verb_es n)) (r4_ParseVerb_hint n) n (codeAt [1, 1, 1, 1, 1, 1, 1, 0, 1, 0, 1, 1, 1, 1, 1, 0, 1, 0] (bodyOf Tryz.f17)) 2 30 r4_ParseVerb_J3_sp r4_ParseVerb_J3_rp K (kind7, (rest1, (lead, ()))) ((t242, (t243, (t244, (t245, (t246, (t247, ())))))), ((v10, (v11, (v12, (v13, (v14, (v15, ())))))), ())) = (r4_ParseVerb_J3 n kind7 rest1 lead t242 t243 t244 t245 t246 t247 v10 v11 v12 v13 v14 v15).bind (r4_ParseVerb_J3_K K) := by
  have h1 : joinI tys (callees Out (r4_Verb_es n)) (r4_ParseVerb_hint n) n (codeAt [1, 1, 1, 1, 1, 1, 1, 0, 1, 0, 1, 1, 1, 1, 1, 0, 1, 0] (bodyOf Tryz.f17)) 2 30 r4_ParseVerb_J3_sp r4_ParseVerb_J3_rp K (kind7, (rest1, (lead, ()))) ((t242, (t243, (t244, (t245, (t246, (t247, ())))))), ((v10, (v11, (v12, (v13, (v14, (v15, ())))))), ())) = r4_ParseVerb_J3_B n kind7 rest1 lead t242 t243 t244 t245 t246 t247 v10 v11 v12 v13 v14 v15 (fun a => r4_ParseVerb_J3_K K (.out a)) (fun a => r4_ParseVerb_J3_K K (.ret a)) (fun p => r4_ParseVerb_J3_K K (.pan p)) := by kernel_rfl
  exact h1.trans (r4_ParseVerb_J3_B_N (R := Lx (Int × BA × BA × Int × BA × Bool × BA × BA × Int × Int × BA × Bool × BA × BA × Int) Unit) (S := Out) n kind7 rest1 lead t242 t243 t244 t245 t246 t247 v10 v11 v12 v13 v14 v15 (fun a => some (.out a)) (fun a => some (.ret a)) (fun p => some (.pan p)) (r4_ParseVerb_J3_K K))
theorem r4_ParseVerb_J3_ok (n : Nat) : JnOk tys (callees Out (r4_Verb_es n)) (r4_ParseVerb_hint n) n (codeAt [1, 1, 1, 1, 1, 1, 1, 0, 1, 0, 1, 1, 1, 1, 1, 0, 1, 0] (bodyOf Tryz.f17)) 2 30 := jnOk_of (sp := r4_ParseVerb_J3_sp) (rp := r4_ParseVerb_J3_rp) (F := fun σ ρ K => (r4_ParseVerb_J3 n σ.1 σ.2.1 σ.2.2.1 ρ.1.1 ρ.1.2.1 ρ.1.2.2.1 ρ.1.2.2.2.1 ρ.1.2.2.2.2.1 ρ.1.2.2.2.2.2.1 ρ.2.1.1 ρ.2.1.2.1 ρ.2.1.2.2.1 ρ.2.1.2.2.2.1 ρ.2.1.2.2.2.2.1 ρ.2.1.2.2.2.2.2.1).bind (r4_ParseVerb_J3_K K)) (by kernel_rfl) fun K σ ρ => r4_ParseVerb_J3_E n K σ.1 σ.2.1 σ.2.2.1 ρ.1.1 ρ.1.2.1 ρ.1.2.2.1 ρ.1.2.2.2.1 ρ.1.2.2.2.2.1 ρ.1.2.2.2.2.2.1 ρ.2.1.1 ρ.2.1.2.1 ρ.2.1.2.2.1 ρ.2.1.2.2.2.1 ρ.2.1.2.2.2.2.1 ρ.2.1.2.2.2.2.2.1
theorem r4_ParseVerb_J4_E (n : Nat) (K : XE → List AV → AHeap → Option Out) (kind9 : Int) (rest3 : BA) (lead2 : BA) (t254 : Int) (t255 : BA) (t256 : Bool) (t257 : BA) (t258 : BA) (t259 : Int) (v22 : Int) (v23 : BA) (v24 : Bool) (v25 : BA) (v26 : BA) (v27 : Int) : joinI tys (callees Out (r4_Verb_es n)) (r4_ParseVerb_hint n) n (codeAt [1, 1, 1, 1, 1, 1, 1, 0, 1, 0, 1, 1, 1, 1, 1, 0, 1, 1, 0] (bodyOf Tryz.f17)) 2 32 r4_ParseVerb_J4_sp r4_ParseVerb_J4_rp K (kind9, (rest3, (lead2, ()))) ((t254, (t255, (t256, (t257, (t258, (t259, ())))))), ((v22, (v23, (v24, (v25, (v26, (v27, ())))))), ())) = (r4_ParseVerb_J4 n kind9 rest3 lead2 t254 t255 t256 t257 t258 t259 v22 v23 v24 v25 v26 v27).bind (r4_ParseVerb_J4_K K) := by
  have h1 : joinI tys (callees Out (r4_Verb_es n)) (r4_ParseVerb_hint n) n (codeAt [1, 1, 1, 1, 1, 1, 1, 0, 1, 0, 1, 1, 1, 1, 1, 0, 1, 1, 0] (bodyOf Tryz.f17)) 2 32 r4_ParseVerb_J4_sp r4_ParseVerb_J4_rp K (kind9, (rest3, (lead2, ()))) ((t254, (t255, (t256, (t257, (t258, (t259, ())))))), ((v22, (v23, (v24, (v25, (v26, (v27, ())))))), ())) = r4_ParseVerb_J4_B n kind9 rest3 lead2 t254 t255 t256 t257 t258 t259 v22 v23 v24 v25 v26 v27 (fun a => r4_ParseVerb_J4_K K (.out a)) (fun a => r4_ParseVerb_J4_K K (.ret a)) (fun p => r4_ParseVerb_J4_K K (.pan p)) := by kernel_rfl
  exact h1.trans (r4_ParseVerb_J4_B_N (R := Lx (Int × BA × BA × Int × BA × Bool × BA × BA × Int × Int × BA × Bool × BA × BA × Int) (Int × Int × BA × Bool × BA × BA × Int)) (S := Out) n kind9 rest3 lead2 t254 t255 t256 t257 t258 t259 v22 v23 v24 v25 v26 v27 (fun a => some (.out a)) (fun a => some (.ret a)) (fun p => some (.pan p)) (r4_ParseVerb_J4_K K))
theorem r4_ParseVerb_J4_ok (n : Nat) : JnOk tys (callees Out (r4_Verb_es n)) (r4_ParseVerb_hint n) n (codeAt [1, 1, 1, 1, 1, 1, 1, 0, 1, 0, 1, 1, 1, 1, 1, 0, 1, 1, 0] (bodyOf Tryz.f17)) 2 32 := jnOk_of (sp := r4_ParseVerb_J4_sp) (rp := r4_ParseVerb_J4_rp) (F := fun σ ρ K => (r4_ParseVerb_J4 n σ.1 σ.2.1 σ.2.2.1 ρ.1.1 ρ.1.2.1 ρ.1.2.2.1 ρ.1.2.2.2.1 ρ.1.2.2.2.2.1 ρ.1.2.2.2.2.2.1 ρ.2.1.1 ρ.2.1.2.1 ρ.2.1.2.2.1 ρ.2.1.2.2.2.1 ρ.2.1.2.2.2.2.1 ρ.2.1.2.2.2.2.2.1).bind (r4_ParseVerb_J4_K K)) (by kernel_rfl) fun K σ ρ => r4_ParseVerb_J4_E n K σ.1 σ.2.1 σ.2.2.1 ρ.1.1 ρ.1.2.1 ρ.1.2.2.1 ρ.1.2.2.2.1 ρ.1.2.2.2.2.1 ρ.1.2.2.2.2.2.1 ρ.2.1.1 ρ.2.1.2.1 ρ.2.1.2.2.1 ρ.2.1.2.2.2.1 ρ.2.1.2.2.2.2.1 ρ.2.1.2.2.2.2.2.1
theorem r4_ParseVerb_J5_E (n : Nat) (K : XE → List AV → AHeap → Option Out) (kind11 : Int) (rest5 : BA) (t266 : Int) (t267 : BA) (t268 : Bool) (t269 : BA) (t270 : BA) (t271 : Int) (v35 : Int) (v36 : BA) (v37 : Bool) (v38 : BA) (v39 : BA) (v40 : Int) : joinI tys (callees Out (r4_Verb_es n)) (r4_ParseVerb_hint n) n (codeAt [1, 1, 1, 1, 1, 1, 1, 0, 1, 0, 1, 1, 1, 1, 1, 0, 1, 1, 1, 1, 0] (bodyOf Tryz.f17)) 2 35 r4_ParseVerb_J5_sp r4_ParseVerb_J5_rp K (kind11, (rest5, ())) ((t266, (t267, (t268, (t269, (t270, (t271, ())))))), ((v35, (v36, (v37, (v38, (v39, (v40, ())))))), ())) = (r4_ParseVerb_J5 n kind11 rest5 t266 t267 t268 t269 t270 t271 v35 v36 v37 v38 v39 v40).bind (r4_ParseVerb_J5_K K) := by
  have h1 : joinI tys (callees Out (r4_Verb_es n)) (r4_ParseVerb_hint n) n (codeAt [1, 1, 1, 1, 1, 1, 1, 0, 1, 0, 1, 1, 1, 1, 1, 0, 1, 1, 1, 1, 0] (bodyOf Tryz.f17)) 2 35 r4_ParseVerb_J5_sp r4_ParseVerb_J5_rp K (kind11, (rest5, ())) ((t266, (t267, (t268, (t269, (t270, (t271, ())))))), ((v35, (v36, (v37, (v38, (v39, (v40, ())))))), ())) = r4_ParseVerb_J5_B n kind11 rest5 t266 t267 t268 t269 t270 t271 v35 v36 v37 v38 v39 v40 (fun a => r4_ParseVerb_J5_K K (.out a)) (fun a => r4_ParseVerb_J5_K K (.ret a)) (fun p => r4_ParseVerb_J5_K K (.pan p)) := by kernel_rfl
  exact h1.trans (r4_ParseVerb_J5_B_N (R := Lx (Int × BA × Int × BA × Bool × BA × BA × Int × Int × BA × Bool × BA × BA × Int) Unit) (S := Out) n kind11 rest5 t266 t267 t268 t269 t270 t271 v35 v36 v37 v38 v39 v40 (fun a => some (.out a)) (fun a => some (.ret a)) (fun p => some (.pan p)) (r4_ParseVerb_J5_K K))
theorem r4_ParseVerb_J5_ok (n : Nat) : JnOk tys (callees Out (r4_Verb_es n)) (r4_ParseVerb_hint n) n (codeAt [1, 1, 1, 1, 1, 1, 1, 0, 1, 0, 1, 1, 1, 1, 1, 0, 1, 1, 1, 1, 0] (bodyOf Tryz.f17)) 2 35 := jnOk_of (sp := r4_ParseVerb_J5_sp) (rp := r4_ParseVerb_J5_rp) (F := fun σ ρ K => (r4_ParseVerb_J5 n σ.1 σ.2.1 ρ.1.1 ρ.1.2.1 ρ.1.2.2.1 ρ.1.2.2.2.1 ρ.1.2.2.2.2.1 ρ.1.2.2.2.2.2.1 ρ.2.1.1 ρ.2.1.2.1 ρ.2.1.2.2.1 ρ.2.1.2.2.2.1 ρ.2.1.2.2.2.2.1 ρ.2.1.2.2.2.2.2.1).bind (r4_ParseVerb_J5_K K)) (by kernel_rfl) fun K σ ρ => r4_ParseVerb_J5_E n K σ.1 σ.2.1 ρ.1.1 ρ.1.2.1 ρ.1.2.2.1 ρ.1.2.2.2.1 ρ.1.2.2.2.2.1 ρ.1.2.2.2.2.2.1 ρ.2.1.1 ρ.2.1.2.1 ρ.2.1.2.2.1 ρ.2.1.2.2.2.1 ρ.2.1.2.2.2.2.1 ρ.2.1.2.2.2.2.2.1
theorem r4_ParseVerb_J6_E (n : Nat) (K : XE → List AV → AHeap → Option Out) (kind13 : Int) (rest7 : BA) (n0 : Int) (t278 : Int) (t279 : BA) (t280 : Bool) (t281 : BA) (t282 : BA) (t283 : Int) (v47 : Int) (v48 : BA) (v49 : Bool) (v50 : BA) (v51 : BA) (v52 : Int) : joinI tys (callees Out (r4_Verb_es n)) (r4_ParseVerb_hint n) n (codeAt [1, 1, 1, 1, 1, 1, 1, 0, 1, 0, 1, 1, 1, 1, 1, 0, 1, 1, 1, 1, 1, 1, 0] (bodyOf Tryz.f17)) 2 39 r4_ParseVerb_J6_sp r4_ParseVerb_J6_rp K (kind13, (rest7, (n0, ()))) ((t278, (t279, (t280, (t281, (t282, (t283, ())))))), ((v47, (v48, (v49, (v50, (v51, (v52, ())))))), ())) = (r4_ParseVerb_J6 n kind13 rest7 n0 t278 t279 t280 t281 t282 t283 v47 v48 v49 v50 v51 v52).bind (r4_ParseVerb_J6_K K) := by
  have h1 : joinI tys (callees Out (r4_Verb_es n)) (r4_ParseVerb_hint n) n (codeAt [1, 1, 1, 1, 1, 1, 1, 0, 1, 0, 1, 1, 1, 1, 1, 0, 1, 1, 1, 1, 1, 1, 0] (bodyOf Tryz.f17)) 2 39 r4_ParseVerb_J6_sp r4_ParseVerb_J6_rp K (kind13, (rest7, (n0, ()))) ((t278, (t279, (t280, (t281, (t282, (t283, ())))))), ((v47, (v48, (v49, (v50, (v51, (v52, ())))))), ())) = r4_ParseVerb_J6_B n kind13 rest7 n0 t278 t279 t280 t281 t282 t283 v47 v48 v49 v50 v51 v52 (fun a => r4_ParseVerb_J6_K K (.out a)) (fun a => r4_ParseVerb_J6_K K (.ret a)) (fun p => r4_ParseVerb_J6_K K (.pan p)) := by kernel_rfl
  exact h1.trans (r4_ParseVerb_J6_B_N (R := Lx (BA × Int × Int × BA × Bool × BA × BA × Int × Int × BA × Bool × BA × BA × Int) Unit) (S := Out) n kind13 rest7 n0 t278 t279 t280 t281 t282 t283 v47 v48 v49 v50 v51 v52 (fun a => some (.out a)) (fun a => some (.ret a)) (fun p => some (.pan p)) (r4_ParseVerb_J6_K K))
theorem r4_ParseVerb_J6_ok (n : Nat) : JnOk tys (callees Out (r4_Verb_es n)) (r4_ParseVerb_hint n) n (codeAt [1, 1, 1, 1, 1, 1, 1, 0, 1, 0, 1, 1, 1, 1, 1, 0, 1, 1, 1, 1, 1, 1, 0] (bodyOf Tryz.f17)) 2 39 := jnOk_of (sp := r4_ParseVerb_J6_sp) (rp := r4_ParseVerb_J6_rp) (F := fun σ ρ K => (r4_ParseVerb_J6 n σ.1 σ.2.1 σ.2.2.1 ρ.1.1 ρ.1.2.1 ρ.1.2.2.1 ρ.1.2.2.2.1 ρ.1.2.2.2.2.1 ρ.1.2.2.2.2.2.1 ρ.2.1.1 ρ.2.1.2.1 ρ.2.1.2.2.1 ρ.2.1.2.2.2.1 ρ.2.1.2.2.2.2.1 ρ.2.1.2.2.2.2.2.1).bind (r4_ParseVerb_J6_K K)) (by kernel_rfl) fun K σ ρ => r4_ParseVerb_J6_E n K σ.1 σ.2.1 σ.2.2.1 ρ.1.1 ρ.1.2.1 ρ.1.2.2.1 ρ.1.2.2.2.1 ρ.1.2.2.2.2.1 ρ.1.2.2.2.2.2.1 ρ.2.1.1 ρ.2.1.2.1 ρ.2.1.2.2.1 ρ.2.1.2.2.2.1 ρ.2.1.2.2.2.2.1 ρ.2.1.2.2.2.2.2.1
theorem r4_ParseVerb_J2_E (n : Nat) (K : XE → List AV → AHeap → Option Out) (kind6 : Int) (rest : BA) (t236 : Int) (t237 : BA) (t238 : Bool) (t239 : BA) (t240 : BA) (t241 : Int) (v2 : Int) (v3 : BA) (v4 : Bool) (v5 : BA) (v6 : BA) (v7 : Int) : joinI tys (callees Out (r4_Verb_es n)) (r4_ParseVerb_hint n) n (codeAt [1, 1, 1, 1, 1, 1, 1, 0] (bodyOf Tryz.f17)) 0 44 r4_ParseVerb_J2_sp r4_ParseVerb_J2_rp K (kind6, (rest, ())) ((t236, (t237, (t238, (t239, (t240, (t241, ())))))), ((v2, (v3, (v4, (v5, (v6, (v7, ())))))), ())) = (r4_ParseVerb_J2 n kind6 rest t236 t237 t238 t239 t240 t241 v2 v3 v4 v5 v6 v7).bind (r4_ParseVerb_J2_K K) := by
  have h1 : joinI tys (callees Out (r4_Verb_es n)) (r4_ParseVerb_hint n) n (codeAt [1, 1, 1, 1, 1, 1, 1, 0] (bodyOf Tryz.f17)) 0 44 r4_ParseVerb_J2_sp r4_ParseVerb_J2_rp K (kind6, (rest, ())) ((t236, (t237, (t238, (t239, (t240, (t241, ())))))), ((v2, (v3, (v4, (v5, (v6, (v7, ())))))), ())) = r4_ParseVerb_J2_B n kind6 rest t236 t237 t238 t239 t240 t241 v2 v3 v4 v5 v6 v7 (fun a => r4_ParseVerb_J2_K K (.out a)) (fun a => r4_ParseVerb_J2_K K (.ret a)) (fun p => r4_ParseVerb_J2_K K (.pan p)) := by kernel_rfl
  exact h1.trans (r4_ParseVerb_J2_B_N (R := Lx (Bool × Int × BA × Bool × BA × BA × Int × Int × BA × Bool × BA × BA × Int) (Int × Int × BA × Bool × BA × BA × Int)) (S := Out) n kind6 rest t236 t237 t238 t239 t240 t241 v2 v3 v4 v5 v6 v7 (fun a => some (.out a)) (fun a => some (.ret a)) (fun p => some (.pan p)) (r4_ParseVerb_J2_K K))
theorem r4_ParseVerb_J2_ok (n : Nat) : JnOk tys (callees Out (r4_Verb_es n)) (r4_ParseVerb_hint n) n (codeAt [1, 1, 1, 1, 1, 1, 1, 0] (bodyOf Tryz.f17)) 0 44 := jnOk_of (sp := r4_ParseVerb_J2_sp) (rp := r4_ParseVerb_J2_rp) (F := fun σ ρ K => (r4_ParseVerb_J2 n σ.1 σ.2.1 ρ.1.1 ρ.1.2.1 ρ.1.2.2.1 ρ.1.2.2.2.1 ρ.1.2.2.2.2.1 ρ.1.2.2.2.2.2.1 ρ.2.1.1 ρ.2.1.2.1 ρ.2.1.2.2.1 ρ.2.1.2.2.2.1 ρ.2.1.2.2.2.2.1 ρ.2.1.2.2.2.2.2.1).bind (r4_ParseVerb_J2_K K)) (by kernel_rfl) fun K σ ρ => r4_ParseVerb_J2_E n K σ.1 σ.2.1 ρ.1.1 ρ.1.2.1 ρ.1.2.2.1 ρ.1.2.2.2.1 ρ.1.2.2.2.2.1 ρ.1.2.2.2.2.2.1 ρ.2.1.1 ρ.2.1.2.1 ρ.2.1.2.2.1 ρ.2.1.2.2.2.1 ρ.2.1.2.2.2.2.1 ρ.2.1.2.2.2.2.2.1
theorem r4_ParseVerb_J7_E (n : Nat) (K : XE → List AV → AHeap → Option Out) (ok1 : Bool) (t2132 : Int) (t2133 : BA) (t2134 : Bool) (t2135 : BA) (t2136 : BA) (t2137 : Int) (v96 : Int) (v97 : BA) (v98 : Bool) (v99 : BA) (v100 : BA) (v101 : Int) : joinI tys (callees Out (r4_Verb_es n)) (r4_ParseVerb_hint n) n (codeAt [1, 1, 1, 1, 1, 1, 1, 1, 0] (bodyOf Tryz.f17)) 0 46 r4_ParseVerb_J7_sp r4_ParseVerb_J7_rp K (ok1, ()) ((t2132, (t2133, (t2134, (t2135, (t2136, (t2137, ())))))), ((v96, (v97, (v98, (v99, (v100, (v101, ())))))), ())) = (r4_ParseVerb_J7 n ok1 t2132 t2133 t2134 t2135 t2136 t2137 v96 v97 v98 v99 v100 v101).bind (r4_ParseVerb_J7_K K) := by
  have h1 : joinI tys (callees Out (r4_Verb_es n)) (r4_ParseVerb_hint n) n (codeAt [1, 1, 1, 1, 1, 1, 1, 1, 0] (bodyOf Tryz.f17)) 0 46 r4_ParseVerb_J7_sp r4_ParseVerb_J7_rp K (ok1, ()) ((t2132, (t2133, (t2134, (t2135, (t2136, (t2137, ())))))), ((v96, (v97, (v98, (v99, (v100, (v101, ())))))), ())) = r4_ParseVerb_J7_B n ok1 t2132 t2133 t2134 t2135 t2136 t2137 v96 v97 v98 v99 v100 v101 (fun a => r4_ParseVerb_J7_K K (.out a)) (fun a => r4_ParseVerb_J7_K K (.ret a)) (fun p => r4_ParseVerb_J7_K K (.pan p)) := by kernel_rfl
  exact h1.trans (r4_ParseVerb_J7_B_N (R := Lx (Int × BA × Bool × BA × BA × Int × Int × BA × Bool × BA × BA × Int) (Int × Int × BA × Bool × BA × BA × Int)) (S := Out) n ok1 t2132 t2133 t2134 t2135 t2136 t2137 v96 v97 v98 v99 v100 v101 (fun a => some (.out a)) (fun a => some (.ret a)) (fun p => some (.pan p)) (r4_ParseVerb_J7_K K))
theorem r4_ParseVerb_J7_ok (n : Nat) : JnOk tys (callees Out (r4_Verb_es n)) (r4_ParseVerb_hint n) n (codeAt [1, 1, 1, 1, 1, 1, 1, 1, 0] (bodyOf Tryz.f17)) 0 46 := jnOk_of (sp := r4_ParseVerb_J7_sp) (rp := r4_ParseVerb_J7_rp) (F := fun σ ρ K => (r4_ParseVerb_J7 n σ.1 ρ.1.1 ρ.1.2.1 ρ.1.2.2.1 ρ.1.2.2.2.1 ρ.1.2.2.2.2.1 ρ.1.2.2.2.2.2.1 ρ.2.1.1 ρ.2.1.2.1 ρ.2.1.2.2.1 ρ.2.1.2.2.2.1 ρ.2.1.2.2.2.2.1 ρ.2.1.2.2.2.2.2.1).bind (r4_ParseVerb_J7_K K)) (by kernel_rfl) fun K σ ρ => r4_ParseVerb_J7_E n K σ.1 ρ.1.1 ρ.1.2.1 ρ.1.2.2.1 ρ.1.2.2.2.1 ρ.1.2.2.2.2.1 ρ.1.2.2.2.2.2.1 ρ.2.1.1 ρ.2.1.2.1 ρ.2.1.2.2.1 ρ.2.1.2.2.2.1 ρ.2.1.2.2.2.2.1 ρ.2.1.2.2.2.2.2.1
theorem r4_ParseVerb_runs (n : Nat) : RunsOk tys (callees Out (r4_Verb_es n)) (r4_ParseVerb_hint n) n (bodyOf Tryz.f17) 0 := ⟨trivial, ⟨trivial, ⟨⟨trivial, ⟨r4_ParseVerb_L0_ok n, ⟨⟨trivial, ⟨trivial, trivial⟩⟩, ⟨⟨⟨trivial, ⟨trivial, trivial⟩⟩, trivial⟩, r4_ParseVerb_J0_ok n⟩⟩⟩⟩, ⟨⟨⟨trivial, ⟨⟨trivial, trivial⟩, trivial⟩⟩, ⟨trivial, ⟨trivial, ⟨trivial, ⟨⟨⟨trivial, ⟨⟨trivial, ⟨trivial, trivial⟩⟩, ⟨⟨trivial, ⟨trivial, ⟨trivial, trivial⟩⟩⟩, ⟨⟨trivial, ⟨trivial, trivial⟩⟩, ⟨⟨trivial, ⟨trivial, ⟨trivial, trivial⟩⟩⟩, ⟨⟨trivial, ⟨trivial, trivial⟩⟩, ⟨⟨trivial, ⟨⟨⟨trivial, ⟨trivial, trivial⟩⟩, ⟨⟨⟨trivial, ⟨⟨trivial, trivial⟩, trivial⟩⟩, ⟨trivial, ⟨⟨⟨trivial, ⟨trivial, trivial⟩⟩, ⟨trivial, ⟨⟨⟨trivial, ⟨⟨trivial, trivial⟩, trivial⟩⟩, ⟨trivial, ⟨trivial, ⟨⟨trivial, ⟨trivial, ⟨trivial, trivial⟩⟩⟩, trivial⟩⟩⟩⟩, r4_ParseVerb_J6_ok n⟩⟩⟩, r4_ParseVerb_J5_ok n⟩⟩⟩, r4_ParseVerb_J4_ok n⟩⟩, r4_ParseVerb_J3_ok n⟩⟩, trivial⟩⟩⟩⟩⟩⟩⟩, ⟨⟨⟨trivial, ⟨⟨trivial, trivial⟩, trivial⟩⟩, ⟨trivial, trivial⟩⟩, r4_ParseVerb_J7_ok n⟩⟩, r4_ParseVerb_J2_ok n⟩⟩⟩⟩⟩, r4_ParseVerb_J1_ok n⟩⟩⟩⟩
theorem r4_ParseVerb_at : Tryz.prog.funcs[17]? = some Tryz.f17 := by kernel_rfl
theorem r4_ParseVerb_ent (n : Nat) : Enters Tryz.prog 17 := enters_of (c := bodyOf Tryz.f17) r4_ParseVerb_at (by kernel_rfl) (by kernel_rfl)
theorem r4_ParseVerb_E (n : Nat) (s : BA) : fnA tys (callees Out (r4_Verb_es n)) (r4_ParseVerb_hint n) n Tryz.f17 (encL (.pair .str .unit) (s, ())) [] (soloA fun v => some (.ret v)) (soloA fun v => some (.pan v)) = r4_ParseVerb_B n s (fun y => some (.ret (encR (.many (.pair (.pair (.int .i64) (.pair .str (.pair .bool (.pair (.pair .str (.pair .str .unit)) (.pair (.int .i64) .unit))))) (.pair (.int .i64) .unit))) y))) := by kernel_rfl
def r4_ParseVerb_en (n : Nat) : Entry := ⟨17, pcT (.pair .str .unit) (.many (.pair (.pair (.int .i64) (.pair .str (.pair .bool (.pair (.pair .str (.pair .str .unit)) (.pair (.int .i64) .unit))))) (.pair (.int .i64) .unit))) (fun xs => r4_ParseVerb n xs.1), none, none⟩
theorem r4_ParseVerb_ok (n : Nat) : EntryOk Tryz.prog gl (r4_ParseVerb_en n) :=
  pcT_ok (r4_ParseVerb_ent n) fun xs y h => ans_of_fn tys_ok (r4_Verb_es_ok n) mixed (hint := r4_ParseVerb_hint n) (n := n) (fn := Tryz.f17) r4_ParseVerb_at (runsC (r4_ParseVerb_runs n)) (run_ret (φ := (fun y => some (Out.ret (encR (.many (.pair (.pair (.int .i64) (.pair .str (.pair .bool (.pair (.pair .str (.pair .str .unit)) (.pair (.int .i64) .unit))))) (.pair (.int .i64) .unit))) y)))) ((r4_ParseVerb_E n xs.1).trans (r4_ParseVerb_N (R := (T0 × Int × Unit)) (S := Out) n xs.1 some (fun y => some (Out.ret (encR (.many (.pair (.pair (.int .i64) (.pair .str (.pair .bool (.pair (.pair .str (.pair .str .unit)) (.pair (.int .i64) .unit))))) (.pair (.int .i64) .unit))) y))))) h)
def r4_ParseVerb_es (n : Nat) : List Entry := r4_ParseVerb_en n :: r4_Verb_es n
theorem r4_ParseVerb_es_ok (n : Nat) : AllOk Tryz.prog gl (r4_ParseVerb_es n) := .cons (r4_ParseVerb_ok n) (r4_Verb_es_ok n)
/- pouch/pouchlaw5.num -/
def w5_num_B (n : Nat) {R : Type} (e : Int) (k : Int → Option R) : Option R :=
 k e
def w5_num (n : Nat) (e : Int) : Option Int := w5_num_B n e some
theorem w5_num_N (n : Nat) {R S : Type} (e : Int) (k : Int → Option R) (φ : R → Option S) : w5_num_B n e (fun a => (k a).bind φ) = (w5_num_B n e k).bind φ := by
  unfold w5_num_B
  first | (simp only [dup_self, both_self, iB, bB, oL, oX, nB]) | rfl
def w5_num_hint (n : Nat) : Hint Out := { live := fun c => [], run := fun c => none, xm := fun c q => none }
theorem w5_num_runs (n : Nat) : RunsOk tys (callees Out (r4_ParseVerb_es n)) (w5_num_hint n) n (bodyOf Tryz.f18) 0 := runs_noloop (fun _ => rfl) _ _ (by kernel_rfl)
theorem w5_num_at : Tryz.prog.funcs[18]? = some Tryz.f18 := by kernel_rfl
theorem w5_num_ent (n : Nat) : Enters Tryz.prog 18 := enters_of (c := bodyOf Tryz.f18) w5_num_at (by kernel_rfl) (by kernel_rfl)
theorem w5_num_E (n : Nat) (e : Int) : fnA tys (callees Out (r4_ParseVerb_es n)) (w5_num_hint n) n Tryz.f18 (encL (.pair (.int .i64) .unit) (e, ())) [] (soloA fun v => some (.ret v)) (soloA fun v => some (.pan v)) = w5_num_B n e (fun y => some (.ret (encR (.one (.int .i64)) y))) := by kernel_rfl
def w5_num_en (n : Nat) : Entry := ⟨18, pcT (.pair (.int .i64) .unit) (.one (.int .i64)) (fun xs => w5_num n xs.1), none, none⟩
theorem w5_num_ok (n : Nat) : EntryOk Tryz.prog gl (w5_num_en n) :=
  pcT_ok (w5_num_ent n) fun xs y h => ans_of_fn tys_ok (r4_ParseVerb_es_ok n) mixed (hint := w5_num_hint n) (n := n) (fn := Tryz.f18) w5_num_at (runsC (w5_num_runs n)) (run_ret (φ := (fun y => some (Out.ret (encR (.one (.int .i64)) y)))) ((w5_num_E n xs.1).trans (w5_num_N (R := Int) (S := Out) n xs.1 some (fun y => some (Out.ret (encR (.one (.int .i64)) y))))) h)
def w5_num_es (n : Nat) : List Entry := w5_num_en n :: r4_ParseVerb_es n
theorem w5_num_es_ok (n : Nat) : AllOk Tryz.prog gl (w5_num_es n) := .cons (w5_num_ok n) (r4_ParseVerb_es_ok n)
/- pouch/pouchlaw5.wakes -/
def w5_wakes_B (n : Nat) {R : Type} (k : Bool → Option R) : Option R :=
 (v_Parse n (⟨#[109, 97, 105, 108, 32, 102, 114, 111, 109, 58, 60, 62, 32, 115, 105, 122, 101, 61, 49, 48]⟩ : BA)).bind fun v =>
 (w5_num n v.2.1).bind fun v1 =>
 if (v1 == (0 : Int)) = true then
  k ((v.1.1 == (3 : Int)) && ((v.1.2.1.toList == (⟨#[]⟩ : BA).toList) && ((v.1.2.2.1 == true) && (((v.1.2.2.2.1.1.toList == (⟨#[]⟩ : BA).toList) && ((v.1.2.2.2.1.2.1.toList == (⟨#[]⟩ : BA).toList) && true)) && ((v.1.2.2.2.2.1 == (10 : Int)) && true)))))
 else
  k false
def w5_wakes (n : Nat) : Option Bool := w5_wakes_B n some
theorem w5_wakes_N (n : Nat) {R S : Type} (k : Bool → Option R) (φ : R → Option S) : w5_wakes_B n (fun a => (k a).bind φ) = (w5_wakes_B n k).bind φ := by
  unfold w5_wakes_B
  first | (simp only [dup_self, both_self, iB, bB, oL, oX, nB]) | rfl
def w5_wakes_hint (n : Nat) : Hint Out := { live := fun c => [], run := fun c => none, xm := fun c q => none }
theorem w5_wakes_runs (n : Nat) : RunsOk tys (callees Out (w5_num_es n)) (w5_wakes_hint n) n (bodyOf Tryz.f19) 0 := runs_noloop (fun _ => rfl) _ _ (by kernel_rfl)
theorem w5_wakes_at : Tryz.prog.funcs[19]? = some Tryz.f19 := by kernel_rfl
theorem w5_wakes_ent (n : Nat) : Enters Tryz.prog 19 := enters_of (c := bodyOf Tryz.f19) w5_wakes_at (by kernel_rfl) (by kernel_rfl)
theorem w5_wakes_E (n : Nat) : fnA tys (callees Out (w5_num_es n)) (w5_wakes_hint n) n Tryz.f19 (encL .unit ()) [] (soloA fun v => some (.ret v)) (soloA fun v => some (.pan v)) = w5_wakes_B n (fun y => some (.ret (encR (.one .bool) y))) := by kernel_rfl
def w5_wakes_en (n : Nat) : Entry := ⟨19, pcT .unit (.one .bool) (fun xs => w5_wakes n ), none, none⟩
theorem w5_wakes_ok (n : Nat) : EntryOk Tryz.prog gl (w5_wakes_en n) :=
  pcT_ok (w5_wakes_ent n) fun xs y h => ans_of_fn tys_ok (w5_num_es_ok n) mixed (hint := w5_wakes_hint n) (n := n) (fn := Tryz.f19) w5_wakes_at (runsC (w5_wakes_runs n)) (run_ret (φ := (fun y => some (Out.ret (encR (.one .bool) y)))) ((w5_wakes_E n ).trans (w5_wakes_N (R := Bool) (S := Out) n  some (fun y => some (Out.ret (encR (.one .bool) y))))) h)
def w5_wakes_es (n : Nat) : List Entry := w5_wakes_en n :: w5_num_es n
theorem w5_wakes_es_ok (n : Nat) : AllOk Tryz.prog gl (w5_wakes_es n) := .cons (w5_wakes_ok n) (w5_num_es_ok n)
/- pouch/pouchlaw5.VerbParses -/
def w5_VerbParses_B0 (n : Nat) {R : Type} (l1 : (Sq (T0 × (BA × (Int × Unit))))) (i : Int) (kn : (Sq (T0 × (BA × (Int × Unit)))) → Int → Option R) (ko : (Unit) → Option R) (kr : (Bool) → Option R) (kp : Int → Option R) : Option R :=
 if (decide (i < (l1.n : Int))) = true then
  if (decide (i < (15 : Int))) = true then
   if 0 ≤ i ∧ i < (l1.n : Int) then
    (w5_heavy n (((((l1.at' (Int.toNat i))).1).1, (((((l1.at' (Int.toNat i))).1).2).1, ((((((l1.at' (Int.toNat i))).1).2).2).1, (((((((((l1.at' (Int.toNat i))).1).2).2).2).1).1, (((((((((l1.at' (Int.toNat i))).1).2).2).2).1).2).1, ())), ((((((((l1.at' (Int.toNat i))).1).2).2).2).2).1, ()))))), ((((l1.at' (Int.toNat i))).2).1, (((((l1.at' (Int.toNat i))).2).2).1, ())))).bind fun v =>
    if v = true then
     kr true
    else
     if 0 ≤ i ∧ i < (l1.n : Int) then
      (v_Parse n ((((l1.at' (Int.toNat i))).2).1)).bind fun v1 =>
      if 0 ≤ i ∧ i < (l1.n : Int) then
       (r4_ParseVerb n ((((l1.at' (Int.toNat i))).2).1)).bind fun v2 =>
       (w5_num n v1.2.1).bind fun v3 =>
       if (v3 != v2.2.1) = false then
        if (!((v1.1.1 == v2.1.1) && ((v1.1.2.1.toList == v2.1.2.1.toList) && ((v1.1.2.2.1 == v2.1.2.2.1) && (((v1.1.2.2.2.1.1.toList == v2.1.2.2.2.1.1.toList) && ((v1.1.2.2.2.1.2.1.toList == v2.1.2.2.2.1.2.1.toList) && true)) && ((v1.1.2.2.2.2.1 == v2.1.2.2.2.2.1) && true)))))) = true then
         kr false
        else
         kn l1 (IntKind.wrap .i64 (i + (1 : Int)))
       else
        kr false
      else
       none
     else
      none
   else
    none
  else
   ko ()
 else
  ko ()
theorem w5_VerbParses_B0_N (n : Nat) {R S : Type} (l1 : (Sq (T0 × (BA × (Int × Unit))))) (i : Int) (kn : (Sq (T0 × (BA × (Int × Unit)))) → Int → Option R) (ko : (Unit) → Option R) (kr : (Bool) → Option R) (kp : Int → Option R) (φ : R → Option S) : w5_VerbParses_B0 n l1 i (fun l1 i => (kn l1 i).bind φ) (fun a => (ko a).bind φ) (fun a => (kr a).bind φ) (fun a => (kp a).bind φ) = (w5_VerbParses_B0 n l1 i kn ko kr kp).bind φ := by
  unfold w5_VerbParses_B0
  first | (simp only [dup_self, both_self, iB, bB, oL, oX, nB]) | rfl
def w5_VerbParses_L0 (n : Nat) : Nat → (Sq (T0 × (BA × (Int × Unit)))) → Int → Option (Lx (Unit) (Bool))
  | 0, _, _ => none
  | m + 1, l1, i => w5_VerbParses_B0 n l1 i (fun l1 i => w5_VerbParses_L0 n m l1 i) (fun a => some (.out a)) (fun a => some (.ret a)) (fun p => some (.pan p))
def w5_VerbParses_L0_sp : List Sl := .dat (.sl (.pair (.pair (.int .i64) (.pair .str (.pair .bool (.pair (.pair .str (.pair .str .unit)) (.pair (.int .i64) .unit))))) (.pair .str (.pair (.int .i64) .unit)))) :: .top :: .top :: .dat (.int .i64) :: tp 47 []
def w5_VerbParses_L0_rp : List RS := []
def w5_VerbParses_L0_out_sp : List Sl := tp 51 []
def w5_VerbParses_L0_out_rp : List RS := []
def w5_VerbParses_L0_ret_sp : List Sl := .top :: .top :: .dat .bool :: tp 48 []
def w5_VerbParses_L0_ret_rp : List RS := []
def w5_VerbParses_L0_K (K : XE → List AV → AHeap → Option Out) : Lx (Unit) (Bool) → Option Out := fun x => onL x (fun a => layK w5_VerbParses_L0_out_sp w5_VerbParses_L0_out_rp () () (K (.exit 0))) (fun a => layK w5_VerbParses_L0_ret_sp w5_VerbParses_L0_ret_rp (a, ()) () (K .ret)) (fun _ => none)
def w5_VerbParses_B (n : Nat) {R : Type} (l : (Sq (T0 × (BA × (Int × Unit))))) (k : Bool → Option R) : Option R :=
 (w5_VerbParses_L0 n n l (0 : Int)).bind fun x_1 => onL x_1
  (fun a_2 =>
   (w5_wakes n).bind fun v4 =>
   k v4)
  (fun a_3 =>
   k a_3)
  (fun _ => none)
def w5_VerbParses (n : Nat) (l : (Sq (T0 × (BA × (Int × Unit))))) : Option Bool := w5_VerbParses_B n l some
theorem w5_VerbParses_N (n : Nat) {R S : Type} (l : (Sq (T0 × (BA × (Int × Unit))))) (k : Bool → Option R) (φ : R → Option S) : w5_VerbParses_B n l (fun a => (k a).bind φ) = (w5_VerbParses_B n l k).bind φ := by
  unfold w5_VerbParses_B
  first | (simp only [dup_self, both_self, iB, bB, oL, oX, nB]) | rfl
def w5_VerbParses_hint (n : Nat) : Hint Out := { live := fun c => (cond (Nat.beq c 0) [(0, some (.sl (.pair (.pair (.int .i64) (.pair .str (.pair .bool (.pair (.pair .str (.pair .str .unit)) (.pair (.int .i64) .unit))))) (.pair .str (.pair (.int .i64) .unit))))), (3, none)] []), run := fun c => (cond (Nat.beq c 0) (some (runL w5_VerbParses_L0_sp w5_VerbParses_L0_rp fun σ ρ K => (w5_VerbParses_L0 n n σ.1 σ.2.1).bind (w5_VerbParses_L0_K K))) none), xm := fun c q => (cond (Nat.beq c 0 && Nat.beq (q.getD 1000000) 0 && q.isSome) (some []) (cond (Nat.beq c 1 && q.isNone) (some [(2, none)]) none)) }
def w5_VerbParses_L0_I (n : Nat) (K : XE → List AV → AHeap → Option Out) (m : Nat) (l1 : (Sq (T0 × (BA × (Int × Unit))))) (i : Int) : Option Out := loopI tys (callees Out (w5_wakes_es n)) (w5_VerbParses_hint n) n (codeAt [1, 0, 1, 0, 0] (bodyOf Tryz.f3)) 0 w5_VerbParses_L0_sp w5_VerbParses_L0_rp K m (l1, (i, ())) ()
theorem w5_VerbParses_L0_E (n : Nat) (K : XE → List AV → AHeap → Option Out) : ∀ (m : Nat) (l1 : (Sq (T0 × (BA × (Int × Unit))))) (i : Int), w5_VerbParses_L0_I n K m l1 i = (w5_VerbParses_L0 n m l1 i).bind (w5_VerbParses_L0_K K)
  | 0, l1, i => by kernel_rfl
  | m + 1, l1, i => by
    have h1 : w5_VerbParses_L0_I n K (m + 1) l1 i = w5_VerbParses_B0 n l1 i (fun l1 i => w5_VerbParses_L0_I n K m l1 i) (fun a => w5_VerbParses_L0_K K (.out a)) (fun a => w5_VerbParses_L0_K K (.ret a)) (fun p => w5_VerbParses_L0_K K (.pan p)) := by kernel_rfl
    have h2 : (fun l1 i => w5_VerbParses_L0_I n K m l1 i) = (fun l1 i => (w5_VerbParses_L0 n m l1 i).bind (w5_VerbParses_L0_K K)) := funext fun l1 => funext fun i => w5_VerbParses_L0_E n K m l1 i
    exact h1.trans ((congrArg (fun z => w5_VerbParses_B0 n l1 i z (fun a => w5_VerbParses_L0_K K (.out a)) (fun a => w5_VerbParses_L0_K K (.ret a)) (fun p => w5_VerbParses_L0_K K (.pan p))) h2).trans (w5_VerbParses_B0_N n l1 i (fun l1 i => w5_VerbParses_L0 n m l1 i) (fun a => some (.out a)) (fun a => some (.ret a)) (fun p => some (.pan p)) (w5_VerbParses_L0_K K)))
theorem w5_VerbParses_L0_ok (n : Nat) : RunOk tys (callees Out (w5_wakes_es n)) (w5_VerbParses_hint n) n (codeAt [1, 0, 1, 0, 0] (bodyOf Tryz.f3)) 0 := runOk_of (sp := w5_VerbParses_L0_sp) (rp := w5_VerbParses_L0_rp) (F := fun σ ρ K => (w5_VerbParses_L0 n n σ.1 σ.2.1).bind (w5_VerbParses_L0_K K)) (by kernel_rfl) fun K σ ρ => w5_VerbParses_L0_E n K n σ.1 σ.2.1
theorem w5_VerbParses_runs (n : Nat) : RunsOk tys (callees Out (w5_wakes_es n)) (w5_VerbParses_hint n) n (bodyOf Tryz.f3) 0 := ⟨trivial, ⟨⟨trivial, ⟨w5_VerbParses_L0_ok n, ⟨⟨trivial, ⟨trivial, trivial⟩⟩, ⟨⟨⟨trivial, ⟨⟨trivial, trivial⟩, trivial⟩⟩, ⟨trivial, ⟨trivial, ⟨trivial, ⟨⟨trivial, trivial⟩, trivial⟩⟩⟩⟩⟩, trivial⟩⟩⟩⟩, ⟨trivial, trivial⟩⟩⟩
theorem w5_VerbParses_at : Tryz.prog.funcs[3]? = some Tryz.f3 := by kernel_rfl
theorem w5_VerbParses_ent (n : Nat) : Enters Tryz.prog 3 := enters_of (c := bodyOf Tryz.f3) w5_VerbParses_at (by kernel_rfl) (by kernel_rfl)
theorem w5_VerbParses_E (n : Nat) (l : (Sq (T0 × (BA × (Int × Unit))))) : fnA tys (callees Out (w5_wakes_es n)) (w5_VerbParses_hint n) n Tryz.f3 (encL (.pair (.sl (.pair (.pair (.int .i64) (.pair .str (.pair .bool (.pair (.pair .str (.pair .str .unit)) (.pair (.int .i64) .unit))))) (.pair .str (.pair (.int .i64) .unit)))) .unit) (l, ())) [] (soloA fun v => some (.ret v)) (soloA fun v => some (.pan v)) = w5_VerbParses_B n l (fun y => some (.ret (encR (.one .bool) y))) := by kernel_rfl
def w5_VerbParses_en (n : Nat) : Entry := ⟨3, pcT (.pair (.sl (.pair (.pair (.int .i64) (.pair .str (.pair .bool (.pair (.pair .str (.pair .str .unit)) (.pair (.int .i64) .unit))))) (.pair .str (.pair (.int .i64) .unit)))) .unit) (.one .bool) (fun xs => w5_VerbParses n xs.1), none, none⟩
theorem w5_VerbParses_ok (n : Nat) : EntryOk Tryz.prog gl (w5_VerbParses_en n) :=
  pcT_ok (w5_VerbParses_ent n) fun xs y h => ans_of_fn tys_ok (w5_wakes_es_ok n) mixed (hint := w5_VerbParses_hint n) (n := n) (fn := Tryz.f3) w5_VerbParses_at (runsC (w5_VerbParses_runs n)) (run_ret (φ := (fun y => some (Out.ret (encR (.one .bool) y)))) ((w5_VerbParses_E n xs.1).trans (w5_VerbParses_N (R := Bool) (S := Out) n xs.1 some (fun y => some (Out.ret (encR (.one .bool) y))))) h)
def w5_VerbParses_es (n : Nat) : List Entry := w5_VerbParses_en n :: w5_wakes_es n
theorem w5_VerbParses_es_ok (n : Nat) : AllOk Tryz.prog gl (w5_VerbParses_es n) := .cons (w5_VerbParses_ok n) (w5_wakes_es_ok n)
/- pouch/pouchref4.Text -/
def r4_Text_B (n : Nat) {R : Type} (m0 : (BA × (BA × Unit))) (k : BA → Option R) : Option R :=
 if strFits m0.1 (⟨#[64]⟩ : BA) = true then
  if strFits (m0.1 ++ (⟨#[64]⟩ : BA)) m0.2.1 = true then
   k ((m0.1 ++ (⟨#[64]⟩ : BA)) ++ m0.2.1)
  else
   none
 else
  none
def r4_Text (n : Nat) (m0 : (BA × (BA × Unit))) : Option BA := r4_Text_B n m0 some
theorem r4_Text_N (n : Nat) {R S : Type} (m0 : (BA × (BA × Unit))) (k : BA → Option R) (φ : R → Option S) : r4_Text_B n m0 (fun a => (k a).bind φ) = (r4_Text_B n m0 k).bind φ := by
  unfold r4_Text_B
  first | (simp only [dup_self, both_self, iB, bB, oL, oX, nB]) | rfl
def r4_Text_hint (n : Nat) : Hint Out := { live := fun c => [], run := fun c => none, xm := fun c q => none }
theorem r4_Text_runs (n : Nat) : RunsOk tys (callees Out (w5_VerbParses_es n)) (r4_Text_hint n) n (bodyOf Tryz.f41) 0 := runs_noloop (fun _ => rfl) _ _ (by kernel_rfl)
theorem r4_Text_at : Tryz.prog.funcs[41]? = some Tryz.f41 := by kernel_rfl
theorem r4_Text_ent (n : Nat) : Enters Tryz.prog 41 := enters_of (c := bodyOf Tryz.f41) r4_Text_at (by kernel_rfl) (by kernel_rfl)
theorem r4_Text_E (n : Nat) (m0 : (BA × (BA × Unit))) : fnA tys (callees Out (w5_VerbParses_es n)) (r4_Text_hint n) n Tryz.f41 (encL (.pair (.pair .str (.pair .str .unit)) .unit) (m0, ())) [] (soloA fun v => some (.ret v)) (soloA fun v => some (.pan v)) = r4_Text_B n m0 (fun y => some (.ret (encR (.one .str) y))) := by kernel_rfl
def r4_Text_en (n : Nat) : Entry := ⟨41, pcT (.pair (.pair .str (.pair .str .unit)) .unit) (.one .str) (fun xs => r4_Text n xs.1), none, none⟩
theorem r4_Text_ok (n : Nat) : EntryOk Tryz.prog gl (r4_Text_en n) :=
  pcT_ok (r4_Text_ent n) fun xs y h => ans_of_fn tys_ok (w5_VerbParses_es_ok n) mixed (hint := r4_Text_hint n) (n := n) (fn := Tryz.f41) r4_Text_at (runsC (r4_Text_runs n)) (run_ret (φ := (fun y => some (Out.ret (encR (.one .str) y)))) ((r4_Text_E n xs.1).trans (r4_Text_N (R := BA) (S := Out) n xs.1 some (fun y => some (Out.ret (encR (.one .str) y))))) h)
def r4_Text_es (n : Nat) : List Entry := r4_Text_en n :: w5_VerbParses_es n
theorem r4_Text_es_ok (n : Nat) : AllOk Tryz.prog gl (r4_Text_es n) := .cons (r4_Text_ok n) (w5_VerbParses_es_ok n)
/- pouch/pouchref0.Decimal -/
def r0_Decimal_B0 (n : Nat) {R : Type} (n01 : Int) (s : BA) (kn : Int → BA → Option R) (ko : (Int × BA) → Option R) (kr : Unit → Option R) (kp : Int → Option R) : Option R :=
 if (decide (n01 ≥ (10 : Int))) = true then
  if strFits (strOf 1 (fun q => List.getD (α := Int) [(IntKind.wrap .u8 (IntKind.wrap .i64 ((48 : Int) + (Int.tmod n01 (10 : Int)))))] q (zeroEl (.int .u8)))) s = true then
   kn (IntKind.wrap .i64 (Int.tdiv n01 (10 : Int))) ((strOf 1 (fun q => List.getD (α := Int) [(IntKind.wrap .u8 (IntKind.wrap .i64 ((48 : Int) + (Int.tmod n01 (10 : Int)))))] q (zeroEl (.int .u8)))) ++ s)
  else
   none
 else
  ko (n01, s)
theorem r0_Decimal_B0_N (n : Nat) {R S : Type} (n01 : Int) (s : BA) (kn : Int → BA → Option R) (ko : (Int × BA) → Option R) (kr : Unit → Option R) (kp : Int → Option R) (φ : R → Option S) : r0_Decimal_B0 n n01 s (fun n01 s => (kn n01 s).bind φ) (fun a => (ko a).bind φ) (fun a => (kr a).bind φ) (fun a => (kp a).bind φ) = (r0_Decimal_B0 n n01 s kn ko kr kp).bind φ := by
  unfold r0_Decimal_B0
  first | (simp only [dup_self, both_self, iB, bB, oL, oX, nB]) | rfl
def r0_Decimal_L0 (n : Nat) : Nat → Int → BA → Option (Lx (Int × BA) Unit)
  | 0, _, _ => none
  | m + 1, n01, s => r0_Decimal_B0 n n01 s (fun n01 s => r0_Decimal_L0 n m n01 s) (fun a => some (.out a)) (fun a => some (.ret a)) (fun p => some (.pan p))
def r0_Decimal_L0_sp : List Sl := .dat (.int .i64) :: .top :: .top :: .dat .str :: tp 25 []
def r0_Decimal_L0_rp : List RS := []
def r0_Decimal_L0_out_sp : List Sl := .dat (.int .i64) :: .top :: .top :: .dat .str :: tp 25 []
def r0_Decimal_L0_out_rp : List RS := []
def r0_Decimal_L0_K (K : XE → List AV → AHeap → Option Out) : Lx (Int × BA) Unit → Option Out := fun x => onL x (fun a => layK r0_Decimal_L0_out_sp r0_Decimal_L0_out_rp (a.1, (a.2, ())) () (K (.exit 0))) (fun _ => none) (fun _ => none)
def r0_Decimal_B (n : Nat) {R : Type} (n0 : Int) (k : BA → Option R) : Option R :=
 if (decide (n0 < (0 : Int))) = true then
  none
 else
  (r0_Decimal_L0 n n n0 (⟨#[]⟩ : BA)).bind fun x_1 => onL x_1
   (fun a_2 =>
    if strFits (strOf 1 (fun q => List.getD (α := Int) [(IntKind.wrap .u8 (IntKind.wrap .i64 ((48 : Int) + a_2.1)))] q (zeroEl (.int .u8)))) a_2.2 = true then
     k ((strOf 1 (fun q => List.getD (α := Int) [(IntKind.wrap .u8 (IntKind.wrap .i64 ((48 : Int) + a_2.1)))] q (zeroEl (.int .u8)))) ++ a_2.2)
    else
     none)
   (fun _ => none)
   (fun _ => none)
def r0_Decimal (n : Nat) (n0 : Int) : Option BA := r0_Decimal_B n n0 some
theorem r0_Decimal_N (n : Nat) {R S : Type} (n0 : Int) (k : BA → Option R) (φ : R → Option S) : r0_Decimal_B n n0 (fun a => (k a).bind φ) = (r0_Decimal_B n n0 k).bind φ := by
  unfold r0_Decimal_B
  first | (simp only [dup_self, both_self, iB, bB, oL, oX, nB]) | rfl
def r0_Decimal_hint (n : Nat) : Hint Out := { live := fun c => (cond (Nat.beq c 0) [(0, none), (3, none)] []), run := fun c => (cond (Nat.beq c 0) (some (runL r0_Decimal_L0_sp r0_Decimal_L0_rp fun σ ρ K => (r0_Decimal_L0 n n σ.1 σ.2.1).bind (r0_Decimal_L0_K K))) none), xm := fun c q => (cond (Nat.beq c 0 && Nat.beq (q.getD 1000000) 0 && q.isSome) (some [(0, none), (3, none)]) none) }
def r0_Decimal_L0_I (n : Nat) (K : XE → List AV → AHeap → Option Out) (m : Nat) (n01 : Int) (s : BA) : Option Out := loopI tys (callees Out (r4_Text_es n)) (r0_Decimal_hint n) n (codeAt [1, 1, 1, 0, 0, 0] (bodyOf Tryz.f42)) 0 r0_Decimal_L0_sp r0_Decimal_L0_rp K m (n01, (s, ())) ()
theorem r0_Decimal_L0_E (n : Nat) (K : XE → List AV → AHeap → Option Out) : ∀ (m : Nat) (n01 : Int) (s : BA), r0_Decimal_L0_I n K m n01 s = (r0_Decimal_L0 n m n01 s).bind (r0_Decimal_L0_K K)
  | 0, n01, s => by kernel_rfl
  | m + 1, n01, s => by
    have h1 : r0_Decimal_L0_I n K (m + 1) n01 s = r0_Decimal_B0 n n01 s (fun n01 s => r0_Decimal_L0_I n K m n01 s) (fun a => r0_Decimal_L0_K K (.out a)) (fun a => r0_Decimal_L0_K K (.ret a)) (fun p => r0_Decimal_L0_K K (.pan p)) := by kernel_rfl
    have h2 : (fun n01 s => r0_Decimal_L0_I n K m n01 s) = (fun n01 s => (r0_Decimal_L0 n m n01 s).bind (r0_Decimal_L0_K K)) := funext fun n01 => funext fun s => r0_Decimal_L0_E n K m n01 s
    exact h1.trans ((congrArg (fun z => r0_Decimal_B0 n n01 s z (fun a => r0_Decimal_L0_K K (.out a)) (fun a => r0_Decimal_L0_K K (.ret a)) (fun p => r0_Decimal_L0_K K (.pan p))) h2).trans (r0_Decimal_B0_N n n01 s (fun n01 s => r0_Decimal_L0 n m n01 s) (fun a => some (.out a)) (fun a => some (.ret a)) (fun p => some (.pan p)) (r0_Decimal_L0_K K)))
theorem r0_Decimal_L0_ok (n : Nat) : RunOk tys (callees Out (r4_Text_es n)) (r0_Decimal_hint n) n (codeAt [1, 1, 1, 0, 0, 0] (bodyOf Tryz.f42)) 0 := runOk_of (sp := r0_Decimal_L0_sp) (rp := r0_Decimal_L0_rp) (F := fun σ ρ K => (r0_Decimal_L0 n n σ.1 σ.2.1).bind (r0_Decimal_L0_K K)) (by kernel_rfl) fun K σ ρ => r0_Decimal_L0_E n K n σ.1 σ.2.1
theorem r0_Decimal_runs (n : Nat) : RunsOk tys (callees Out (r4_Text_es n)) (r0_Decimal_hint n) n (bodyOf Tryz.f42) 0 := ⟨trivial, ⟨⟨trivial, ⟨⟨trivial, trivial⟩, trivial⟩⟩, ⟨trivial, ⟨⟨r0_Decimal_L0_ok n, ⟨⟨trivial, ⟨trivial, trivial⟩⟩, ⟨trivial, trivial⟩⟩⟩, ⟨trivial, trivial⟩⟩⟩⟩⟩
theorem r0_Decimal_at : Tryz.prog.funcs[42]? = some Tryz.f42 := by kernel_rfl
theorem r0_Decimal_ent (n : Nat) : Enters Tryz.prog 42 := enters_of (c := bodyOf Tryz.f42) r0_Decimal_at (by kernel_rfl) (by kernel_rfl)
theorem r0_Decimal_E (n : Nat) (n0 : Int) : fnA tys (callees Out (r4_Text_es n)) (r0_Decimal_hint n) n Tryz.f42 (encL (.pair (.int .i64) .unit) (n0, ())) [] (soloA fun v => some (.ret v)) (soloA fun v => some (.pan v)) = r0_Decimal_B n n0 (fun y => some (.ret (encR (.one .str) y))) := by kernel_rfl
def r0_Decimal_en (n : Nat) : Entry := ⟨42, pcT (.pair (.int .i64) .unit) (.one .str) (fun xs => r0_Decimal n xs.1), none, none⟩
theorem r0_Decimal_ok (n : Nat) : EntryOk Tryz.prog gl (r0_Decimal_en n) :=
  pcT_ok (r0_Decimal_ent n) fun xs y h => ans_of_fn tys_ok (r4_Text_es_ok n) mixed (hint := r0_Decimal_hint n) (n := n) (fn := Tryz.f42) r0_Decimal_at (runsC (r0_Decimal_runs n)) (run_ret (φ := (fun y => some (Out.ret (encR (.one .str) y)))) ((r0_Decimal_E n xs.1).trans (r0_Decimal_N (R := BA) (S := Out) n xs.1 some (fun y => some (Out.ret (encR (.one .str) y))))) h)
def r0_Decimal_es (n : Nat) : List Entry := r0_Decimal_en n :: r4_Text_es n
theorem r0_Decimal_es_ok (n : Nat) : AllOk Tryz.prog gl (r0_Decimal_es n) := .cons (r0_Decimal_ok n) (r4_Text_es_ok n)
/- pouch/pouchref4.VerbText -/
def r4_VerbText_B (n : Nat) {R : Type} (v : T0) (k : BA → Option R) : Option R :=
 (r4_name n v.1).bind fun v1 =>
 if (v.1 == (3 : Int)) = true then
  if strFits v1 (⟨#[32, 70, 82, 79, 77, 58, 60]⟩ : BA) = true then
   if (!v.2.2.1) = true then
    (r4_Text n (v.2.2.2.1.1, (v.2.2.2.1.2.1, ()))).bind fun v2 =>
    if strFits (v1 ++ (⟨#[32, 70, 82, 79, 77, 58, 60]⟩ : BA)) v2 = true then
     if strFits ((v1 ++ (⟨#[32, 70, 82, 79, 77, 58, 60]⟩ : BA)) ++ v2) (⟨#[62]⟩ : BA) = true then
      if (decide (v.2.2.2.2.1 ≥ (0 : Int))) = true then
       if strFits (((v1 ++ (⟨#[32, 70, 82, 79, 77, 58, 60]⟩ : BA)) ++ v2) ++ (⟨#[62]⟩ : BA)) (⟨#[32, 83, 73, 90, 69, 61]⟩ : BA) = true then
        (r0_Decimal n v.2.2.2.2.1).bind fun v3 =>
        if strFits ((((v1 ++ (⟨#[32, 70, 82, 79, 77, 58, 60]⟩ : BA)) ++ v2) ++ (⟨#[62]⟩ : BA)) ++ (⟨#[32, 83, 73, 90, 69, 61]⟩ : BA)) v3 = true then
         k (((((v1 ++ (⟨#[32, 70, 82, 79, 77, 58, 60]⟩ : BA)) ++ v2) ++ (⟨#[62]⟩ : BA)) ++ (⟨#[32, 83, 73, 90, 69, 61]⟩ : BA)) ++ v3)
        else
         none
       else
        none
      else
       k (((v1 ++ (⟨#[32, 70, 82, 79, 77, 58, 60]⟩ : BA)) ++ v2) ++ (⟨#[62]⟩ : BA))
     else
      none
    else
     none
   else
    if strFits (v1 ++ (⟨#[32, 70, 82, 79, 77, 58, 60]⟩ : BA)) (⟨#[62]⟩ : BA) = true then
     if (decide (v.2.2.2.2.1 ≥ (0 : Int))) = true then
      if strFits ((v1 ++ (⟨#[32, 70, 82, 79, 77, 58, 60]⟩ : BA)) ++ (⟨#[62]⟩ : BA)) (⟨#[32, 83, 73, 90, 69, 61]⟩ : BA) = true then
       (r0_Decimal n v.2.2.2.2.1).bind fun v4 =>
       if strFits (((v1 ++ (⟨#[32, 70, 82, 79, 77, 58, 60]⟩ : BA)) ++ (⟨#[62]⟩ : BA)) ++ (⟨#[32, 83, 73, 90, 69, 61]⟩ : BA)) v4 = true then
        k ((((v1 ++ (⟨#[32, 70, 82, 79, 77, 58, 60]⟩ : BA)) ++ (⟨#[62]⟩ : BA)) ++ (⟨#[32, 83, 73, 90, 69, 61]⟩ : BA)) ++ v4)
       else
        none
      else
       none
     else
      k ((v1 ++ (⟨#[32, 70, 82, 79, 77, 58, 60]⟩ : BA)) ++ (⟨#[62]⟩ : BA))
    else
     none
  else
   none
 else
  if (v.1 == (4 : Int)) = true then
   if strFits v1 (⟨#[32, 84, 79, 58, 60]⟩ : BA) = true then
    (r4_Text n (v.2.2.2.1.1, (v.2.2.2.1.2.1, ()))).bind fun v5 =>
    if strFits (v1 ++ (⟨#[32, 84, 79, 58, 60]⟩ : BA)) v5 = true then
     if strFits ((v1 ++ (⟨#[32, 84, 79, 58, 60]⟩ : BA)) ++ v5) (⟨#[62]⟩ : BA) = true then
      k (((v1 ++ (⟨#[32, 84, 79, 58, 60]⟩ : BA)) ++ v5) ++ (⟨#[62]⟩ : BA))
     else
      none
    else
     none
   else
    none
  else
   if (!(v.2.1.toList == (⟨#[]⟩ : BA).toList)) = true then
    if strFits v1 (⟨#[32]⟩ : BA) = true then
     if strFits (v1 ++ (⟨#[32]⟩ : BA)) v.2.1 = true then
      k ((v1 ++ (⟨#[32]⟩ : BA)) ++ v.2.1)
     else
      none
    else
     none
   else
    k v1
def r4_VerbText (n : Nat) (v : T0) : Option BA := r4_VerbText_B n v some
theorem r4_VerbText_N (n : Nat) {R S : Type} (v : T0) (k : BA → Option R) (φ : R → Option S) : r4_VerbText_B n v (fun a => (k a).bind φ) = (r4_VerbText_B n v k).bind φ := by
  unfold r4_VerbText_B
  first | (simp only [dup_self, both_self, iB, bB, oL, oX, nB]) | rfl
def r4_VerbText_hint (n : Nat) : Hint Out := { live := fun c => [], run := fun c => none, xm := fun c q => none }
theorem r4_VerbText_runs (n : Nat) : RunsOk tys (callees Out (r0_Decimal_es n)) (r4_VerbText_hint n) n (bodyOf Tryz.f23) 0 := runs_noloop (fun _ => rfl) _ _ (by kernel_rfl)
theorem r4_VerbText_at : Tryz.prog.funcs[23]? = some Tryz.f23 := by kernel_rfl
theorem r4_VerbText_ent (n : Nat) : Enters Tryz.prog 23 := enters_of (c := bodyOf Tryz.f23) r4_VerbText_at (by kernel_rfl) (by kernel_rfl)
theorem r4_VerbText_E (n : Nat) (v : T0) : fnA tys (callees Out (r0_Decimal_es n)) (r4_VerbText_hint n) n Tryz.f23 (encL (.pair (.pair (.int .i64) (.pair .str (.pair .bool (.pair (.pair .str (.pair .str .unit)) (.pair (.int .i64) .unit))))) .unit) (v, ())) [] (soloA fun v => some (.ret v)) (soloA fun v => some (.pan v)) = r4_VerbText_B n v (fun y => some (.ret (encR (.one .str) y))) := by kernel_rfl
def r4_VerbText_en (n : Nat) : Entry := ⟨23, pcT (.pair (.pair (.int .i64) (.pair .str (.pair .bool (.pair (.pair .str (.pair .str .unit)) (.pair (.int .i64) .unit))))) .unit) (.one .str) (fun xs => r4_VerbText n xs.1), none, none⟩
theorem r4_VerbText_ok (n : Nat) : EntryOk Tryz.prog gl (r4_VerbText_en n) :=
  pcT_ok (r4_VerbText_ent n) fun xs y h => ans_of_fn tys_ok (r0_Decimal_es_ok n) mixed (hint := r4_VerbText_hint n) (n := n) (fn := Tryz.f23) r4_VerbText_at (runsC (r4_VerbText_runs n)) (run_ret (φ := (fun y => some (Out.ret (encR (.one .str) y)))) ((r4_VerbText_E n xs.1).trans (r4_VerbText_N (R := BA) (S := Out) n xs.1 some (fun y => some (Out.ret (encR (.one .str) y))))) h)
def r4_VerbText_es (n : Nat) : List Entry := r4_VerbText_en n :: r0_Decimal_es n
theorem r4_VerbText_es_ok (n : Nat) : AllOk Tryz.prog gl (r4_VerbText_es n) := .cons (r4_VerbText_ok n) (r0_Decimal_es_ok n)
/- pouch/verb.Text -/
def v_Text_B (n : Nat) {R : Type} (v : T0) (k : (BA × Int × Unit) → Option R) : Option R :=
 (v_May n (v.1, (v.2.1, (v.2.2.1, ((v.2.2.2.1.1, (v.2.2.2.1.2.1, ())), (v.2.2.2.2.1, ())))))).bind fun v1 =>
 if (!v1) = true then
  k ((⟨#[]⟩ : BA), ((1 : Int), ()))
 else
  (v_names n v.1).bind fun v2 =>
  if (v.1 == (3 : Int)) = true then
   if v.2.2.1 = true then
    if strFits v2 (⟨#[32, 70, 82, 79, 77, 58, 60, 62]⟩ : BA) = true then
     if (v.1 == (3 : Int)) = true then
      if (decide (v.2.2.2.2.1 ≥ (0 : Int))) = true then
       (itoaF v.2.2.2.2.1).bind fun v3 =>
       if strFits (⟨#[32, 83, 73, 90, 69, 61]⟩ : BA) v3 = true then
        if strFits (v2 ++ (⟨#[32, 70, 82, 79, 77, 58, 60, 62]⟩ : BA)) ((⟨#[32, 83, 73, 90, 69, 61]⟩ : BA) ++ v3) = true then
         k (((v2 ++ (⟨#[32, 70, 82, 79, 77, 58, 60, 62]⟩ : BA)) ++ ((⟨#[32, 83, 73, 90, 69, 61]⟩ : BA) ++ v3)), ((0 : Int), ()))
        else
         none
       else
        none
      else
       k ((v2 ++ (⟨#[32, 70, 82, 79, 77, 58, 60, 62]⟩ : BA)), ((0 : Int), ()))
     else
      k ((v2 ++ (⟨#[32, 70, 82, 79, 77, 58, 60, 62]⟩ : BA)), ((0 : Int), ()))
    else
     none
   else
    if (v.1 == (3 : Int)) = true then
     (ad_Lay n (v.2.2.2.1.1, (v.2.2.2.1.2.1, ()))).bind fun v4 =>
     if strFits (⟨#[32, 70, 82, 79, 77, 58, 60]⟩ : BA) v4 = true then
      if strFits ((⟨#[32, 70, 82, 79, 77, 58, 60]⟩ : BA) ++ v4) (⟨#[62]⟩ : BA) = true then
       if strFits v2 (((⟨#[32, 70, 82, 79, 77, 58, 60]⟩ : BA) ++ v4) ++ (⟨#[62]⟩ : BA)) = true then
        if (v.1 == (3 : Int)) = true then
         if (decide (v.2.2.2.2.1 ≥ (0 : Int))) = true then
          (itoaF v.2.2.2.2.1).bind fun v5 =>
          if strFits (⟨#[32, 83, 73, 90, 69, 61]⟩ : BA) v5 = true then
           if strFits (v2 ++ (((⟨#[32, 70, 82, 79, 77, 58, 60]⟩ : BA) ++ v4) ++ (⟨#[62]⟩ : BA))) ((⟨#[32, 83, 73, 90, 69, 61]⟩ : BA) ++ v5) = true then
            k (((v2 ++ (((⟨#[32, 70, 82, 79, 77, 58, 60]⟩ : BA) ++ v4) ++ (⟨#[62]⟩ : BA))) ++ ((⟨#[32, 83, 73, 90, 69, 61]⟩ : BA) ++ v5)), ((0 : Int), ()))
           else
            none
          else
           none
         else
          k ((v2 ++ (((⟨#[32, 70, 82, 79, 77, 58, 60]⟩ : BA) ++ v4) ++ (⟨#[62]⟩ : BA))), ((0 : Int), ()))
        else
         k ((v2 ++ (((⟨#[32, 70, 82, 79, 77, 58, 60]⟩ : BA) ++ v4) ++ (⟨#[62]⟩ : BA))), ((0 : Int), ()))
       else
        none
      else
       none
     else
      none
    else
     if (v.1 == (4 : Int)) = true then
      (ad_Lay n (v.2.2.2.1.1, (v.2.2.2.1.2.1, ()))).bind fun v6 =>
      if strFits (⟨#[32, 84, 79, 58, 60]⟩ : BA) v6 = true then
       if strFits ((⟨#[32, 84, 79, 58, 60]⟩ : BA) ++ v6) (⟨#[62]⟩ : BA) = true then
        if strFits v2 (((⟨#[32, 84, 79, 58, 60]⟩ : BA) ++ v6) ++ (⟨#[62]⟩ : BA)) = true then
         if (v.1 == (3 : Int)) = true then
          if (decide (v.2.2.2.2.1 ≥ (0 : Int))) = true then
           (itoaF v.2.2.2.2.1).bind fun v7 =>
           if strFits (⟨#[32, 83, 73, 90, 69, 61]⟩ : BA) v7 = true then
            if strFits (v2 ++ (((⟨#[32, 84, 79, 58, 60]⟩ : BA) ++ v6) ++ (⟨#[62]⟩ : BA))) ((⟨#[32, 83, 73, 90, 69, 61]⟩ : BA) ++ v7) = true then
             k (((v2 ++ (((⟨#[32, 84, 79, 58, 60]⟩ : BA) ++ v6) ++ (⟨#[62]⟩ : BA))) ++ ((⟨#[32, 83, 73, 90, 69, 61]⟩ : BA) ++ v7)), ((0 : Int), ()))
            else
             none
           else
            none
          else
           k ((v2 ++ (((⟨#[32, 84, 79, 58, 60]⟩ : BA) ++ v6) ++ (⟨#[62]⟩ : BA))), ((0 : Int), ()))
         else
          k ((v2 ++ (((⟨#[32, 84, 79, 58, 60]⟩ : BA) ++ v6) ++ (⟨#[62]⟩ : BA))), ((0 : Int), ()))
        else
         none
       else
        none
      else
       none
     else
      if (!(v.2.1.toList == (⟨#[]⟩ : BA).toList)) = true then
       if strFits (⟨#[32]⟩ : BA) v.2.1 = true then
        if strFits v2 ((⟨#[32]⟩ : BA) ++ v.2.1) = true then
         if (v.1 == (3 : Int)) = true then
          if (decide (v.2.2.2.2.1 ≥ (0 : Int))) = true then
           (itoaF v.2.2.2.2.1).bind fun v8 =>
           if strFits (⟨#[32, 83, 73, 90, 69, 61]⟩ : BA) v8 = true then
            if strFits (v2 ++ ((⟨#[32]⟩ : BA) ++ v.2.1)) ((⟨#[32, 83, 73, 90, 69, 61]⟩ : BA) ++ v8) = true then
             k (((v2 ++ ((⟨#[32]⟩ : BA) ++ v.2.1)) ++ ((⟨#[32, 83, 73, 90, 69, 61]⟩ : BA) ++ v8)), ((0 : Int), ()))
            else
             none
           else
            none
          else
           k ((v2 ++ ((⟨#[32]⟩ : BA) ++ v.2.1)), ((0 : Int), ()))
         else
          k ((v2 ++ ((⟨#[32]⟩ : BA) ++ v.2.1)), ((0 : Int), ()))
        else
         none
       else
        none
      else
       if (v.1 == (3 : Int)) = true then
        if (decide (v.2.2.2.2.1 ≥ (0 : Int))) = true then
         (itoaF v.2.2.2.2.1).bind fun v9 =>
         if strFits (⟨#[32, 83, 73, 90, 69, 61]⟩ : BA) v9 = true then
          if strFits v2 ((⟨#[32, 83, 73, 90, 69, 61]⟩ : BA) ++ v9) = true then
           k ((v2 ++ ((⟨#[32, 83, 73, 90, 69, 61]⟩ : BA) ++ v9)), ((0 : Int), ()))
          else
           none
         else
          none
        else
         k (v2, ((0 : Int), ()))
       else
        k (v2, ((0 : Int), ()))
  else
   if (v.1 == (3 : Int)) = true then
    (ad_Lay n (v.2.2.2.1.1, (v.2.2.2.1.2.1, ()))).bind fun v10 =>
    if strFits (⟨#[32, 70, 82, 79, 77, 58, 60]⟩ : BA) v10 = true then
     if strFits ((⟨#[32, 70, 82, 79, 77, 58, 60]⟩ : BA) ++ v10) (⟨#[62]⟩ : BA) = true then
      if strFits v2 (((⟨#[32, 70, 82, 79, 77, 58, 60]⟩ : BA) ++ v10) ++ (⟨#[62]⟩ : BA)) = true then
       if (v.1 == (3 : Int)) = true then
        if (decide (v.2.2.2.2.1 ≥ (0 : Int))) = true then
         (itoaF v.2.2.2.2.1).bind fun v11 =>
         if strFits (⟨#[32, 83, 73, 90, 69, 61]⟩ : BA) v11 = true then
          if strFits (v2 ++ (((⟨#[32, 70, 82, 79, 77, 58, 60]⟩ : BA) ++ v10) ++ (⟨#[62]⟩ : BA))) ((⟨#[32, 83, 73, 90, 69, 61]⟩ : BA) ++ v11) = true then
           k (((v2 ++ (((⟨#[32, 70, 82, 79, 77, 58, 60]⟩ : BA) ++ v10) ++ (⟨#[62]⟩ : BA))) ++ ((⟨#[32, 83, 73, 90, 69, 61]⟩ : BA) ++ v11)), ((0 : Int), ()))
          else
           none
         else
          none
        else
         k ((v2 ++ (((⟨#[32, 70, 82, 79, 77, 58, 60]⟩ : BA) ++ v10) ++ (⟨#[62]⟩ : BA))), ((0 : Int), ()))
       else
        k ((v2 ++ (((⟨#[32, 70, 82, 79, 77, 58, 60]⟩ : BA) ++ v10) ++ (⟨#[62]⟩ : BA))), ((0 : Int), ()))
      else
       none
     else
      none
    else
     none
   else
    if (v.1 == (4 : Int)) = true then
     (ad_Lay n (v.2.2.2.1.1, (v.2.2.2.1.2.1, ()))).bind fun v12 =>
     if strFits (⟨#[32, 84, 79, 58, 60]⟩ : BA) v12 = true then
      if strFits ((⟨#[32, 84, 79, 58, 60]⟩ : BA) ++ v12) (⟨#[62]⟩ : BA) = true then
       if strFits v2 (((⟨#[32, 84, 79, 58, 60]⟩ : BA) ++ v12) ++ (⟨#[62]⟩ : BA)) = true then
        if (v.1 == (3 : Int)) = true then
         if (decide (v.2.2.2.2.1 ≥ (0 : Int))) = true then
          (itoaF v.2.2.2.2.1).bind fun v13 =>
          if strFits (⟨#[32, 83, 73, 90, 69, 61]⟩ : BA) v13 = true then
           if strFits (v2 ++ (((⟨#[32, 84, 79, 58, 60]⟩ : BA) ++ v12) ++ (⟨#[62]⟩ : BA))) ((⟨#[32, 83, 73, 90, 69, 61]⟩ : BA) ++ v13) = true then
            k (((v2 ++ (((⟨#[32, 84, 79, 58, 60]⟩ : BA) ++ v12) ++ (⟨#[62]⟩ : BA))) ++ ((⟨#[32, 83, 73, 90, 69, 61]⟩ : BA) ++ v13)), ((0 : Int), ()))
           else
            none
          else
           none
         else
          k ((v2 ++ (((⟨#[32, 84, 79, 58, 60]⟩ : BA) ++ v12) ++ (⟨#[62]⟩ : BA))), ((0 : Int), ()))
        else
         k ((v2 ++ (((⟨#[32, 84, 79, 58, 60]⟩ : BA) ++ v12) ++ (⟨#[62]⟩ : BA))), ((0 : Int), ()))
       else
        none
      else
       none
     else
      none
    else
     if (!(v.2.1.toList == (⟨#[]⟩ : BA).toList)) = true then
      if strFits (⟨#[32]⟩ : BA) v.2.1 = true then
       if strFits v2 ((⟨#[32]⟩ : BA) ++ v.2.1) = true then
        if (v.1 == (3 : Int)) = true then
         if (decide (v.2.2.2.2.1 ≥ (0 : Int))) = true then
          (itoaF v.2.2.2.2.1).bind fun v14 =>
          if strFits (⟨#[32, 83, 73, 90, 69, 61]⟩ : BA) v14 = true then
           if strFits (v2 ++ ((⟨#[32]⟩ : BA) ++ v.2.1)) ((⟨#[32, 83, 73, 90, 69, 61]⟩ : BA) ++ v14) = true then
            k (((v2 ++ ((⟨#[32]⟩ : BA) ++ v.2.1)) ++ ((⟨#[32, 83, 73, 90, 69, 61]⟩ : BA) ++ v14)), ((0 : Int), ()))
           else
            none
          else
           none
         else
          k ((v2 ++ ((⟨#[32]⟩ : BA) ++ v.2.1)), ((0 : Int), ()))
        else
         k ((v2 ++ ((⟨#[32]⟩ : BA) ++ v.2.1)), ((0 : Int), ()))
       else
        none
      else
       none
     else
      if (v.1 == (3 : Int)) = true then
       if (decide (v.2.2.2.2.1 ≥ (0 : Int))) = true then
        (itoaF v.2.2.2.2.1).bind fun v15 =>
        if strFits (⟨#[32, 83, 73, 90, 69, 61]⟩ : BA) v15 = true then
         if strFits v2 ((⟨#[32, 83, 73, 90, 69, 61]⟩ : BA) ++ v15) = true then
          k ((v2 ++ ((⟨#[32, 83, 73, 90, 69, 61]⟩ : BA) ++ v15)), ((0 : Int), ()))
         else
          none
        else
         none
       else
        k (v2, ((0 : Int), ()))
      else
       k (v2, ((0 : Int), ()))
def v_Text (n : Nat) (v : T0) : Option (BA × Int × Unit) := v_Text_B n v some
theorem v_Text_N (n : Nat) {R S : Type} (v : T0) (k : (BA × Int × Unit) → Option R) (φ : R → Option S) : v_Text_B n v (fun a => (k a).bind φ) = (v_Text_B n v k).bind φ := by
  unfold v_Text_B
  first | (simp only [dup_self, both_self, iB, bB, oL, oX, nB]) | rfl
def v_Text_hint (n : Nat) : Hint Out := { live := fun c => [], run := fun c => none, xm := fun c q => none }
theorem v_Text_runs (n : Nat) : RunsOk tys (callees Out (r4_VerbText_es n)) (v_Text_hint n) n (bodyOf Tryz.f20) 0 := runs_noloop (fun _ => rfl) _ _ (by kernel_rfl)
theorem v_Text_at : Tryz.prog.funcs[20]? = some Tryz.f20 := by kernel_rfl
theorem v_Text_ent (n : Nat) : Enters Tryz.prog 20 := enters_of (c := bodyOf Tryz.f20) v_Text_at (by kernel_rfl) (by kernel_rfl)
theorem v_Text_E (n : Nat) (v : T0) : fnA tys (callees Out (r4_VerbText_es n)) (v_Text_hint n) n Tryz.f20 (encL (.pair (.pair (.int .i64) (.pair .str (.pair .bool (.pair (.pair .str (.pair .str .unit)) (.pair (.int .i64) .unit))))) .unit) (v, ())) [] (soloA fun v => some (.ret v)) (soloA fun v => some (.pan v)) = v_Text_B n v (fun y => some (.ret (encR (.many (.pair .str (.pair (.int .i64) .unit))) y))) := by kernel_rfl
def v_Text_en (n : Nat) : Entry := ⟨20, pcT (.pair (.pair (.int .i64) (.pair .str (.pair .bool (.pair (.pair .str (.pair .str .unit)) (.pair (.int .i64) .unit))))) .unit) (.many (.pair .str (.pair (.int .i64) .unit))) (fun xs => v_Text n xs.1), none, none⟩
theorem v_Text_ok (n : Nat) : EntryOk Tryz.prog gl (v_Text_en n) :=
  pcT_ok (v_Text_ent n) fun xs y h => ans_of_fn tys_ok (r4_VerbText_es_ok n) mixed (hint := v_Text_hint n) (n := n) (fn := Tryz.f20) v_Text_at (runsC (v_Text_runs n)) (run_ret (φ := (fun y => some (Out.ret (encR (.many (.pair .str (.pair (.int .i64) .unit))) y)))) ((v_Text_E n xs.1).trans (v_Text_N (R := (BA × Int × Unit)) (S := Out) n xs.1 some (fun y => some (Out.ret (encR (.many (.pair .str (.pair (.int .i64) .unit))) y))))) h)
def v_Text_es (n : Nat) : List Entry := v_Text_en n :: r4_VerbText_es n
theorem v_Text_es_ok (n : Nat) : AllOk Tryz.prog gl (v_Text_es n) := .cons (v_Text_ok n) (r4_VerbText_es_ok n)
/- pouch/verb.Check -/
def v_Check_B (n : Nat) {R : Type} (v : T0) (k : Int → Option R) : Option R :=
 (v_May n (v.1, (v.2.1, (v.2.2.1, ((v.2.2.2.1.1, (v.2.2.2.1.2.1, ())), (v.2.2.2.2.1, ())))))).bind fun v1 =>
 if (!v1) = true then
  k (1 : Int)
 else
  k (0 : Int)
def v_Check (n : Nat) (v : T0) : Option Int := v_Check_B n v some
theorem v_Check_N (n : Nat) {R S : Type} (v : T0) (k : Int → Option R) (φ : R → Option S) : v_Check_B n v (fun a => (k a).bind φ) = (v_Check_B n v k).bind φ := by
  unfold v_Check_B
  first | (simp only [dup_self, both_self, iB, bB, oL, oX, nB]) | rfl
def v_Check_hint (n : Nat) : Hint Out := { live := fun c => [], run := fun c => none, xm := fun c q => none }
theorem v_Check_runs (n : Nat) : RunsOk tys (callees Out (v_Text_es n)) (v_Check_hint n) n (bodyOf Tryz.f24) 0 := runs_noloop (fun _ => rfl) _ _ (by kernel_rfl)
theorem v_Check_at : Tryz.prog.funcs[24]? = some Tryz.f24 := by kernel_rfl
theorem v_Check_ent (n : Nat) : Enters Tryz.prog 24 := enters_of (c := bodyOf Tryz.f24) v_Check_at (by kernel_rfl) (by kernel_rfl)
theorem v_Check_E (n : Nat) (v : T0) : fnA tys (callees Out (v_Text_es n)) (v_Check_hint n) n Tryz.f24 (encL (.pair (.pair (.int .i64) (.pair .str (.pair .bool (.pair (.pair .str (.pair .str .unit)) (.pair (.int .i64) .unit))))) .unit) (v, ())) [] (soloA fun v => some (.ret v)) (soloA fun v => some (.pan v)) = v_Check_B n v (fun y => some (.ret (encR (.one (.int .i64)) y))) := by kernel_rfl
def v_Check_en (n : Nat) : Entry := ⟨24, pcT (.pair (.pair (.int .i64) (.pair .str (.pair .bool (.pair (.pair .str (.pair .str .unit)) (.pair (.int .i64) .unit))))) .unit) (.one (.int .i64)) (fun xs => v_Check n xs.1), none, none⟩
theorem v_Check_ok (n : Nat) : EntryOk Tryz.prog gl (v_Check_en n) :=
  pcT_ok (v_Check_ent n) fun xs y h => ans_of_fn tys_ok (v_Text_es_ok n) mixed (hint := v_Check_hint n) (n := n) (fn := Tryz.f24) v_Check_at (runsC (v_Check_runs n)) (run_ret (φ := (fun y => some (Out.ret (encR (.one (.int .i64)) y)))) ((v_Check_E n xs.1).trans (v_Check_N (R := Int) (S := Out) n xs.1 some (fun y => some (Out.ret (encR (.one (.int .i64)) y))))) h)
def v_Check_es (n : Nat) : List Entry := v_Check_en n :: v_Text_es n
theorem v_Check_es_ok (n : Nat) : AllOk Tryz.prog gl (v_Check_es n) := .cons (v_Check_ok n) (v_Text_es_ok n)
/- pouch/pouchlaw5.VerbTexts -/
def w5_VerbTexts_B0 (n : Nat) {R : Type} (l1 : (Sq (T0 × (BA × (Int × Unit))))) (i : Int) (kn : (Sq (T0 × (BA × (Int × Unit)))) → Int → Option R) (ko : (Unit) → Option R) (kr : (Bool) → Option R) (kp : Int → Option R) : Option R :=
 if (decide (i < (l1.n : Int))) = true then
  if (decide (i < (15 : Int))) = true then
   if 0 ≤ i ∧ i < (l1.n : Int) then
    (w5_heavy n (((((l1.at' (Int.toNat i))).1).1, (((((l1.at' (Int.toNat i))).1).2).1, ((((((l1.at' (Int.toNat i))).1).2).2).1, (((((((((l1.at' (Int.toNat i))).1).2).2).2).1).1, (((((((((l1.at' (Int.toNat i))).1).2).2).2).1).2).1, ())), ((((((((l1.at' (Int.toNat i))).1).2).2).2).2).1, ()))))), ((((l1.at' (Int.toNat i))).2).1, (((((l1.at' (Int.toNat i))).2).2).1, ())))).bind fun v =>
    if v = true then
     kr true
    else
     if 0 ≤ i ∧ i < (l1.n : Int) then
      (r4_Verb n ((((l1.at' (Int.toNat i))).1).1, (((((l1.at' (Int.toNat i))).1).2).1, ((((((l1.at' (Int.toNat i))).1).2).2).1, (((((((((l1.at' (Int.toNat i))).1).2).2).2).1).1, (((((((((l1.at' (Int.toNat i))).1).2).2).2).1).2).1, ())), ((((((((l1.at' (Int.toNat i))).1).2).2).2).2).1, ())))))).bind fun v1 =>
      if v1 = true then
       if 0 ≤ i ∧ i < (l1.n : Int) then
        (r4_VerbText n ((((l1.at' (Int.toNat i))).1).1, (((((l1.at' (Int.toNat i))).1).2).1, ((((((l1.at' (Int.toNat i))).1).2).2).1, (((((((((l1.at' (Int.toNat i))).1).2).2).2).1).1, (((((((((l1.at' (Int.toNat i))).1).2).2).2).1).2).1, ())), ((((((((l1.at' (Int.toNat i))).1).2).2).2).2).1, ())))))).bind fun v2 =>
        if 0 ≤ i ∧ i < (l1.n : Int) then
         (v_Text n ((((l1.at' (Int.toNat i))).1).1, (((((l1.at' (Int.toNat i))).1).2).1, ((((((l1.at' (Int.toNat i))).1).2).2).1, (((((((((l1.at' (Int.toNat i))).1).2).2).2).1).1, (((((((((l1.at' (Int.toNat i))).1).2).2).2).1).2).1, ())), ((((((((l1.at' (Int.toNat i))).1).2).2).2).2).1, ())))))).bind fun v3 =>
         if 0 ≤ i ∧ i < (l1.n : Int) then
          (v_Check n ((((l1.at' (Int.toNat i))).1).1, (((((l1.at' (Int.toNat i))).1).2).1, ((((((l1.at' (Int.toNat i))).1).2).2).1, (((((((((l1.at' (Int.toNat i))).1).2).2).2).1).1, (((((((((l1.at' (Int.toNat i))).1).2).2).2).1).2).1, ())), ((((((((l1.at' (Int.toNat i))).1).2).2).2).2).1, ())))))).bind fun v4 =>
          (w5_num n v4).bind fun v5 =>
          if (v5 != (0 : Int)) = false then
           (w5_num n v3.2.1).bind fun v6 =>
           if (v6 != (0 : Int)) = false then
            if (!(v3.1.toList == v2.toList)) = true then
             kr false
            else
             kn l1 (IntKind.wrap .i64 (i + (1 : Int)))
           else
            kr false
          else
           kr false
         else
          none
        else
         none
       else
        none
      else
       if 0 ≤ i ∧ i < (l1.n : Int) then
        (v_Text n ((((l1.at' (Int.toNat i))).1).1, (((((l1.at' (Int.toNat i))).1).2).1, ((((((l1.at' (Int.toNat i))).1).2).2).1, (((((((((l1.at' (Int.toNat i))).1).2).2).2).1).1, (((((((((l1.at' (Int.toNat i))).1).2).2).2).1).2).1, ())), ((((((((l1.at' (Int.toNat i))).1).2).2).2).2).1, ())))))).bind fun v7 =>
        if 0 ≤ i ∧ i < (l1.n : Int) then
         (v_Check n ((((l1.at' (Int.toNat i))).1).1, (((((l1.at' (Int.toNat i))).1).2).1, ((((((l1.at' (Int.toNat i))).1).2).2).1, (((((((((l1.at' (Int.toNat i))).1).2).2).2).1).1, (((((((((l1.at' (Int.toNat i))).1).2).2).2).1).2).1, ())), ((((((((l1.at' (Int.toNat i))).1).2).2).2).2).1, ())))))).bind fun v8 =>
         (w5_num n v8).bind fun v9 =>
         if (v9 != (1 : Int)) = false then
          (w5_num n v7.2.1).bind fun v10 =>
          if (v10 != (1 : Int)) = false then
           if (!(v7.1.toList == (⟨#[]⟩ : BA).toList)) = true then
            kr false
           else
            kn l1 (IntKind.wrap .i64 (i + (1 : Int)))
          else
           kr false
         else
          kr false
        else
         none
       else
        none
     else
      none
   else
    none
  else
   ko ()
 else
  ko ()
theorem w5_VerbTexts_B0_N (n : Nat) {R S : Type} (l1 : (Sq (T0 × (BA × (Int × Unit))))) (i : Int) (kn : (Sq (T0 × (BA × (Int × Unit)))) → Int → Option R) (ko : (Unit) → Option R) (kr : (Bool) → Option R) (kp : Int → Option R) (φ : R → Option S) : w5_VerbTexts_B0 n l1 i (fun l1 i => (kn l1 i).bind φ) (fun a => (ko a).bind φ) (fun a => (kr a).bind φ) (fun a => (kp a).bind φ) = (w5_VerbTexts_B0 n l1 i kn ko kr kp).bind φ := by
  unfold w5_VerbTexts_B0
  first | (simp only [dup_self, both_self, iB, bB, oL, oX, nB]) | rfl
def w5_VerbTexts_L0 (n : Nat) : Nat → (Sq (T0 × (BA × (Int × Unit)))) → Int → Option (Lx (Unit) (Bool))
  | 0, _, _ => none
  | m + 1, l1, i => w5_VerbTexts_B0 n l1 i (fun l1 i => w5_VerbTexts_L0 n m l1 i) (fun a => some (.out a)) (fun a => some (.ret a)) (fun p => some (.pan p))
def w5_VerbTexts_L0_sp : List Sl := .dat (.sl (.pair (.pair (.int .i64) (.pair .str (.pair .bool (.pair (.pair .str (.pair .str .unit)) (.pair (.int .i64) .unit))))) (.pair .str (.pair (.int .i64) .unit)))) :: .top :: .top :: .dat (.int .i64) :: tp 61 []
def w5_VerbTexts_L0_rp : List RS := []
def w5_VerbTexts_L0_out_sp : List Sl := tp 65 []
def w5_VerbTexts_L0_out_rp : List RS := []
def w5_VerbTexts_L0_ret_sp : List Sl := .top :: .top :: .dat .bool :: tp 62 []
def w5_VerbTexts_L0_ret_rp : List RS := []
def w5_VerbTexts_L0_K (K : XE → List AV → AHeap → Option Out) : Lx (Unit) (Bool) → Option Out := fun x => onL x (fun a => layK w5_VerbTexts_L0_out_sp w5_VerbTexts_L0_out_rp () () (K (.exit 0))) (fun a => layK w5_VerbTexts_L0_ret_sp w5_VerbTexts_L0_ret_rp (a, ()) () (K .ret)) (fun _ => none)
def w5_VerbTexts_B (n : Nat) {R : Type} (l : (Sq (T0 × (BA × (Int × Unit))))) (k : Bool → Option R) : Option R :=
 (w5_VerbTexts_L0 n n l (0 : Int)).bind fun x_1 => onL x_1
  (fun a_2 =>
   (w5_wakes n).bind fun v11 =>
   k v11)
  (fun a_3 =>
   k a_3)
  (fun _ => none)
def w5_VerbTexts (n : Nat) (l : (Sq (T0 × (BA × (Int × Unit))))) : Option Bool := w5_VerbTexts_B n l some
theorem w5_VerbTexts_N (n : Nat) {R S : Type} (l : (Sq (T0 × (BA × (Int × Unit))))) (k : Bool → Option R) (φ : R → Option S) : w5_VerbTexts_B n l (fun a => (k a).bind φ) = (w5_VerbTexts_B n l k).bind φ := by
  unfold w5_VerbTexts_B
  first | (simp only [dup_self, both_self, iB, bB, oL, oX, nB]) | rfl
def w5_VerbTexts_hint (n : Nat) : Hint Out := { live := fun c => (cond (Nat.beq c 0) [(0, some (.sl (.pair (.pair (.int .i64) (.pair .str (.pair .bool (.pair (.pair .str (.pair .str .unit)) (.pair (.int .i64) .unit))))) (.pair .str (.pair (.int .i64) .unit))))), (3, none)] []), run := fun c => (cond (Nat.beq c 0) (some (runL w5_VerbTexts_L0_sp w5_VerbTexts_L0_rp fun σ ρ K => (w5_VerbTexts_L0 n n σ.1 σ.2.1).bind (w5_VerbTexts_L0_K K))) none), xm := fun c q => (cond (Nat.beq c 0 && Nat.beq (q.getD 1000000) 0 && q.isSome) (some []) (cond (Nat.beq c 1 && q.isNone) (some [(2, none)]) none)) }
def w5_VerbTexts_L0_I (n : Nat) (K : XE → List AV → AHeap → Option Out) (m : Nat) (l1 : (Sq (T0 × (BA × (Int × Unit))))) (i : Int) : Option Out := loopI tys (callees Out (v_Check_es n)) (w5_VerbTexts_hint n) n (codeAt [1, 0, 1, 0, 0] (bodyOf Tryz.f5)) 0 w5_VerbTexts_L0_sp w5_VerbTexts_L0_rp K m (l1, (i, ())) ()
theorem w5_VerbTexts_L0_E (n : Nat) (K : XE → List AV → AHeap → Option Out) : ∀ (m : Nat) (l1 : (Sq (T0 × (BA × (Int × Unit))))) (i : Int), w5_VerbTexts_L0_I n K m l1 i = (w5_VerbTexts_L0 n m l1 i).bind (w5_VerbTexts_L0_K K)
  | 0, l1, i => by kernel_rfl
  | m + 1, l1, i => by
    have h1 : w5_VerbTexts_L0_I n K (m + 1) l1 i = w5_VerbTexts_B0 n l1 i (fun l1 i => w5_VerbTexts_L0_I n K m l1 i) (fun a => w5_VerbTexts_L0_K K (.out a)) (fun a => w5_VerbTexts_L0_K K (.ret a)) (fun p => w5_VerbTexts_L0_K K (.pan p)) := by kernel_rfl
    have h2 : (fun l1 i => w5_VerbTexts_L0_I n K m l1 i) = (fun l1 i => (w5_VerbTexts_L0 n m l1 i).bind (w5_VerbTexts_L0_K K)) := funext fun l1 => funext fun i => w5_VerbTexts_L0_E n K m l1 i
    exact h1.trans ((congrArg (fun z => w5_VerbTexts_B0 n l1 i z (fun a => w5_VerbTexts_L0_K K (.out a)) (fun a => w5_VerbTexts_L0_K K (.ret a)) (fun p => w5_VerbTexts_L0_K K (.pan p))) h2).trans (w5_VerbTexts_B0_N n l1 i (fun l1 i => w5_VerbTexts_L0 n m l1 i) (fun a => some (.out a)) (fun a => some (.ret a)) (fun p => some (.pan p)) (w5_VerbTexts_L0_K K)))
theorem w5_VerbTexts_L0_ok (n : Nat) : RunOk tys (callees Out (v_Check_es n)) (w5_VerbTexts_hint n) n (codeAt [1, 0, 1, 0, 0] (bodyOf Tryz.f5)) 0 := runOk_of (sp := w5_VerbTexts_L0_sp) (rp := w5_VerbTexts_L0_rp) (F := fun σ ρ K => (w5_VerbTexts_L0 n n σ.1 σ.2.1).bind (w5_VerbTexts_L0_K K)) (by kernel_rfl) fun K σ ρ => w5_VerbTexts_L0_E n K n σ.1 σ.2.1
theorem w5_VerbTexts_runs (n : Nat) : RunsOk tys (callees Out (v_Check_es n)) (w5_VerbTexts_hint n) n (bodyOf Tryz.f5) 0 := ⟨trivial, ⟨⟨trivial, ⟨w5_VerbTexts_L0_ok n, ⟨⟨trivial, ⟨trivial, trivial⟩⟩, ⟨⟨⟨trivial, ⟨⟨trivial, trivial⟩, trivial⟩⟩, ⟨trivial, ⟨⟨trivial, ⟨trivial, trivial⟩⟩, ⟨trivial, ⟨trivial, ⟨⟨trivial, trivial⟩, trivial⟩⟩⟩⟩⟩⟩, trivial⟩⟩⟩⟩, ⟨trivial, trivial⟩⟩⟩
theorem w5_VerbTexts_at : Tryz.prog.funcs[5]? = some Tryz.f5 := by kernel_rfl
theorem w5_VerbTexts_ent (n : Nat) : Enters Tryz.prog 5 := enters_of (c := bodyOf Tryz.f5) w5_VerbTexts_at (by kernel_rfl) (by kernel_rfl)
theorem w5_VerbTexts_E (n : Nat) (l : (Sq (T0 × (BA × (Int × Unit))))) : fnA tys (callees Out (v_Check_es n)) (w5_VerbTexts_hint n) n Tryz.f5 (encL (.pair (.sl (.pair (.pair (.int .i64) (.pair .str (.pair .bool (.pair (.pair .str (.pair .str .unit)) (.pair (.int .i64) .unit))))) (.pair .str (.pair (.int .i64) .unit)))) .unit) (l, ())) [] (soloA fun v => some (.ret v)) (soloA fun v => some (.pan v)) = w5_VerbTexts_B n l (fun y => some (.ret (encR (.one .bool) y))) := by kernel_rfl
def w5_VerbTexts_en (n : Nat) : Entry := ⟨5, pcT (.pair (.sl (.pair (.pair (.int .i64) (.pair .str (.pair .bool (.pair (.pair .str (.pair .str .unit)) (.pair (.int .i64) .unit))))) (.pair .str (.pair (.int .i64) .unit)))) .unit) (.one .bool) (fun xs => w5_VerbTexts n xs.1), none, none⟩
theorem w5_VerbTexts_ok (n : Nat) : EntryOk Tryz.prog gl (w5_VerbTexts_en n) :=
  pcT_ok (w5_VerbTexts_ent n) fun xs y h => ans_of_fn tys_ok (v_Check_es_ok n) mixed (hint := w5_VerbTexts_hint n) (n := n) (fn := Tryz.f5) w5_VerbTexts_at (runsC (w5_VerbTexts_runs n)) (run_ret (φ := (fun y => some (Out.ret (encR (.one .bool) y)))) ((w5_VerbTexts_E n xs.1).trans (w5_VerbTexts_N (R := Bool) (S := Out) n xs.1 some (fun y => some (Out.ret (encR (.one .bool) y))))) h)
def w5_VerbTexts_es (n : Nat) : List Entry := w5_VerbTexts_en n :: v_Check_es n
theorem w5_VerbTexts_es_ok (n : Nat) : AllOk Tryz.prog gl (w5_VerbTexts_es n) := .cons (w5_VerbTexts_ok n) (v_Check_es_ok n)
/- pouch/pouchlaw5.kind -/
def w5_kind_B1 (n : Nat) {R : Type} (l2 : (Sq (T0 × (BA × (Int × Unit))))) (k02 : Int) (i1 : Int) (s : BA) (ok : Bool) (j : Int) (p : Int) (p1 : BA) (p2 : Bool) (p3 : BA) (p4 : BA) (p5 : Int) (p6 : BA) (p7 : Int) (kn : (Sq (T0 × (BA × (Int × Unit)))) → Int → Int → BA → Bool → Int → Int → BA → Bool → BA → BA → Int → BA → Int → Option R) (ko : ((Sq (T0 × (BA × (Int × Unit)))) × Int × Int × BA × Bool) → Option R) (kr : (Bool) → Option R) (kp : Int → Option R) : Option R :=
 if (decide (j < (5 : Int))) = true then
  if (j == (0 : Int)) = true then
   if strFits p1 (⟨#[32, 120]⟩ : BA) = true then
    (v_Check n (p, ((p1 ++ (⟨#[32, 120]⟩ : BA)), (p2, ((p3, (p4, ())), (p5, ())))))).bind fun v5 =>
    (w5_num n v5).bind fun v6 =>
    (r4_Verb n (p, ((p1 ++ (⟨#[32, 120]⟩ : BA)), (p2, ((p3, (p4, ())), (p5, ())))))).bind fun v7 =>
    if (!((v6 == (0 : Int)) == v7)) = true then
     kr false
    else
     kn l2 k02 i1 s ok (IntKind.wrap .i64 (j + (1 : Int))) p p1 p2 p3 p4 p5 p6 p7
   else
    none
  else
   if (j == (1 : Int)) = true then
    (v_Check n (p, (p1, ((!p2), ((p3, (p4, ())), (p5, ())))))).bind fun v8 =>
    (w5_num n v8).bind fun v9 =>
    (r4_Verb n (p, (p1, ((!p2), ((p3, (p4, ())), (p5, ())))))).bind fun v10 =>
    if (!((v9 == (0 : Int)) == v10)) = true then
     kr false
    else
     kn l2 k02 i1 s ok (IntKind.wrap .i64 (j + (1 : Int))) p p1 p2 p3 p4 p5 p6 p7
   else
    if (j == (2 : Int)) = true then
     if strFits p3 (⟨#[33]⟩ : BA) = true then
      (v_Check n (p, (p1, (p2, (((p3 ++ (⟨#[33]⟩ : BA)), (p4, ())), (p5, ())))))).bind fun v11 =>
      (w5_num n v11).bind fun v12 =>
      (r4_Verb n (p, (p1, (p2, (((p3 ++ (⟨#[33]⟩ : BA)), (p4, ())), (p5, ())))))).bind fun v13 =>
      if (!((v12 == (0 : Int)) == v13)) = true then
       kr false
      else
       kn l2 k02 i1 s ok (IntKind.wrap .i64 (j + (1 : Int))) p p1 p2 p3 p4 p5 p6 p7
     else
      none
    else
     if (j == (3 : Int)) = true then
      (v_Check n (p, (p1, (p2, ((p3, (p4, ())), ((bits .xor .i64 p5 (1 : Int)), ())))))).bind fun v14 =>
      (w5_num n v14).bind fun v15 =>
      (r4_Verb n (p, (p1, (p2, ((p3, (p4, ())), ((bits .xor .i64 p5 (1 : Int)), ())))))).bind fun v16 =>
      if (!((v15 == (0 : Int)) == v16)) = true then
       kr false
      else
       kn l2 k02 i1 s ok (IntKind.wrap .i64 (j + (1 : Int))) p p1 p2 p3 p4 p5 p6 p7
     else
      if (j == (4 : Int)) = true then
       if strFits p1 (⟨#[127]⟩ : BA) = true then
        (v_Check n (p, ((p1 ++ (⟨#[127]⟩ : BA)), (p2, ((p3, (p4, ())), (p5, ())))))).bind fun v17 =>
        (w5_num n v17).bind fun v18 =>
        (r4_Verb n (p, ((p1 ++ (⟨#[127]⟩ : BA)), (p2, ((p3, (p4, ())), (p5, ())))))).bind fun v19 =>
        if (!((v18 == (0 : Int)) == v19)) = true then
         kr false
        else
         kn l2 k02 i1 s ok (IntKind.wrap .i64 (j + (1 : Int))) p p1 p2 p3 p4 p5 p6 p7
       else
        none
      else
       (v_Check n (p, (p1, (p2, ((p3, (p4, ())), (p5, ())))))).bind fun v20 =>
       (w5_num n v20).bind fun v21 =>
       (r4_Verb n (p, (p1, (p2, ((p3, (p4, ())), (p5, ())))))).bind fun v22 =>
       if (!((v21 == (0 : Int)) == v22)) = true then
        kr false
       else
        kn l2 k02 i1 s ok (IntKind.wrap .i64 (j + (1 : Int))) p p1 p2 p3 p4 p5 p6 p7
 else
  ko (l2, k02, i1, s, ok)
theorem w5_kind_B1_N (n : Nat) {R S : Type} (l2 : (Sq (T0 × (BA × (Int × Unit))))) (k02 : Int) (i1 : Int) (s : BA) (ok : Bool) (j : Int) (p : Int) (p1 : BA) (p2 : Bool) (p3 : BA) (p4 : BA) (p5 : Int) (p6 : BA) (p7 : Int) (kn : (Sq (T0 × (BA × (Int × Unit)))) → Int → Int → BA → Bool → Int → Int → BA → Bool → BA → BA → Int → BA → Int → Option R) (ko : ((Sq (T0 × (BA × (Int × Unit)))) × Int × Int × BA × Bool) → Option R) (kr : (Bool) → Option R) (kp : Int → Option R) (φ : R → Option S) : w5_kind_B1 n l2 k02 i1 s ok j p p1 p2 p3 p4 p5 p6 p7 (fun l2 k02 i1 s ok j p p1 p2 p3 p4 p5 p6 p7 => (kn l2 k02 i1 s ok j p p1 p2 p3 p4 p5 p6 p7).bind φ) (fun a => (ko a).bind φ) (fun a => (kr a).bind φ) (fun a => (kp a).bind φ) = (w5_kind_B1 n l2 k02 i1 s ok j p p1 p2 p3 p4 p5 p6 p7 kn ko kr kp).bind φ := by
  unfold w5_kind_B1
  first | (simp only [dup_self, both_self, iB, bB, oL, oX, nB]) | rfl
def w5_kind_L1 (n : Nat) : Nat → (Sq (T0 × (BA × (Int × Unit)))) → Int → Int → BA → Bool → Int → Int → BA → Bool → BA → BA → Int → BA → Int → Option (Lx ((Sq (T0 × (BA × (Int × Unit)))) × Int × Int × BA × Bool) (Bool))
  | 0, _, _, _, _, _, _, _, _, _, _, _, _, _, _ => none
  | m + 1, l2, k02, i1, s, ok, j, p, p1, p2, p3, p4, p5, p6, p7 => w5_kind_B1 n l2 k02 i1 s ok j p p1 p2 p3 p4 p5 p6 p7 (fun l2 k02 i1 s ok j p p1 p2 p3 p4 p5 p6 p7 => w5_kind_L1 n m l2 k02 i1 s ok j p p1 p2 p3 p4 p5 p6 p7) (fun a => some (.out a)) (fun a => some (.ret a)) (fun p => some (.pan p))
def w5_kind_L1_sp : List Sl := .dat (.sl (.pair (.pair (.int .i64) (.pair .str (.pair .bool (.pair (.pair .str (.pair .str .unit)) (.pair (.int .i64) .unit))))) (.pair .str (.pair (.int .i64) .unit)))) :: .dat (.int .i64) :: .top :: .top :: .top :: .dat (.int .i64) :: .ptr 0 0 0 :: .dat .str :: .top :: .dat .bool :: .dat (.int .i64) :: tp 141 []
def w5_kind_L1_rp : List RS := [.box 29 8 true [.dat (.int .i64), .dat .str, .dat .bool, .dat .str, .dat .str, .dat (.int .i64), .dat .str, .dat (.int .i64)]]
def w5_kind_L1_out_sp : List Sl := .dat (.sl (.pair (.pair (.int .i64) (.pair .str (.pair .bool (.pair (.pair .str (.pair .str .unit)) (.pair (.int .i64) .unit))))) (.pair .str (.pair (.int .i64) .unit)))) :: .dat (.int .i64) :: .top :: .top :: .top :: .dat (.int .i64) :: .top :: .dat .str :: .top :: .dat .bool :: tp 142 []
def w5_kind_L1_out_rp : List RS := []
def w5_kind_L1_ret_sp : List Sl := tp 4 (.dat .bool :: tp 147 [])
def w5_kind_L1_ret_rp : List RS := []
def w5_kind_L1_K (K : XE → List AV → AHeap → Option Out) : Lx ((Sq (T0 × (BA × (Int × Unit)))) × Int × Int × BA × Bool) (Bool) → Option Out := fun x => onL x (fun a => layK w5_kind_L1_out_sp w5_kind_L1_out_rp (a.1, (a.2.1, (a.2.2.1, (a.2.2.2.1, (a.2.2.2.2, ()))))) () (K (.exit 2))) (fun a => layK w5_kind_L1_ret_sp w5_kind_L1_ret_rp (a, ()) () (K .ret)) (fun _ => none)
def w5_kind_B2 (n : Nat) {R : Type} (l4 : (Sq (T0 × (BA × (Int × Unit))))) (k04 : Int) (i3 : Int) (s2 : BA) (ok2 : Bool) (j1 : Int) (kn : (Sq (T0 × (BA × (Int × Unit)))) → Int → Int → BA → Bool → Int → Option R) (ko : ((Sq (T0 × (BA × (Int × Unit)))) × Int × Int) → Option R) (kr : (Bool) → Option R) (kp : Int → Option R) : Option R :=
 if ok2 = true then
  if (decide (j1 < (4 : Int))) = true then
   if strFits s2 (⟨#[32]⟩ : BA) = true then
    if strFits (⟨#[32]⟩ : BA) s2 = true then
     if strFits s2 (⟨#[120]⟩ : BA) = true then
      if 0 ≤ (3 : Int) ∧ (3 : Int) ≤ (s2.size : Int) then
       if strFits (s2.extract (Int.toNat (0 : Int)) (Int.toNat (3 : Int))) (⟨#[90]⟩ : BA) = true then
        if 0 ≤ (4 : Int) ∧ (4 : Int) ≤ (s2.size : Int) then
         if strFits ((s2.extract (Int.toNat (0 : Int)) (Int.toNat (3 : Int))) ++ (⟨#[90]⟩ : BA)) (s2.extract (Int.toNat (4 : Int)) (Int.toNat (s2.size : Int))) = true then
          if 0 ≤ j1 ∧ j1 < (4 : Int) then
           (v_Parse n ((fun q => List.getD (α := BA) [(s2 ++ (⟨#[32]⟩ : BA)), ((⟨#[32]⟩ : BA) ++ s2), (s2 ++ (⟨#[120]⟩ : BA)), (((s2.extract (Int.toNat (0 : Int)) (Int.toNat (3 : Int))) ++ (⟨#[90]⟩ : BA)) ++ (s2.extract (Int.toNat (4 : Int)) (Int.toNat (s2.size : Int))))] q (zeroEl .str)) (Int.toNat j1))).bind fun v23 =>
           (r4_ParseVerb n ((fun q => List.getD (α := BA) [(s2 ++ (⟨#[32]⟩ : BA)), ((⟨#[32]⟩ : BA) ++ s2), (s2 ++ (⟨#[120]⟩ : BA)), (((s2.extract (Int.toNat (0 : Int)) (Int.toNat (3 : Int))) ++ (⟨#[90]⟩ : BA)) ++ (s2.extract (Int.toNat (4 : Int)) (Int.toNat (s2.size : Int))))] q (zeroEl .str)) (Int.toNat j1))).bind fun v24 =>
           (w5_num n v23.2.1).bind fun v25 =>
           if (v25 != v24.2.1) = false then
            if (!((v23.1.1 == v24.1.1) && ((v23.1.2.1.toList == v24.1.2.1.toList) && ((v23.1.2.2.1 == v24.1.2.2.1) && (((v23.1.2.2.2.1.1.toList == v24.1.2.2.2.1.1.toList) && ((v23.1.2.2.2.1.2.1.toList == v24.1.2.2.2.1.2.1.toList) && true)) && ((v23.1.2.2.2.2.1 == v24.1.2.2.2.2.1) && true)))))) = true then
             kr false
            else
             kn l4 k04 i3 s2 ok2 (IntKind.wrap .i64 (j1 + (1 : Int)))
           else
            kr false
          else
           none
         else
          none
        else
         none
       else
        none
      else
       none
     else
      none
    else
     none
   else
    none
  else
   ko (l4, k04, i3)
 else
  ko (l4, k04, i3)
theorem w5_kind_B2_N (n : Nat) {R S : Type} (l4 : (Sq (T0 × (BA × (Int × Unit))))) (k04 : Int) (i3 : Int) (s2 : BA) (ok2 : Bool) (j1 : Int) (kn : (Sq (T0 × (BA × (Int × Unit)))) → Int → Int → BA → Bool → Int → Option R) (ko : ((Sq (T0 × (BA × (Int × Unit)))) × Int × Int) → Option R) (kr : (Bool) → Option R) (kp : Int → Option R) (φ : R → Option S) : w5_kind_B2 n l4 k04 i3 s2 ok2 j1 (fun l4 k04 i3 s2 ok2 j1 => (kn l4 k04 i3 s2 ok2 j1).bind φ) (fun a => (ko a).bind φ) (fun a => (kr a).bind φ) (fun a => (kp a).bind φ) = (w5_kind_B2 n l4 k04 i3 s2 ok2 j1 kn ko kr kp).bind φ := by
  unfold w5_kind_B2
  first | (simp only [dup_self, both_self, iB, bB, oL, oX, nB]) | rfl
def w5_kind_L2 (n : Nat) : Nat → (Sq (T0 × (BA × (Int × Unit)))) → Int → Int → BA → Bool → Int → Option (Lx ((Sq (T0 × (BA × (Int × Unit)))) × Int × Int) (Bool))
  | 0, _, _, _, _, _, _ => none
  | m + 1, l4, k04, i3, s2, ok2, j1 => w5_kind_B2 n l4 k04 i3 s2 ok2 j1 (fun l4 k04 i3 s2 ok2 j1 => w5_kind_L2 n m l4 k04 i3 s2 ok2 j1) (fun a => some (.out a)) (fun a => some (.ret a)) (fun p => some (.pan p))
def w5_kind_L2_sp : List Sl := .dat (.sl (.pair (.pair (.int .i64) (.pair .str (.pair .bool (.pair (.pair .str (.pair .str .unit)) (.pair (.int .i64) .unit))))) (.pair .str (.pair (.int .i64) .unit)))) :: .dat (.int .i64) :: .top :: .top :: .top :: .dat (.int .i64) :: .top :: .dat .str :: .top :: .dat .bool :: .top :: .top :: .dat (.int .i64) :: tp 139 []
def w5_kind_L2_rp : List RS := []
def w5_kind_L2_out_sp : List Sl := .dat (.sl (.pair (.pair (.int .i64) (.pair .str (.pair .bool (.pair (.pair .str (.pair .str .unit)) (.pair (.int .i64) .unit))))) (.pair .str (.pair (.int .i64) .unit)))) :: .dat (.int .i64) :: .top :: .top :: .top :: .dat (.int .i64) :: tp 146 []
def w5_kind_L2_out_rp : List RS := []
def w5_kind_L2_ret_sp : List Sl := tp 4 (.dat .bool :: tp 147 [])
def w5_kind_L2_ret_rp : List RS := []
def w5_kind_L2_K (K : XE → List AV → AHeap → Option Out) : Lx ((Sq (T0 × (BA × (Int × Unit)))) × Int × Int) (Bool) → Option Out := fun x => onL x (fun a => layK w5_kind_L2_out_sp w5_kind_L2_out_rp (a.1, (a.2.1, (a.2.2, ()))) () (K (.exit 5))) (fun a => layK w5_kind_L2_ret_sp w5_kind_L2_ret_rp (a, ()) () (K .ret)) (fun _ => none)
def w5_kind_B0 (n : Nat) {R : Type} (l1 : (Sq (T0 × (BA × (Int × Unit))))) (k01 : Int) (i : Int) (kn : (Sq (T0 × (BA × (Int × Unit)))) → Int → Int → Option R) (ko : (Unit) → Option R) (kr : (Bool) → Option R) (kp : Int → Option R) : Option R :=
 if (decide (i < (l1.n : Int))) = true then
  if (decide (i < (15 : Int))) = true then
   if 0 ≤ i ∧ i < (l1.n : Int) then
    (w5_heavy n (((((l1.at' (Int.toNat i))).1).1, (((((l1.at' (Int.toNat i))).1).2).1, ((((((l1.at' (Int.toNat i))).1).2).2).1, (((((((((l1.at' (Int.toNat i))).1).2).2).2).1).1, (((((((((l1.at' (Int.toNat i))).1).2).2).2).1).2).1, ())), ((((((((l1.at' (Int.toNat i))).1).2).2).2).2).1, ()))))), ((((l1.at' (Int.toNat i))).2).1, (((((l1.at' (Int.toNat i))).2).2).1, ())))).bind fun v =>
    if v = true then
     kr true
    else
     if (((((l1.at' (Int.toNat i))).1).1) != k01) = true then
      kn l1 k01 (IntKind.wrap .i64 (i + (1 : Int)))
     else
      (v_Text n ((((l1.at' (Int.toNat i))).1).1, (((((l1.at' (Int.toNat i))).1).2).1, ((((((l1.at' (Int.toNat i))).1).2).2).1, (((((((((l1.at' (Int.toNat i))).1).2).2).2).1).1, (((((((((l1.at' (Int.toNat i))).1).2).2).2).1).2).1, ())), ((((((((l1.at' (Int.toNat i))).1).2).2).2).2).1, ())))))).bind fun v1 =>
      (r4_Verb n ((((l1.at' (Int.toNat i))).1).1, (((((l1.at' (Int.toNat i))).1).2).1, ((((((l1.at' (Int.toNat i))).1).2).2).1, (((((((((l1.at' (Int.toNat i))).1).2).2).2).1).1, (((((((((l1.at' (Int.toNat i))).1).2).2).2).1).2).1, ())), ((((((((l1.at' (Int.toNat i))).1).2).2).2).2).1, ())))))).bind fun v2 =>
      (w5_num n v1.2.1).bind fun v3 =>
      if (!(v2 == (v3 == (0 : Int)))) = false then
       if v2 = true then
        (r4_VerbText n ((((l1.at' (Int.toNat i))).1).1, (((((l1.at' (Int.toNat i))).1).2).1, ((((((l1.at' (Int.toNat i))).1).2).2).1, (((((((((l1.at' (Int.toNat i))).1).2).2).2).1).1, (((((((((l1.at' (Int.toNat i))).1).2).2).2).1).2).1, ())), ((((((((l1.at' (Int.toNat i))).1).2).2).2).2).1, ())))))).bind fun v4 =>
        if (!(v1.1.toList == v4.toList)) = true then
         kr false
        else
         (w5_kind_L1 n n l1 k01 i v1.1 v2 (0 : Int) ((((l1.at' (Int.toNat i))).1).1) (((((l1.at' (Int.toNat i))).1).2).1) ((((((l1.at' (Int.toNat i))).1).2).2).1) ((((((((l1.at' (Int.toNat i))).1).2).2).2).1).1) (((((((((l1.at' (Int.toNat i))).1).2).2).2).1).2).1) ((((((((l1.at' (Int.toNat i))).1).2).2).2).2).1) ((((l1.at' (Int.toNat i))).2).1) (((((l1.at' (Int.toNat i))).2).2).1)).bind fun x_1 => onL x_1
          (fun a_2 =>
           (w5_kind_L2 n n a_2.1 a_2.2.1 a_2.2.2.1 a_2.2.2.2.1 a_2.2.2.2.2 (0 : Int)).bind fun x_3 => onL x_3
            (fun a_4 =>
             kn a_4.1 a_4.2.1 (IntKind.wrap .i64 (a_4.2.2 + (1 : Int))))
            (fun a_5 =>
             kr a_5)
            (fun _ => none))
          (fun a_6 =>
           kr a_6)
          (fun _ => none)
       else
        (w5_kind_L1 n n l1 k01 i v1.1 v2 (0 : Int) ((((l1.at' (Int.toNat i))).1).1) (((((l1.at' (Int.toNat i))).1).2).1) ((((((l1.at' (Int.toNat i))).1).2).2).1) ((((((((l1.at' (Int.toNat i))).1).2).2).2).1).1) (((((((((l1.at' (Int.toNat i))).1).2).2).2).1).2).1) ((((((((l1.at' (Int.toNat i))).1).2).2).2).2).1) ((((l1.at' (Int.toNat i))).2).1) (((((l1.at' (Int.toNat i))).2).2).1)).bind fun x_7 => onL x_7
         (fun a_8 =>
          (w5_kind_L2 n n a_8.1 a_8.2.1 a_8.2.2.1 a_8.2.2.2.1 a_8.2.2.2.2 (0 : Int)).bind fun x_9 => onL x_9
           (fun a_10 =>
            kn a_10.1 a_10.2.1 (IntKind.wrap .i64 (a_10.2.2 + (1 : Int))))
           (fun a_11 =>
            kr a_11)
           (fun _ => none))
         (fun a_12 =>
          kr a_12)
         (fun _ => none)
      else
       kr false
   else
    none
  else
   ko ()
 else
  ko ()
theorem w5_kind_B0_N (n : Nat) {R S : Type} (l1 : (Sq (T0 × (BA × (Int × Unit))))) (k01 : Int) (i : Int) (kn : (Sq (T0 × (BA × (Int × Unit)))) → Int → Int → Option R) (ko : (Unit) → Option R) (kr : (Bool) → Option R) (kp : Int → Option R) (φ : R → Option S) : w5_kind_B0 n l1 k01 i (fun l1 k01 i => (kn l1 k01 i).bind φ) (fun a => (ko a).bind φ) (fun a => (kr a).bind φ) (fun a => (kp a).bind φ) = (w5_kind_B0 n l1 k01 i kn ko kr kp).bind φ := by
  unfold w5_kind_B0
  first | (simp only [dup_self, both_self, iB, bB, oL, oX, nB]) | rfl
def w5_kind_L0 (n : Nat) : Nat → (Sq (T0 × (BA × (Int × Unit)))) → Int → Int → Option (Lx (Unit) (Bool))
  | 0, _, _, _ => none
  | m + 1, l1, k01, i => w5_kind_B0 n l1 k01 i (fun l1 k01 i => w5_kind_L0 n m l1 k01 i) (fun a => some (.out a)) (fun a => some (.ret a)) (fun p => some (.pan p))
def w5_kind_L0_sp : List Sl := .dat (.sl (.pair (.pair (.int .i64) (.pair .str (.pair .bool (.pair (.pair .str (.pair .str .unit)) (.pair (.int .i64) .unit))))) (.pair .str (.pair (.int .i64) .unit)))) :: .dat (.int .i64) :: .top :: .top :: .top :: .dat (.int .i64) :: tp 146 []
def w5_kind_L0_rp : List RS := []
def w5_kind_L0_out_sp : List Sl := tp 152 []
def w5_kind_L0_out_rp : List RS := []
def w5_kind_L0_ret_sp : List Sl := tp 4 (.dat .bool :: tp 147 [])
def w5_kind_L0_ret_rp : List RS := []
def w5_kind_L0_K (K : XE → List AV → AHeap → Option Out) : Lx (Unit) (Bool) → Option Out := fun x => onL x (fun a => layK w5_kind_L0_out_sp w5_kind_L0_out_rp () () (K (.exit 0))) (fun a => layK w5_kind_L0_ret_sp w5_kind_L0_ret_rp (a, ()) () (K .ret)) (fun _ => none)
def w5_kind_B (n : Nat) {R : Type} (l : (Sq (T0 × (BA × (Int × Unit))))) (k0 : Int) (k : Bool → Option R) : Option R :=
 (w5_kind_L0 n n l k0 (0 : Int)).bind fun x_1 => onL x_1
  (fun a_2 =>
   (w5_wakes n).bind fun v26 =>
   k v26)
  (fun a_3 =>
   k a_3)
  (fun _ => none)
def w5_kind (n : Nat) (l : (Sq (T0 × (BA × (Int × Unit))))) (k0 : Int) : Option Bool := w5_kind_B n l k0 some
theorem w5_kind_N (n : Nat) {R S : Type} (l : (Sq (T0 × (BA × (Int × Unit))))) (k0 : Int) (k : Bool → Option R) (φ : R → Option S) : w5_kind_B n l k0 (fun a => (k a).bind φ) = (w5_kind_B n l k0 k).bind φ := by
  unfold w5_kind_B
  first | (simp only [dup_self, both_self, iB, bB, oL, oX, nB]) | rfl
def w5_kind_hint (n : Nat) : Hint Out := { live := fun c => (cond (Nat.beq c 0) [(0, some (.sl (.pair (.pair (.int .i64) (.pair .str (.pair .bool (.pair (.pair .str (.pair .str .unit)) (.pair (.int .i64) .unit))))) (.pair .str (.pair (.int .i64) .unit))))), (1, none), (5, none)] (cond (Nat.beq c 5) [(0, some (.sl (.pair (.pair (.int .i64) (.pair .str (.pair .bool (.pair (.pair .str (.pair .str .unit)) (.pair (.int .i64) .unit))))) (.pair .str (.pair (.int .i64) .unit))))), (1, none), (5, none), (7, none), (9, none), (12, none)] (cond (Nat.beq c 2) [(0, some (.sl (.pair (.pair (.int .i64) (.pair .str (.pair .bool (.pair (.pair .str (.pair .str .unit)) (.pair (.int .i64) .unit))))) (.pair .str (.pair (.int .i64) .unit))))), (1, none), (5, none), (6, none), (7, none), (9, none), (10, none)] []))), run := fun c => (cond (Nat.beq c 0) (some (runL w5_kind_L0_sp w5_kind_L0_rp fun σ ρ K => (w5_kind_L0 n n σ.1 σ.2.1 σ.2.2.1).bind (w5_kind_L0_K K))) (cond (Nat.beq c 5) (some (runL w5_kind_L2_sp w5_kind_L2_rp fun σ ρ K => (w5_kind_L2 n n σ.1 σ.2.1 σ.2.2.1 σ.2.2.2.1 σ.2.2.2.2.1 σ.2.2.2.2.2.1).bind (w5_kind_L2_K K))) (cond (Nat.beq c 2) (some (runL w5_kind_L1_sp w5_kind_L1_rp fun σ ρ K => (w5_kind_L1 n n σ.1 σ.2.1 σ.2.2.1 σ.2.2.2.1 σ.2.2.2.2.1 σ.2.2.2.2.2.1 ρ.1.1 ρ.1.2.1 ρ.1.2.2.1 ρ.1.2.2.2.1 ρ.1.2.2.2.2.1 ρ.1.2.2.2.2.2.1 ρ.1.2.2.2.2.2.2.1 ρ.1.2.2.2.2.2.2.2.1).bind (w5_kind_L1_K K))) none))), xm := fun c q => (cond (Nat.beq c 0 && Nat.beq (q.getD 1000000) 0 && q.isSome) (some []) (cond (Nat.beq c 5 && Nat.beq (q.getD 1000000) 5 && q.isSome) (some [(0, some (.sl (.pair (.pair (.int .i64) (.pair .str (.pair .bool (.pair (.pair .str (.pair .str .unit)) (.pair (.int .i64) .unit))))) (.pair .str (.pair (.int .i64) .unit))))), (1, none), (5, none)]) (cond (Nat.beq c 6 && q.isNone) (some [(4, none)]) (cond (Nat.beq c 2 && Nat.beq (q.getD 1000000) 2 && q.isSome) (some [(0, some (.sl (.pair (.pair (.int .i64) (.pair .str (.pair .bool (.pair (.pair .str (.pair .str .unit)) (.pair (.int .i64) .unit))))) (.pair .str (.pair (.int .i64) .unit))))), (1, none), (5, none), (7, none), (9, none)]) (cond (Nat.beq c 3 && q.isNone) (some [(4, none)]) (cond (Nat.beq c 1 && q.isNone) (some [(4, none)]) none)))))), sch := fun c => (cond (Nat.beq c 32) (some [(0, 0), (1, 0), (2, 0), (3, 0), (4, 0), (5, 0), (6, 0), (7, 0), (8, 0), (9, 0), (10, 0), (11, 0), (13, 0), (12, 2), (14, 0), (15, 3), (16, 0)]) none) }
def w5_kind_L1_I (n : Nat) (K : XE → List AV → AHeap → Option Out) (m : Nat) (l2 : (Sq (T0 × (BA × (Int × Unit))))) (k02 : Int) (i1 : Int) (s : BA) (ok : Bool) (j : Int) (p : Int) (p1 : BA) (p2 : Bool) (p3 : BA) (p4 : BA) (p5 : Int) (p6 : BA) (p7 : Int) : Option Out := loopI tys (callees Out (w5_VerbTexts_es n)) (w5_kind_hint n) n (codeAt [1, 0, 1, 0, 0, 1, 0, 0, 1, 1, 1, 1, 1, 1, 0, 1, 0, 0] (bodyOf Tryz.f25)) 2 w5_kind_L1_sp w5_kind_L1_rp K m (l2, (k02, (i1, (s, (ok, (j, ())))))) ((p, (p1, (p2, (p3, (p4, (p5, (p6, (p7, ())))))))), ())
theorem w5_kind_L1_E (n : Nat) (K : XE → List AV → AHeap → Option Out) : ∀ (m : Nat) (l2 : (Sq (T0 × (BA × (Int × Unit))))) (k02 : Int) (i1 : Int) (s : BA) (ok : Bool) (j : Int) (p : Int) (p1 : BA) (p2 : Bool) (p3 : BA) (p4 : BA) (p5 : Int) (p6 : BA) (p7 : Int), w5_kind_L1_I n K m l2 k02 i1 s ok j p p1 p2 p3 p4 p5 p6 p7 = (w5_kind_L1 n m l2 k02 i1 s ok j p p1 p2 p3 p4 p5 p6 p7).bind (w5_kind_L1_K K)
  | 0, l2, k02, i1, s, ok, j, p, p1, p2, p3, p4, p5, p6, p7 => by kernel_rfl
  | m + 1, l2, k02, i1, s, ok, j, p, p1, p2, p3, p4, p5, p6, p7 => by
    have h1 : w5_kind_L1_I n K (m + 1) l2 k02 i1 s ok j p p1 p2 p3 p4 p5 p6 p7 = w5_kind_B1 n l2 k02 i1 s ok j p p1 p2 p3 p4 p5 p6 p7 (fun l2 k02 i1 s ok j p p1 p2 p3 p4 p5 p6 p7 => w5_kind_L1_I n K m l2 k02 i1 s ok j p p1 p2 p3 p4 p5 p6 p7) (fun a => w5_kind_L1_K K (.out a)) (fun a => w5_kind_L1_K K (.ret a)) (fun p => w5_kind_L1_K K (.pan p)) := by kernel_rfl
    have h2 : (fun l2 k02 i1 s ok j p p1 p2 p3 p4 p5 p6 p7 => w5_kind_L1_I n K m l2 k02 i1 s ok j p p1 p2 p3 p4 p5 p6 p7) = (fun l2 k02 i1 s ok j p p1 p2 p3 p4 p5 p6 p7 => (w5_kind_L1 n m l2 k02 i1 s ok j p p1 p2 p3 p4 p5 p6 p7).bind (w5_kind_L1_K K)) := funext fun l2 => funext fun k02 => funext fun i1 => funext fun s => funext fun ok => funext fun j => funext fun p => funext fun p1 => funext fun p2 => funext fun p3 => funext fun p4 => funext fun p5 => funext fun p6 => funext fun p7 => w5_kind_L1_E n K m l2 k02 i1 s ok j p p1 p2 p3 p4 p5 p6 p7
    exact h1.trans ((congrArg (fun z => w5_kind_B1 n l2 k02 i1 s ok j p p1 p2 p3 p4 p5 p6 p7 z (fun a => w5_kind_L1_K K (.out a)) (fun a => w5_kind_L1_K K (.ret a)) (fun p => w5_kind_L1_K K (.pan p))) h2).trans (w5_kind_B1_N n l2 k02 i1 s ok j p p1 p2 p3 p4 p5 p6 p7 (fun l2 k02 i1 s ok j p p1 p2 p3 p4 p5 p6 p7 => w5_kind_L1 n m l2 k02 i1 s ok j p p1 p2 p3 p4 p5 p6 p7) (fun a => some (.out a)) (fun a => some (.ret a)) (fun p => some (.pan p)) (w5_kind_L1_K K)))
theorem w5_kind_L1_ok (n : Nat) : RunOk tys (callees Out (w5_VerbTexts_es n)) (w5_kind_hint n) n (codeAt [1, 0, 1, 0, 0, 1, 0, 0, 1, 1, 1, 1, 1, 1, 0, 1, 0, 0] (bodyOf Tryz.f25)) 2 := runOk_of (sp := w5_kind_L1_sp) (rp := w5_kind_L1_rp) (F := fun σ ρ K => (w5_kind_L1 n n σ.1 σ.2.1 σ.2.2.1 σ.2.2.2.1 σ.2.2.2.2.1 σ.2.2.2.2.2.1 ρ.1.1 ρ.1.2.1 ρ.1.2.2.1 ρ.1.2.2.2.1 ρ.1.2.2.2.2.1 ρ.1.2.2.2.2.2.1 ρ.1.2.2.2.2.2.2.1 ρ.1.2.2.2.2.2.2.2.1).bind (w5_kind_L1_K K)) (by kernel_rfl) fun K σ ρ => w5_kind_L1_E n K n σ.1 σ.2.1 σ.2.2.1 σ.2.2.2.1 σ.2.2.2.2.1 σ.2.2.2.2.2.1 ρ.1.1 ρ.1.2.1 ρ.1.2.2.1 ρ.1.2.2.2.1 ρ.1.2.2.2.2.1 ρ.1.2.2.2.2.2.1 ρ.1.2.2.2.2.2.2.1 ρ.1.2.2.2.2.2.2.2.1
def w5_kind_L2_I (n : Nat) (K : XE → List AV → AHeap → Option Out) (m : Nat) (l4 : (Sq (T0 × (BA × (Int × Unit))))) (k04 : Int) (i3 : Int) (s2 : BA) (ok2 : Bool) (j1 : Int) : Option Out := loopI tys (callees Out (w5_VerbTexts_es n)) (w5_kind_hint n) n (codeAt [1, 0, 1, 0, 0, 1, 0, 0, 1, 1, 1, 1, 1, 1, 1, 1, 0, 0] (bodyOf Tryz.f25)) 5 w5_kind_L2_sp w5_kind_L2_rp K m (l4, (k04, (i3, (s2, (ok2, (j1, ())))))) ()
theorem w5_kind_L2_E (n : Nat) (K : XE → List AV → AHeap → Option Out) : ∀ (m : Nat) (l4 : (Sq (T0 × (BA × (Int × Unit))))) (k04 : Int) (i3 : Int) (s2 : BA) (ok2 : Bool) (j1 : Int), w5_kind_L2_I n K m l4 k04 i3 s2 ok2 j1 = (w5_kind_L2 n m l4 k04 i3 s2 ok2 j1).bind (w5_kind_L2_K K)
  | 0, l4, k04, i3, s2, ok2, j1 => by kernel_rfl
  | m + 1, l4, k04, i3, s2, ok2, j1 => by
    have h1 : w5_kind_L2_I n K (m + 1) l4 k04 i3 s2 ok2 j1 = w5_kind_B2 n l4 k04 i3 s2 ok2 j1 (fun l4 k04 i3 s2 ok2 j1 => w5_kind_L2_I n K m l4 k04 i3 s2 ok2 j1) (fun a => w5_kind_L2_K K (.out a)) (fun a => w5_kind_L2_K K (.ret a)) (fun p => w5_kind_L2_K K (.pan p)) := by kernel_rfl
    have h2 : (fun l4 k04 i3 s2 ok2 j1 => w5_kind_L2_I n K m l4 k04 i3 s2 ok2 j1) = (fun l4 k04 i3 s2 ok2 j1 => (w5_kind_L2 n m l4 k04 i3 s2 ok2 j1).bind (w5_kind_L2_K K)) := funext fun l4 => funext fun k04 => funext fun i3 => funext fun s2 => funext fun ok2 => funext fun j1 => w5_kind_L2_E n K m l4 k04 i3 s2 ok2 j1
    exact h1.trans ((congrArg (fun z => w5_kind_B2 n l4 k04 i3 s2 ok2 j1 z (fun a => w5_kind_L2_K K (.out a)) (fun a => w5_kind_L2_K K (.ret a)) (fun p => w5_kind_L2_K K (.pan p))) h2).trans (w5_kind_B2_N n l4 k04 i3 s2 ok2 j1 (fun l4 k04 i3 s2 ok2 j1 => w5_kind_L2 n m l4 k04 i3 s2 ok2 j1) (fun a => some (.out a)) (fun a => some (.ret a)) (fun p => some (.pan p)) (w5_kind_L2_K K)))
theorem w5_kind_L2_ok (n : Nat) : RunOk tys (callees Out (w5_VerbTexts_es n)) (w5_kind_hint n) n (codeAt [1, 0, 1, 0, 0, 1, 0, 0, 1, 1, 1, 1, 1, 1, 1, 1, 0, 0] (bodyOf Tryz.f25)) 5 := runOk_of (sp := w5_kind_L2_sp) (rp := w5_kind_L2_rp) (F := fun σ ρ K => (w5_kind_L2 n n σ.1 σ.2.1 σ.2.2.1 σ.2.2.2.1 σ.2.2.2.2.1 σ.2.2.2.2.2.1).bind (w5_kind_L2_K K)) (by kernel_rfl) fun K σ ρ => w5_kind_L2_E n K n σ.1 σ.2.1 σ.2.2.1 σ.2.2.2.1 σ.2.2.2.2.1 σ.2.2.2.2.2.1
def w5_kind_L0_I (n : Nat) (K : XE → List AV → AHeap → Option Out) (m : Nat) (l1 : (Sq (T0 × (BA × (Int × Unit))))) (k01 : Int) (i : Int) : Option Out := loopI tys (callees Out (w5_VerbTexts_es n)) (w5_kind_hint n) n (codeAt [1, 0, 1, 0, 0] (bodyOf Tryz.f25)) 0 w5_kind_L0_sp w5_kind_L0_rp K m (l1, (k01, (i, ()))) ()
theorem w5_kind_L0_E (n : Nat) (K : XE → List AV → AHeap → Option Out) : ∀ (m : Nat) (l1 : (Sq (T0 × (BA × (Int × Unit))))) (k01 : Int) (i : Int), w5_kind_L0_I n K m l1 k01 i = (w5_kind_L0 n m l1 k01 i).bind (w5_kind_L0_K K)
  | 0, l1, k01, i => by kernel_rfl
  | m + 1, l1, k01, i => by
    have h1 : w5_kind_L0_I n K (m + 1) l1 k01 i = w5_kind_B0 n l1 k01 i (fun l1 k01 i => w5_kind_L0_I n K m l1 k01 i) (fun a => w5_kind_L0_K K (.out a)) (fun a => w5_kind_L0_K K (.ret a)) (fun p => w5_kind_L0_K K (.pan p)) := by kernel_rfl
    have h2 : (fun l1 k01 i => w5_kind_L0_I n K m l1 k01 i) = (fun l1 k01 i => (w5_kind_L0 n m l1 k01 i).bind (w5_kind_L0_K K)) := funext fun l1 => funext fun k01 => funext fun i => w5_kind_L0_E n K m l1 k01 i
    exact h1.trans ((congrArg (fun z => w5_kind_B0 n l1 k01 i z (fun a => w5_kind_L0_K K (.out a)) (fun a => w5_kind_L0_K K (.ret a)) (fun p => w5_kind_L0_K K (.pan p))) h2).trans (w5_kind_B0_N n l1 k01 i (fun l1 k01 i => w5_kind_L0 n m l1 k01 i) (fun a => some (.out a)) (fun a => some (.ret a)) (fun p => some (.pan p)) (w5_kind_L0_K K)))
theorem w5_kind_L0_ok (n : Nat) : RunOk tys (callees Out (w5_VerbTexts_es n)) (w5_kind_hint n) n (codeAt [1, 0, 1, 0, 0] (bodyOf Tryz.f25)) 0 := runOk_of (sp := w5_kind_L0_sp) (rp := w5_kind_L0_rp) (F := fun σ ρ K => (w5_kind_L0 n n σ.1 σ.2.1 σ.2.2.1).bind (w5_kind_L0_K K)) (by kernel_rfl) fun K σ ρ => w5_kind_L0_E n K n σ.1 σ.2.1 σ.2.2.1
theorem w5_kind_runs (n : Nat) : RunsOk tys (callees Out (w5_VerbTexts_es n)) (w5_kind_hint n) n (bodyOf Tryz.f25) 0 := ⟨trivial, ⟨⟨trivial, ⟨w5_kind_L0_ok n, ⟨⟨trivial, ⟨trivial, trivial⟩⟩, ⟨⟨trivial, ⟨⟨trivial, ⟨⟨trivial, trivial⟩, trivial⟩⟩, ⟨⟨trivial, ⟨trivial, trivial⟩⟩, ⟨trivial, ⟨trivial, ⟨⟨trivial, ⟨⟨trivial, trivial⟩, trivial⟩⟩, ⟨⟨trivial, ⟨w5_kind_L1_ok n, ⟨⟨trivial, ⟨trivial, trivial⟩⟩, ⟨⟨trivial, ⟨⟨trivial, ⟨trivial, ⟨trivial, ⟨trivial, ⟨trivial, ⟨trivial, ⟨trivial, ⟨trivial, ⟨trivial, ⟨trivial, ⟨trivial, trivial⟩⟩⟩⟩⟩⟩⟩⟩⟩⟩⟩, ⟨trivial, ⟨⟨trivial, trivial⟩, trivial⟩⟩⟩⟩, trivial⟩⟩⟩⟩, ⟨trivial, ⟨w5_kind_L2_ok n, ⟨⟨trivial, ⟨trivial, trivial⟩⟩, ⟨⟨trivial, ⟨trivial, ⟨trivial, ⟨trivial, ⟨⟨trivial, trivial⟩, trivial⟩⟩⟩⟩⟩, trivial⟩⟩⟩⟩⟩⟩⟩⟩⟩⟩⟩, trivial⟩⟩⟩⟩, ⟨trivial, trivial⟩⟩⟩
theorem w5_kind_at : Tryz.prog.funcs[25]? = some Tryz.f25 := by kernel_rfl
theorem w5_kind_ent (n : Nat) : Enters Tryz.prog 25 := enters_of (c := bodyOf Tryz.f25) w5_kind_at (by kernel_rfl) (by kernel_rfl)
theorem w5_kind_E (n : Nat) (l : (Sq (T0 × (BA × (Int × Unit))))) (k0 : Int) : fnA tys (callees Out (w5_VerbTexts_es n)) (w5_kind_hint n) n Tryz.f25 (encL (.pair (.sl (.pair (.pair (.int .i64) (.pair .str (.pair .bool (.pair (.pair .str (.pair .str .unit)) (.pair (.int .i64) .unit))))) (.pair .str (.pair (.int .i64) .unit)))) (.pair (.int .i64) .unit)) (l, (k0, ()))) [] (soloA fun v => some (.ret v)) (soloA fun v => some (.pan v)) = w5_kind_B n l k0 (fun y => some (.ret (encR (.one .bool) y))) := by kernel_rfl
def w5_kind_en (n : Nat) : Entry := ⟨25, pcT (.pair (.sl (.pair (.pair (.int .i64) (.pair .str (.pair .bool (.pair (.pair .str (.pair .str .unit)) (.pair (.int .i64) .unit))))) (.pair .str (.pair (.int .i64) .unit)))) (.pair (.int .i64) .unit)) (.one .bool) (fun xs => w5_kind n xs.1 xs.2.1), none, none⟩
theorem w5_kind_ok (n : Nat) : EntryOk Tryz.prog gl (w5_kind_en n) :=
  pcT_ok (w5_kind_ent n) fun xs y h => ans_of_fn tys_ok (w5_VerbTexts_es_ok n) mixed (hint := w5_kind_hint n) (n := n) (fn := Tryz.f25) w5_kind_at (runsC (w5_kind_runs n)) (run_ret (φ := (fun y => some (Out.ret (encR (.one .bool) y)))) ((w5_kind_E n xs.1 xs.2.1).trans (w5_kind_N (R := Bool) (S := Out) n xs.1 xs.2.1 some (fun y => some (Out.ret (encR (.one .bool) y))))) h)
def w5_kind_es (n : Nat) : List Entry := w5_kind_en n :: w5_VerbTexts_es n
theorem w5_kind_es_ok (n : Nat) : AllOk Tryz.prog gl (w5_kind_es n) := .cons (w5_kind_ok n) (w5_VerbTexts_es_ok n)
/- pouch/pouchlaw5.VerbHelos -/
def w5_VerbHelos_B (n : Nat) {R : Type} (l : (Sq (T0 × (BA × (Int × Unit))))) (k : Bool → Option R) : Option R :=
 (w5_kind n l (1 : Int)).bind fun v =>
 k v
def w5_VerbHelos (n : Nat) (l : (Sq (T0 × (BA × (Int × Unit))))) : Option Bool := w5_VerbHelos_B n l some
theorem w5_VerbHelos_N (n : Nat) {R S : Type} (l : (Sq (T0 × (BA × (Int × Unit))))) (k : Bool → Option R) (φ : R → Option S) : w5_VerbHelos_B n l (fun a => (k a).bind φ) = (w5_VerbHelos_B n l k).bind φ := by
  unfold w5_VerbHelos_B
  first | (simp only [dup_self, both_self, iB, bB, oL, oX, nB]) | rfl
def w5_VerbHelos_hint (n : Nat) : Hint Out := { live := fun c => [], run := fun c => none, xm := fun c q => none }
theorem w5_VerbHelos_runs (n : Nat) : RunsOk tys (callees Out (w5_kind_es n)) (w5_VerbHelos_hint n) n (bodyOf Tryz.f6) 0 := runs_noloop (fun _ => rfl) _ _ (by kernel_rfl)
theorem w5_VerbHelos_at : Tryz.prog.funcs[6]? = some Tryz.f6 := by kernel_rfl
theorem w5_VerbHelos_ent (n : Nat) : Enters Tryz.prog 6 := enters_of (c := bodyOf Tryz.f6) w5_VerbHelos_at (by kernel_rfl) (by kernel_rfl)
theorem w5_VerbHelos_E (n : Nat) (l : (Sq (T0 × (BA × (Int × Unit))))) : fnA tys (callees Out (w5_kind_es n)) (w5_VerbHelos_hint n) n Tryz.f6 (encL (.pair (.sl (.pair (.pair (.int .i64) (.pair .str (.pair .bool (.pair (.pair .str (.pair .str .unit)) (.pair (.int .i64) .unit))))) (.pair .str (.pair (.int .i64) .unit)))) .unit) (l, ())) [] (soloA fun v => some (.ret v)) (soloA fun v => some (.pan v)) = w5_VerbHelos_B n l (fun y => some (.ret (encR (.one .bool) y))) := by kernel_rfl
def w5_VerbHelos_en (n : Nat) : Entry := ⟨6, pcT (.pair (.sl (.pair (.pair (.int .i64) (.pair .str (.pair .bool (.pair (.pair .str (.pair .str .unit)) (.pair (.int .i64) .unit))))) (.pair .str (.pair (.int .i64) .unit)))) .unit) (.one .bool) (fun xs => w5_VerbHelos n xs.1), none, none⟩
theorem w5_VerbHelos_ok (n : Nat) : EntryOk Tryz.prog gl (w5_VerbHelos_en n) :=
  pcT_ok (w5_VerbHelos_ent n) fun xs y h => ans_of_fn tys_ok (w5_kind_es_ok n) mixed (hint := w5_VerbHelos_hint n) (n := n) (fn := Tryz.f6) w5_VerbHelos_at (runsC (w5_VerbHelos_runs n)) (run_ret (φ := (fun y => some (Out.ret (encR (.one .bool) y)))) ((w5_VerbHelos_E n xs.1).trans (w5_VerbHelos_N (R := Bool) (S := Out) n xs.1 some (fun y => some (Out.ret (encR (.one .bool) y))))) h)
def w5_VerbHelos_es (n : Nat) : List Entry := w5_VerbHelos_en n :: w5_kind_es n
theorem w5_VerbHelos_es_ok (n : Nat) : AllOk Tryz.prog gl (w5_VerbHelos_es n) := .cons (w5_VerbHelos_ok n) (w5_kind_es_ok n)
/- pouch/pouchlaw5.VerbEhlos -/
def w5_VerbEhlos_B (n : Nat) {R : Type} (l : (Sq (T0 × (BA × (Int × Unit))))) (k : Bool → Option R) : Option R :=
 (w5_kind n l (2 : Int)).bind fun v =>
 k v
def w5_VerbEhlos (n : Nat) (l : (Sq (T0 × (BA × (Int × Unit))))) : Option Bool := w5_VerbEhlos_B n l some
theorem w5_VerbEhlos_N (n : Nat) {R S : Type} (l : (Sq (T0 × (BA × (Int × Unit))))) (k : Bool → Option R) (φ : R → Option S) : w5_VerbEhlos_B n l (fun a => (k a).bind φ) = (w5_VerbEhlos_B n l k).bind φ := by
  unfold w5_VerbEhlos_B
  first | (simp only [dup_self, both_self, iB, bB, oL, oX, nB]) | rfl
def w5_VerbEhlos_hint (n : Nat) : Hint Out := { live := fun c => [], run := fun c => none, xm := fun c q => none }
theorem w5_VerbEhlos_runs (n : Nat) : RunsOk tys (callees Out (w5_VerbHelos_es n)) (w5_VerbEhlos_hint n) n (bodyOf Tryz.f7) 0 := runs_noloop (fun _ => rfl) _ _ (by kernel_rfl)
theorem w5_VerbEhlos_at : Tryz.prog.funcs[7]? = some Tryz.f7 := by kernel_rfl
theorem w5_VerbEhlos_ent (n : Nat) : Enters Tryz.prog 7 := enters_of (c := bodyOf Tryz.f7) w5_VerbEhlos_at (by kernel_rfl) (by kernel_rfl)
theorem w5_VerbEhlos_E (n : Nat) (l : (Sq (T0 × (BA × (Int × Unit))))) : fnA tys (callees Out (w5_VerbHelos_es n)) (w5_VerbEhlos_hint n) n Tryz.f7 (encL (.pair (.sl (.pair (.pair (.int .i64) (.pair .str (.pair .bool (.pair (.pair .str (.pair .str .unit)) (.pair (.int .i64) .unit))))) (.pair .str (.pair (.int .i64) .unit)))) .unit) (l, ())) [] (soloA fun v => some (.ret v)) (soloA fun v => some (.pan v)) = w5_VerbEhlos_B n l (fun y => some (.ret (encR (.one .bool) y))) := by kernel_rfl
def w5_VerbEhlos_en (n : Nat) : Entry := ⟨7, pcT (.pair (.sl (.pair (.pair (.int .i64) (.pair .str (.pair .bool (.pair (.pair .str (.pair .str .unit)) (.pair (.int .i64) .unit))))) (.pair .str (.pair (.int .i64) .unit)))) .unit) (.one .bool) (fun xs => w5_VerbEhlos n xs.1), none, none⟩
theorem w5_VerbEhlos_ok (n : Nat) : EntryOk Tryz.prog gl (w5_VerbEhlos_en n) :=
  pcT_ok (w5_VerbEhlos_ent n) fun xs y h => ans_of_fn tys_ok (w5_VerbHelos_es_ok n) mixed (hint := w5_VerbEhlos_hint n) (n := n) (fn := Tryz.f7) w5_VerbEhlos_at (runsC (w5_VerbEhlos_runs n)) (run_ret (φ := (fun y => some (Out.ret (encR (.one .bool) y)))) ((w5_VerbEhlos_E n xs.1).trans (w5_VerbEhlos_N (R := Bool) (S := Out) n xs.1 some (fun y => some (Out.ret (encR (.one .bool) y))))) h)
def w5_VerbEhlos_es (n : Nat) : List Entry := w5_VerbEhlos_en n :: w5_VerbHelos_es n
theorem w5_VerbEhlos_es_ok (n : Nat) : AllOk Tryz.prog gl (w5_VerbEhlos_es n) := .cons (w5_VerbEhlos_ok n) (w5_VerbHelos_es_ok n)
/- pouch/pouchlaw5.VerbMails -/
def w5_VerbMails_B (n : Nat) {R : Type} (l : (Sq (T0 × (BA × (Int × Unit))))) (k : Bool → Option R) : Option R :=
 (w5_kind n l (3 : Int)).bind fun v =>
 k v
def w5_VerbMails (n : Nat) (l : (Sq (T0 × (BA × (Int × Unit))))) : Option Bool := w5_VerbMails_B n l some
theorem w5_VerbMails_N (n : Nat) {R S : Type} (l : (Sq (T0 × (BA × (Int × Unit))))) (k : Bool → Option R) (φ : R → Option S) : w5_VerbMails_B n l (fun a => (k a).bind φ) = (w5_VerbMails_B n l k).bind φ := by
  unfold w5_VerbMails_B
  first | (simp only [dup_self, both_self, iB, bB, oL, oX, nB]) | rfl
def w5_VerbMails_hint (n : Nat) : Hint Out := { live := fun c => [], run := fun c => none, xm := fun c q => none }
theorem w5_VerbMails_runs (n : Nat) : RunsOk tys (callees Out (w5_VerbEhlos_es n)) (w5_VerbMails_hint n) n (bodyOf Tryz.f8) 0 := runs_noloop (fun _ => rfl) _ _ (by kernel_rfl)
theorem w5_VerbMails_at : Tryz.prog.funcs[8]? = some Tryz.f8 := by kernel_rfl
theorem w5_VerbMails_ent (n : Nat) : Enters Tryz.prog 8 := enters_of (c := bodyOf Tryz.f8) w5_VerbMails_at (by kernel_rfl) (by kernel_rfl)
theorem w5_VerbMails_E (n : Nat) (l : (Sq (T0 × (BA × (Int × Unit))))) : fnA tys (callees Out (w5_VerbEhlos_es n)) (w5_VerbMails_hint n) n Tryz.f8 (encL (.pair (.sl (.pair (.pair (.int .i64) (.pair .str (.pair .bool (.pair (.pair .str (.pair .str .unit)) (.pair (.int .i64) .unit))))) (.pair .str (.pair (.int .i64) .unit)))) .unit) (l, ())) [] (soloA fun v => some (.ret v)) (soloA fun v => some (.pan v)) = w5_VerbMails_B n l (fun y => some (.ret (encR (.one .bool) y))) := by kernel_rfl
def w5_VerbMails_en (n : Nat) : Entry := ⟨8, pcT (.pair (.sl (.pair (.pair (.int .i64) (.pair .str (.pair .bool (.pair (.pair .str (.pair .str .unit)) (.pair (.int .i64) .unit))))) (.pair .str (.pair (.int .i64) .unit)))) .unit) (.one .bool) (fun xs => w5_VerbMails n xs.1), none, none⟩
theorem w5_VerbMails_ok (n : Nat) : EntryOk Tryz.prog gl (w5_VerbMails_en n) :=
  pcT_ok (w5_VerbMails_ent n) fun xs y h => ans_of_fn tys_ok (w5_VerbEhlos_es_ok n) mixed (hint := w5_VerbMails_hint n) (n := n) (fn := Tryz.f8) w5_VerbMails_at (runsC (w5_VerbMails_runs n)) (run_ret (φ := (fun y => some (Out.ret (encR (.one .bool) y)))) ((w5_VerbMails_E n xs.1).trans (w5_VerbMails_N (R := Bool) (S := Out) n xs.1 some (fun y => some (Out.ret (encR (.one .bool) y))))) h)
def w5_VerbMails_es (n : Nat) : List Entry := w5_VerbMails_en n :: w5_VerbEhlos_es n
theorem w5_VerbMails_es_ok (n : Nat) : AllOk Tryz.prog gl (w5_VerbMails_es n) := .cons (w5_VerbMails_ok n) (w5_VerbEhlos_es_ok n)
/- pouch/pouchlaw5.VerbRcpts -/
def w5_VerbRcpts_B (n : Nat) {R : Type} (l : (Sq (T0 × (BA × (Int × Unit))))) (k : Bool → Option R) : Option R :=
 (w5_kind n l (4 : Int)).bind fun v =>
 k v
def w5_VerbRcpts (n : Nat) (l : (Sq (T0 × (BA × (Int × Unit))))) : Option Bool := w5_VerbRcpts_B n l some
theorem w5_VerbRcpts_N (n : Nat) {R S : Type} (l : (Sq (T0 × (BA × (Int × Unit))))) (k : Bool → Option R) (φ : R → Option S) : w5_VerbRcpts_B n l (fun a => (k a).bind φ) = (w5_VerbRcpts_B n l k).bind φ := by
  unfold w5_VerbRcpts_B
  first | (simp only [dup_self, both_self, iB, bB, oL, oX, nB]) | rfl
def w5_VerbRcpts_hint (n : Nat) : Hint Out := { live := fun c => [], run := fun c => none, xm := fun c q => none }
theorem w5_VerbRcpts_runs (n : Nat) : RunsOk tys (callees Out (w5_VerbMails_es n)) (w5_VerbRcpts_hint n) n (bodyOf Tryz.f9) 0 := runs_noloop (fun _ => rfl) _ _ (by kernel_rfl)
theorem w5_VerbRcpts_at : Tryz.prog.funcs[9]? = some Tryz.f9 := by kernel_rfl
theorem w5_VerbRcpts_ent (n : Nat) : Enters Tryz.prog 9 := enters_of (c := bodyOf Tryz.f9) w5_VerbRcpts_at (by kernel_rfl) (by kernel_rfl)
theorem w5_VerbRcpts_E (n : Nat) (l : (Sq (T0 × (BA × (Int × Unit))))) : fnA tys (callees Out (w5_VerbMails_es n)) (w5_VerbRcpts_hint n) n Tryz.f9 (encL (.pair (.sl (.pair (.pair (.int .i64) (.pair .str (.pair .bool (.pair (.pair .str (.pair .str .unit)) (.pair (.int .i64) .unit))))) (.pair .str (.pair (.int .i64) .unit)))) .unit) (l, ())) [] (soloA fun v => some (.ret v)) (soloA fun v => some (.pan v)) = w5_VerbRcpts_B n l (fun y => some (.ret (encR (.one .bool) y))) := by kernel_rfl
def w5_VerbRcpts_en (n : Nat) : Entry := ⟨9, pcT (.pair (.sl (.pair (.pair (.int .i64) (.pair .str (.pair .bool (.pair (.pair .str (.pair .str .unit)) (.pair (.int .i64) .unit))))) (.pair .str (.pair (.int .i64) .unit)))) .unit) (.one .bool) (fun xs => w5_VerbRcpts n xs.1), none, none⟩
theorem w5_VerbRcpts_ok (n : Nat) : EntryOk Tryz.prog gl (w5_VerbRcpts_en n) :=
  pcT_ok (w5_VerbRcpts_ent n) fun xs y h => ans_of_fn tys_ok (w5_VerbMails_es_ok n) mixed (hint := w5_VerbRcpts_hint n) (n := n) (fn := Tryz.f9) w5_VerbRcpts_at (runsC (w5_VerbRcpts_runs n)) (run_ret (φ := (fun y => some (Out.ret (encR (.one .bool) y)))) ((w5_VerbRcpts_E n xs.1).trans (w5_VerbRcpts_N (R := Bool) (S := Out) n xs.1 some (fun y => some (Out.ret (encR (.one .bool) y))))) h)
def w5_VerbRcpts_es (n : Nat) : List Entry := w5_VerbRcpts_en n :: w5_VerbMails_es n
theorem w5_VerbRcpts_es_ok (n : Nat) : AllOk Tryz.prog gl (w5_VerbRcpts_es n) := .cons (w5_VerbRcpts_ok n) (w5_VerbMails_es_ok n)
/- pouch/pouchlaw5.VerbDatas -/
def w5_VerbDatas_B (n : Nat) {R : Type} (l : (Sq (T0 × (BA × (Int × Unit))))) (k : Bool → Option R) : Option R :=
 (w5_kind n l (5 : Int)).bind fun v =>
 k v
def w5_VerbDatas (n : Nat) (l : (Sq (T0 × (BA × (Int × Unit))))) : Option Bool := w5_VerbDatas_B n l some
theorem w5_VerbDatas_N (n : Nat) {R S : Type} (l : (Sq (T0 × (BA × (Int × Unit))))) (k : Bool → Option R) (φ : R → Option S) : w5_VerbDatas_B n l (fun a => (k a).bind φ) = (w5_VerbDatas_B n l k).bind φ := by
  unfold w5_VerbDatas_B
  first | (simp only [dup_self, both_self, iB, bB, oL, oX, nB]) | rfl
def w5_VerbDatas_hint (n : Nat) : Hint Out := { live := fun c => [], run := fun c => none, xm := fun c q => none }
theorem w5_VerbDatas_runs (n : Nat) : RunsOk tys (callees Out (w5_VerbRcpts_es n)) (w5_VerbDatas_hint n) n (bodyOf Tryz.f10) 0 := runs_noloop (fun _ => rfl) _ _ (by kernel_rfl)
theorem w5_VerbDatas_at : Tryz.prog.funcs[10]? = some Tryz.f10 := by kernel_rfl
theorem w5_VerbDatas_ent (n : Nat) : Enters Tryz.prog 10 := enters_of (c := bodyOf Tryz.f10) w5_VerbDatas_at (by kernel_rfl) (by kernel_rfl)
theorem w5_VerbDatas_E (n : Nat) (l : (Sq (T0 × (BA × (Int × Unit))))) : fnA tys (callees Out (w5_VerbRcpts_es n)) (w5_VerbDatas_hint n) n Tryz.f10 (encL (.pair (.sl (.pair (.pair (.int .i64) (.pair .str (.pair .bool (.pair (.pair .str (.pair .str .unit)) (.pair (.int .i64) .unit))))) (.pair .str (.pair (.int .i64) .unit)))) .unit) (l, ())) [] (soloA fun v => some (.ret v)) (soloA fun v => some (.pan v)) = w5_VerbDatas_B n l (fun y => some (.ret (encR (.one .bool) y))) := by kernel_rfl
def w5_VerbDatas_en (n : Nat) : Entry := ⟨10, pcT (.pair (.sl (.pair (.pair (.int .i64) (.pair .str (.pair .bool (.pair (.pair .str (.pair .str .unit)) (.pair (.int .i64) .unit))))) (.pair .str (.pair (.int .i64) .unit)))) .unit) (.one .bool) (fun xs => w5_VerbDatas n xs.1), none, none⟩
theorem w5_VerbDatas_ok (n : Nat) : EntryOk Tryz.prog gl (w5_VerbDatas_en n) :=
  pcT_ok (w5_VerbDatas_ent n) fun xs y h => ans_of_fn tys_ok (w5_VerbRcpts_es_ok n) mixed (hint := w5_VerbDatas_hint n) (n := n) (fn := Tryz.f10) w5_VerbDatas_at (runsC (w5_VerbDatas_runs n)) (run_ret (φ := (fun y => some (Out.ret (encR (.one .bool) y)))) ((w5_VerbDatas_E n xs.1).trans (w5_VerbDatas_N (R := Bool) (S := Out) n xs.1 some (fun y => some (Out.ret (encR (.one .bool) y))))) h)
def w5_VerbDatas_es (n : Nat) : List Entry := w5_VerbDatas_en n :: w5_VerbRcpts_es n
theorem w5_VerbDatas_es_ok (n : Nat) : AllOk Tryz.prog gl (w5_VerbDatas_es n) := .cons (w5_VerbDatas_ok n) (w5_VerbRcpts_es_ok n)
/- pouch/pouchlaw5.VerbRsets -/
def w5_VerbRsets_B (n : Nat) {R : Type} (l : (Sq (T0 × (BA × (Int × Unit))))) (k : Bool → Option R) : Option R :=
 (w5_kind n l (6 : Int)).bind fun v =>
 k v
def w5_VerbRsets (n : Nat) (l : (Sq (T0 × (BA × (Int × Unit))))) : Option Bool := w5_VerbRsets_B n l some
theorem w5_VerbRsets_N (n : Nat) {R S : Type} (l : (Sq (T0 × (BA × (Int × Unit))))) (k : Bool → Option R) (φ : R → Option S) : w5_VerbRsets_B n l (fun a => (k a).bind φ) = (w5_VerbRsets_B n l k).bind φ := by
  unfold w5_VerbRsets_B
  first | (simp only [dup_self, both_self, iB, bB, oL, oX, nB]) | rfl
def w5_VerbRsets_hint (n : Nat) : Hint Out := { live := fun c => [], run := fun c => none, xm := fun c q => none }
theorem w5_VerbRsets_runs (n : Nat) : RunsOk tys (callees Out (w5_VerbDatas_es n)) (w5_VerbRsets_hint n) n (bodyOf Tryz.f11) 0 := runs_noloop (fun _ => rfl) _ _ (by kernel_rfl)
theorem w5_VerbRsets_at : Tryz.prog.funcs[11]? = some Tryz.f11 := by kernel_rfl
theorem w5_VerbRsets_ent (n : Nat) : Enters Tryz.prog 11 := enters_of (c := bodyOf Tryz.f11) w5_VerbRsets_at (by kernel_rfl) (by kernel_rfl)
theorem w5_VerbRsets_E (n : Nat) (l : (Sq (T0 × (BA × (Int × Unit))))) : fnA tys (callees Out (w5_VerbDatas_es n)) (w5_VerbRsets_hint n) n Tryz.f11 (encL (.pair (.sl (.pair (.pair (.int .i64) (.pair .str (.pair .bool (.pair (.pair .str (.pair .str .unit)) (.pair (.int .i64) .unit))))) (.pair .str (.pair (.int .i64) .unit)))) .unit) (l, ())) [] (soloA fun v => some (.ret v)) (soloA fun v => some (.pan v)) = w5_VerbRsets_B n l (fun y => some (.ret (encR (.one .bool) y))) := by kernel_rfl
def w5_VerbRsets_en (n : Nat) : Entry := ⟨11, pcT (.pair (.sl (.pair (.pair (.int .i64) (.pair .str (.pair .bool (.pair (.pair .str (.pair .str .unit)) (.pair (.int .i64) .unit))))) (.pair .str (.pair (.int .i64) .unit)))) .unit) (.one .bool) (fun xs => w5_VerbRsets n xs.1), none, none⟩
theorem w5_VerbRsets_ok (n : Nat) : EntryOk Tryz.prog gl (w5_VerbRsets_en n) :=
  pcT_ok (w5_VerbRsets_ent n) fun xs y h => ans_of_fn tys_ok (w5_VerbDatas_es_ok n) mixed (hint := w5_VerbRsets_hint n) (n := n) (fn := Tryz.f11) w5_VerbRsets_at (runsC (w5_VerbRsets_runs n)) (run_ret (φ := (fun y => some (Out.ret (encR (.one .bool) y)))) ((w5_VerbRsets_E n xs.1).trans (w5_VerbRsets_N (R := Bool) (S := Out) n xs.1 some (fun y => some (Out.ret (encR (.one .bool) y))))) h)
def w5_VerbRsets_es (n : Nat) : List Entry := w5_VerbRsets_en n :: w5_VerbDatas_es n
theorem w5_VerbRsets_es_ok (n : Nat) : AllOk Tryz.prog gl (w5_VerbRsets_es n) := .cons (w5_VerbRsets_ok n) (w5_VerbDatas_es_ok n)
/- pouch/pouchlaw5.VerbNoops -/
def w5_VerbNoops_B (n : Nat) {R : Type} (l : (Sq (T0 × (BA × (Int × Unit))))) (k : Bool → Option R) : Option R :=
 (w5_kind n l (7 : Int)).bind fun v =>
 k v
def w5_VerbNoops (n : Nat) (l : (Sq (T0 × (BA × (Int × Unit))))) : Option Bool := w5_VerbNoops_B n l some
theorem w5_VerbNoops_N (n : Nat) {R S : Type} (l : (Sq (T0 × (BA × (Int × Unit))))) (k : Bool → Option R) (φ : R → Option S) : w5_VerbNoops_B n l (fun a => (k a).bind φ) = (w5_VerbNoops_B n l k).bind φ := by
  unfold w5_VerbNoops_B
  first | (simp only [dup_self, both_self, iB, bB, oL, oX, nB]) | rfl
def w5_VerbNoops_hint (n : Nat) : Hint Out := { live := fun c => [], run := fun c => none, xm := fun c q => none }
theorem w5_VerbNoops_runs (n : Nat) : RunsOk tys (callees Out (w5_VerbRsets_es n)) (w5_VerbNoops_hint n) n (bodyOf Tryz.f12) 0 := runs_noloop (fun _ => rfl) _ _ (by kernel_rfl)
theorem w5_VerbNoops_at : Tryz.prog.funcs[12]? = some Tryz.f12 := by kernel_rfl
theorem w5_VerbNoops_ent (n : Nat) : Enters Tryz.prog 12 := enters_of (c := bodyOf Tryz.f12) w5_VerbNoops_at (by kernel_rfl) (by kernel_rfl)
theorem w5_VerbNoops_E (n : Nat) (l : (Sq (T0 × (BA × (Int × Unit))))) : fnA tys (callees Out (w5_VerbRsets_es n)) (w5_VerbNoops_hint n) n Tryz.f12 (encL (.pair (.sl (.pair (.pair (.int .i64) (.pair .str (.pair .bool (.pair (.pair .str (.pair .str .unit)) (.pair (.int .i64) .unit))))) (.pair .str (.pair (.int .i64) .unit)))) .unit) (l, ())) [] (soloA fun v => some (.ret v)) (soloA fun v => some (.pan v)) = w5_VerbNoops_B n l (fun y => some (.ret (encR (.one .bool) y))) := by kernel_rfl
def w5_VerbNoops_en (n : Nat) : Entry := ⟨12, pcT (.pair (.sl (.pair (.pair (.int .i64) (.pair .str (.pair .bool (.pair (.pair .str (.pair .str .unit)) (.pair (.int .i64) .unit))))) (.pair .str (.pair (.int .i64) .unit)))) .unit) (.one .bool) (fun xs => w5_VerbNoops n xs.1), none, none⟩
theorem w5_VerbNoops_ok (n : Nat) : EntryOk Tryz.prog gl (w5_VerbNoops_en n) :=
  pcT_ok (w5_VerbNoops_ent n) fun xs y h => ans_of_fn tys_ok (w5_VerbRsets_es_ok n) mixed (hint := w5_VerbNoops_hint n) (n := n) (fn := Tryz.f12) w5_VerbNoops_at (runsC (w5_VerbNoops_runs n)) (run_ret (φ := (fun y => some (Out.ret (encR (.one .bool) y)))) ((w5_VerbNoops_E n xs.1).trans (w5_VerbNoops_N (R := Bool) (S := Out) n xs.1 some (fun y => some (Out.ret (encR (.one .bool) y))))) h)
def w5_VerbNoops_es (n : Nat) : List Entry := w5_VerbNoops_en n :: w5_VerbRsets_es n
theorem w5_VerbNoops_es_ok (n : Nat) : AllOk Tryz.prog gl (w5_VerbNoops_es n) := .cons (w5_VerbNoops_ok n) (w5_VerbRsets_es_ok n)
/- pouch/pouchlaw5.VerbQuits -/
def w5_VerbQuits_B (n : Nat) {R : Type} (l : (Sq (T0 × (BA × (Int × Unit))))) (k : Bool → Option R) : Option R :=
 (w5_kind n l (8 : Int)).bind fun v =>
 k v
def w5_VerbQuits (n : Nat) (l : (Sq (T0 × (BA × (Int × Unit))))) : Option Bool := w5_VerbQuits_B n l some
theorem w5_VerbQuits_N (n : Nat) {R S : Type} (l : (Sq (T0 × (BA × (Int × Unit))))) (k : Bool → Option R) (φ : R → Option S) : w5_VerbQuits_B n l (fun a => (k a).bind φ) = (w5_VerbQuits_B n l k).bind φ := by
  unfold w5_VerbQuits_B
  first | (simp only [dup_self, both_self, iB, bB, oL, oX, nB]) | rfl
def w5_VerbQuits_hint (n : Nat) : Hint Out := { live := fun c => [], run := fun c => none, xm := fun c q => none }
theorem w5_VerbQuits_runs (n : Nat) : RunsOk tys (callees Out (w5_VerbNoops_es n)) (w5_VerbQuits_hint n) n (bodyOf Tryz.f13) 0 := runs_noloop (fun _ => rfl) _ _ (by kernel_rfl)
theorem w5_VerbQuits_at : Tryz.prog.funcs[13]? = some Tryz.f13 := by kernel_rfl
theorem w5_VerbQuits_ent (n : Nat) : Enters Tryz.prog 13 := enters_of (c := bodyOf Tryz.f13) w5_VerbQuits_at (by kernel_rfl) (by kernel_rfl)
theorem w5_VerbQuits_E (n : Nat) (l : (Sq (T0 × (BA × (Int × Unit))))) : fnA tys (callees Out (w5_VerbNoops_es n)) (w5_VerbQuits_hint n) n Tryz.f13 (encL (.pair (.sl (.pair (.pair (.int .i64) (.pair .str (.pair .bool (.pair (.pair .str (.pair .str .unit)) (.pair (.int .i64) .unit))))) (.pair .str (.pair (.int .i64) .unit)))) .unit) (l, ())) [] (soloA fun v => some (.ret v)) (soloA fun v => some (.pan v)) = w5_VerbQuits_B n l (fun y => some (.ret (encR (.one .bool) y))) := by kernel_rfl
def w5_VerbQuits_en (n : Nat) : Entry := ⟨13, pcT (.pair (.sl (.pair (.pair (.int .i64) (.pair .str (.pair .bool (.pair (.pair .str (.pair .str .unit)) (.pair (.int .i64) .unit))))) (.pair .str (.pair (.int .i64) .unit)))) .unit) (.one .bool) (fun xs => w5_VerbQuits n xs.1), none, none⟩
theorem w5_VerbQuits_ok (n : Nat) : EntryOk Tryz.prog gl (w5_VerbQuits_en n) :=
  pcT_ok (w5_VerbQuits_ent n) fun xs y h => ans_of_fn tys_ok (w5_VerbNoops_es_ok n) mixed (hint := w5_VerbQuits_hint n) (n := n) (fn := Tryz.f13) w5_VerbQuits_at (runsC (w5_VerbQuits_runs n)) (run_ret (φ := (fun y => some (Out.ret (encR (.one .bool) y)))) ((w5_VerbQuits_E n xs.1).trans (w5_VerbQuits_N (R := Bool) (S := Out) n xs.1 some (fun y => some (Out.ret (encR (.one .bool) y))))) h)
def w5_VerbQuits_es (n : Nat) : List Entry := w5_VerbQuits_en n :: w5_VerbNoops_es n
theorem w5_VerbQuits_es_ok (n : Nat) : AllOk Tryz.prog gl (w5_VerbQuits_es n) := .cons (w5_VerbQuits_ok n) (w5_VerbNoops_es_ok n)
/- pouch/pouchlaw5.VerbVrfys -/
def w5_VerbVrfys_B (n : Nat) {R : Type} (l : (Sq (T0 × (BA × (Int × Unit))))) (k : Bool → Option R) : Option R :=
 (w5_kind n l (9 : Int)).bind fun v =>
 k v
def w5_VerbVrfys (n : Nat) (l : (Sq (T0 × (BA × (Int × Unit))))) : Option Bool := w5_VerbVrfys_B n l some
theorem w5_VerbVrfys_N (n : Nat) {R S : Type} (l : (Sq (T0 × (BA × (Int × Unit))))) (k : Bool → Option R) (φ : R → Option S) : w5_VerbVrfys_B n l (fun a => (k a).bind φ) = (w5_VerbVrfys_B n l k).bind φ := by
  unfold w5_VerbVrfys_B
  first | (simp only [dup_self, both_self, iB, bB, oL, oX, nB]) | rfl
def w5_VerbVrfys_hint (n : Nat) : Hint Out := { live := fun c => [], run := fun c => none, xm := fun c q => none }
theorem w5_VerbVrfys_runs (n : Nat) : RunsOk tys (callees Out (w5_VerbQuits_es n)) (w5_VerbVrfys_hint n) n (bodyOf Tryz.f14) 0 := runs_noloop (fun _ => rfl) _ _ (by kernel_rfl)
theorem w5_VerbVrfys_at : Tryz.prog.funcs[14]? = some Tryz.f14 := by kernel_rfl
theorem w5_VerbVrfys_ent (n : Nat) : Enters Tryz.prog 14 := enters_of (c := bodyOf Tryz.f14) w5_VerbVrfys_at (by kernel_rfl) (by kernel_rfl)
theorem w5_VerbVrfys_E (n : Nat) (l : (Sq (T0 × (BA × (Int × Unit))))) : fnA tys (callees Out (w5_VerbQuits_es n)) (w5_VerbVrfys_hint n) n Tryz.f14 (encL (.pair (.sl (.pair (.pair (.int .i64) (.pair .str (.pair .bool (.pair (.pair .str (.pair .str .unit)) (.pair (.int .i64) .unit))))) (.pair .str (.pair (.int .i64) .unit)))) .unit) (l, ())) [] (soloA fun v => some (.ret v)) (soloA fun v => some (.pan v)) = w5_VerbVrfys_B n l (fun y => some (.ret (encR (.one .bool) y))) := by kernel_rfl
def w5_VerbVrfys_en (n : Nat) : Entry := ⟨14, pcT (.pair (.sl (.pair (.pair (.int .i64) (.pair .str (.pair .bool (.pair (.pair .str (.pair .str .unit)) (.pair (.int .i64) .unit))))) (.pair .str (.pair (.int .i64) .unit)))) .unit) (.one .bool) (fun xs => w5_VerbVrfys n xs.1), none, none⟩
theorem w5_VerbVrfys_ok (n : Nat) : EntryOk Tryz.prog gl (w5_VerbVrfys_en n) :=
  pcT_ok (w5_VerbVrfys_ent n) fun xs y h => ans_of_fn tys_ok (w5_VerbQuits_es_ok n) mixed (hint := w5_VerbVrfys_hint n) (n := n) (fn := Tryz.f14) w5_VerbVrfys_at (runsC (w5_VerbVrfys_runs n)) (run_ret (φ := (fun y => some (Out.ret (encR (.one .bool) y)))) ((w5_VerbVrfys_E n xs.1).trans (w5_VerbVrfys_N (R := Bool) (S := Out) n xs.1 some (fun y => some (Out.ret (encR (.one .bool) y))))) h)
def w5_VerbVrfys_es (n : Nat) : List Entry := w5_VerbVrfys_en n :: w5_VerbQuits_es n
theorem w5_VerbVrfys_es_ok (n : Nat) : AllOk Tryz.prog gl (w5_VerbVrfys_es n) := .cons (w5_VerbVrfys_ok n) (w5_VerbQuits_es_ok n)
end
end Go.Proofs.YtbmcabjgeegjkaaGreatDoor.AM
namespace Go.Proofs.YtbmcabjgeegjkaaGreatDoor.AM
open Go Go.RowKit
noncomputable section
/- pouch/pouchlaw5.turned -/
def w5_turned_B0 (n : Nat) {R : Type} (n01 : Int) (i : Int) (b : (Sq Int)) (kn : Int → Int → (Sq Int) → Option R) (ko : ((Sq Int)) → Option R) (kr : Unit → Option R) (kp : Int → Option R) : Option R :=
 if (decide (i < (b.n : Int))) = true then
  if (decide (i < (10 : Int))) = true then
   if 0 ≤ i ∧ i < (b.n : Int) then
    if ((b.at' (Int.toNat i)) == (60 : Int)) = true then
     ko b
    else
     if 0 ≤ i ∧ i < (b.n : Int) then
      if (decide ((b.at' (Int.toNat i)) ≥ (65 : Int))) = true then
       if 0 ≤ i ∧ i < (b.n : Int) then
        if (decide ((b.at' (Int.toNat i)) ≤ (90 : Int))) = true then
         if (Int.tmod i (60 : Int)) < 0 then
          none
         else
          if ((bits .and .i64 (Int.fdiv n01 (2 ^ (min (Int.toNat (Int.tmod i (60 : Int))) (IntKind.bits .i64)))) (1 : Int)) == (1 : Int)) = true then
           if 0 ≤ i ∧ i < (b.n : Int) then
            if 0 ≤ i ∧ i < (b.n : Int) then
             kn n01 (IntKind.wrap .i64 (i + (1 : Int))) (⟨b.n, fun q => if q = (Int.toNat i) ∧ q < b.n then (IntKind.wrap .u8 ((b.at' (Int.toNat i)) + (32 : Int))) else b.at' q⟩ : Sq Int)
            else
             none
           else
            none
          else
           kn n01 (IntKind.wrap .i64 (i + (1 : Int))) b
        else
         kn n01 (IntKind.wrap .i64 (i + (1 : Int))) b
       else
        none
      else
       kn n01 (IntKind.wrap .i64 (i + (1 : Int))) b
     else
      none
   else
    none
  else
   ko b
 else
  ko b
theorem w5_turned_B0_N (n : Nat) {R S : Type} (n01 : Int) (i : Int) (b : (Sq Int)) (kn : Int → Int → (Sq Int) → Option R) (ko : ((Sq Int)) → Option R) (kr : Unit → Option R) (kp : Int → Option R) (φ : R → Option S) : w5_turned_B0 n n01 i b (fun n01 i b => (kn n01 i b).bind φ) (fun a => (ko a).bind φ) (fun a => (kr a).bind φ) (fun a => (kp a).bind φ) = (w5_turned_B0 n n01 i b kn ko kr kp).bind φ := by
  unfold w5_turned_B0
  first | (simp only [dup_self, both_self, iB, bB, oL, oX, nB]) | rfl
def w5_turned_L0 (n : Nat) : Nat → Int → Int → (Sq Int) → Option (Lx ((Sq Int)) Unit)
  | 0, _, _, _ => none
  | m + 1, n01, i, b => w5_turned_B0 n n01 i b (fun n01 i b => w5_turned_L0 n m n01 i b) (fun a => some (.out a)) (fun a => some (.ret a)) (fun p => some (.pan p))
def w5_turned_L0_sp : List Sl := .top :: .dat (.int .i64) :: .top :: .top :: .top :: .row 0 :: .dat (.int .i64) :: tp 47 []
def w5_turned_L0_rp : List RS := [.row 5 1 (.int .u8) false true]
def w5_turned_L0_out_sp : List Sl := tp 5 (.row 0 :: tp 48 [])
def w5_turned_L0_out_rp : List RS := [.row 5 1 (.int .u8) false true]
def w5_turned_L0_K (K : XE → List AV → AHeap → Option Out) : Lx ((Sq Int)) Unit → Option Out := fun x => onL x (fun a => layK w5_turned_L0_out_sp w5_turned_L0_out_rp () (a, ()) (K (.exit 0))) (fun _ => none) (fun _ => none)
def w5_turned_B (n : Nat) {R : Type} (s : BA) (n0 : Int) (k : BA → Option R) : Option R :=
 (w5_turned_L0 n n n0 (0 : Int) (⟨s.size, fun q => bt s q⟩ : Sq Int)).bind fun x_1 => onL x_1
  (fun a_2 =>
   k (strOf a_2.n a_2.at'))
  (fun _ => none)
  (fun _ => none)
def w5_turned (n : Nat) (s : BA) (n0 : Int) : Option BA := w5_turned_B n s n0 some
theorem w5_turned_N (n : Nat) {R S : Type} (s : BA) (n0 : Int) (k : BA → Option R) (φ : R → Option S) : w5_turned_B n s n0 (fun a => (k a).bind φ) = (w5_turned_B n s n0 k).bind φ := by
  unfold w5_turned_B
  first | (simp only [dup_self, both_self, iB, bB, oL, oX, nB]) | rfl
def w5_turned_hint (n : Nat) : Hint Out := { live := fun c => (cond (Nat.beq c 0) [(1, none), (5, some (.sl (.int .u8))), (6, none)] []), run := fun c => (cond (Nat.beq c 0) (some (runL w5_turned_L0_sp w5_turned_L0_rp fun σ ρ K => (w5_turned_L0 n n σ.1 σ.2.1 ρ.1).bind (w5_turned_L0_K K))) none), xm := fun c q => (cond (Nat.beq c 0 && Nat.beq (q.getD 1000000) 0 && q.isSome) (some [(5, some (.sl (.int .u8)))]) (cond (Nat.beq c 1 && Nat.beq (q.getD 1000000) 0 && q.isSome) (some [(5, some (.sl (.int .u8)))]) none)) }
def w5_turned_L0_I (n : Nat) (K : XE → List AV → AHeap → Option Out) (m : Nat) (n01 : Int) (i : Int) (b : (Sq Int)) : Option Out := loopI tys (callees Out (w5_VerbVrfys_es n)) (w5_turned_hint n) n (codeAt [1, 1, 0, 1, 0, 0] (bodyOf Tryz.f21)) 0 w5_turned_L0_sp w5_turned_L0_rp K m (n01, (i, ())) (b, ())
theorem w5_turned_L0_E (n : Nat) (K : XE → List AV → AHeap → Option Out) : ∀ (m : Nat) (n01 : Int) (i : Int) (b : (Sq Int)), w5_turned_L0_I n K m n01 i b = (w5_turned_L0 n m n01 i b).bind (w5_turned_L0_K K)
  | 0, n01, i, b => by kernel_rfl
  | m + 1, n01, i, b => by
    have h1 : w5_turned_L0_I n K (m + 1) n01 i b = w5_turned_B0 n n01 i b (fun n01 i b => w5_turned_L0_I n K m n01 i b) (fun a => w5_turned_L0_K K (.out a)) (fun a => w5_turned_L0_K K (.ret a)) (fun p => w5_turned_L0_K K (.pan p)) := by kernel_rfl
    have h2 : (fun n01 i b => w5_turned_L0_I n K m n01 i b) = (fun n01 i b => (w5_turned_L0 n m n01 i b).bind (w5_turned_L0_K K)) := funext fun n01 => funext fun i => funext fun b => w5_turned_L0_E n K m n01 i b
    exact h1.trans ((congrArg (fun z => w5_turned_B0 n n01 i b z (fun a => w5_turned_L0_K K (.out a)) (fun a => w5_turned_L0_K K (.ret a)) (fun p => w5_turned_L0_K K (.pan p))) h2).trans (w5_turned_B0_N n n01 i b (fun n01 i b => w5_turned_L0 n m n01 i b) (fun a => some (.out a)) (fun a => some (.ret a)) (fun p => some (.pan p)) (w5_turned_L0_K K)))
theorem w5_turned_L0_ok (n : Nat) : RunOk tys (callees Out (w5_VerbVrfys_es n)) (w5_turned_hint n) n (codeAt [1, 1, 0, 1, 0, 0] (bodyOf Tryz.f21)) 0 := runOk_of (sp := w5_turned_L0_sp) (rp := w5_turned_L0_rp) (F := fun σ ρ K => (w5_turned_L0 n n σ.1 σ.2.1 ρ.1).bind (w5_turned_L0_K K)) (by kernel_rfl) fun K σ ρ => w5_turned_L0_E n K n σ.1 σ.2.1 ρ.1
theorem w5_turned_runs (n : Nat) : RunsOk tys (callees Out (w5_VerbVrfys_es n)) (w5_turned_hint n) n (bodyOf Tryz.f21) 0 := ⟨trivial, ⟨trivial, ⟨⟨trivial, ⟨w5_turned_L0_ok n, ⟨⟨trivial, ⟨trivial, trivial⟩⟩, ⟨⟨⟨trivial, ⟨trivial, trivial⟩⟩, ⟨trivial, ⟨trivial, trivial⟩⟩⟩, trivial⟩⟩⟩⟩, ⟨trivial, trivial⟩⟩⟩⟩
theorem w5_turned_at : Tryz.prog.funcs[21]? = some Tryz.f21 := by kernel_rfl
theorem w5_turned_ent (n : Nat) : Enters Tryz.prog 21 := enters_of (c := bodyOf Tryz.f21) w5_turned_at (by kernel_rfl) (by kernel_rfl)
theorem w5_turned_E (n : Nat) (s : BA) (n0 : Int) : fnA tys (callees Out (w5_VerbVrfys_es n)) (w5_turned_hint n) n Tryz.f21 (encL (.pair .str (.pair (.int .i64) .unit)) (s, (n0, ()))) [] (soloA fun v => some (.ret v)) (soloA fun v => some (.pan v)) = w5_turned_B n s n0 (fun y => some (.ret (encR (.one .str) y))) := by kernel_rfl
def w5_turned_en (n : Nat) : Entry := ⟨21, pcT (.pair .str (.pair (.int .i64) .unit)) (.one .str) (fun xs => w5_turned n xs.1 xs.2.1), none, none⟩
theorem w5_turned_ok (n : Nat) : EntryOk Tryz.prog gl (w5_turned_en n) :=
  pcT_ok (w5_turned_ent n) fun xs y h => ans_of_fn tys_ok (w5_VerbVrfys_es_ok n) mixed (hint := w5_turned_hint n) (n := n) (fn := Tryz.f21) w5_turned_at (runsC (w5_turned_runs n)) (run_ret (φ := (fun y => some (Out.ret (encR (.one .str) y)))) ((w5_turned_E n xs.1 xs.2.1).trans (w5_turned_N (R := BA) (S := Out) n xs.1 xs.2.1 some (fun y => some (Out.ret (encR (.one .str) y))))) h)
def w5_turned_es (n : Nat) : List Entry := w5_turned_en n :: w5_VerbVrfys_es n
theorem w5_turned_es_ok (n : Nat) : AllOk Tryz.prog gl (w5_turned_es n) := .cons (w5_turned_ok n) (w5_VerbVrfys_es_ok n)
/- pouch/pouchlaw5.VerbBack -/
def w5_VerbBack_B1 (n : Nat) {R : Type} (l2 : (Sq (T0 × (BA × (Int × Unit))))) (i1 : Int) (s : BA) (k0 : Int) (kn : (Sq (T0 × (BA × (Int × Unit)))) → Int → BA → Int → Option R) (ko : ((Sq (T0 × (BA × (Int × Unit)))) × Int) → Option R) (kr : (Bool) → Option R) (kp : Int → Option R) : Option R :=
 if (decide (k0 < (s.size : Int))) = true then
  if 0 ≤ k0 ∧ k0 ≤ (s.size : Int) then
   (v_Parse n (s.extract (Int.toNat (0 : Int)) (Int.toNat k0))).bind fun v8 =>
   (w5_num n v8.2.1).bind fun v9 =>
   if (v9 == (0 : Int)) = true then
    if 0 ≤ i1 ∧ i1 < (l2.n : Int) then
     if ((v8.1.1 == ((((l2.at' (Int.toNat i1))).1).1)) && ((v8.1.2.1.toList == (((((l2.at' (Int.toNat i1))).1).2).1).toList) && ((v8.1.2.2.1 == ((((((l2.at' (Int.toNat i1))).1).2).2).1)) && (((v8.1.2.2.2.1.1.toList == ((((((((l2.at' (Int.toNat i1))).1).2).2).2).1).1).toList) && ((v8.1.2.2.2.1.2.1.toList == (((((((((l2.at' (Int.toNat i1))).1).2).2).2).1).2).1).toList) && true)) && ((v8.1.2.2.2.2.1 == ((((((((l2.at' (Int.toNat i1))).1).2).2).2).2).1)) && true))))) = true then
      kr false
     else
      kn l2 i1 s (IntKind.wrap .i64 (k0 + (1 : Int)))
    else
     none
   else
    kn l2 i1 s (IntKind.wrap .i64 (k0 + (1 : Int)))
  else
   none
 else
  ko (l2, i1)
theorem w5_VerbBack_B1_N (n : Nat) {R S : Type} (l2 : (Sq (T0 × (BA × (Int × Unit))))) (i1 : Int) (s : BA) (k0 : Int) (kn : (Sq (T0 × (BA × (Int × Unit)))) → Int → BA → Int → Option R) (ko : ((Sq (T0 × (BA × (Int × Unit)))) × Int) → Option R) (kr : (Bool) → Option R) (kp : Int → Option R) (φ : R → Option S) : w5_VerbBack_B1 n l2 i1 s k0 (fun l2 i1 s k0 => (kn l2 i1 s k0).bind φ) (fun a => (ko a).bind φ) (fun a => (kr a).bind φ) (fun a => (kp a).bind φ) = (w5_VerbBack_B1 n l2 i1 s k0 kn ko kr kp).bind φ := by
  unfold w5_VerbBack_B1
  first | (simp only [dup_self, both_self, iB, bB, oL, oX, nB]) | rfl
def w5_VerbBack_L1 (n : Nat) : Nat → (Sq (T0 × (BA × (Int × Unit)))) → Int → BA → Int → Option (Lx ((Sq (T0 × (BA × (Int × Unit)))) × Int) (Bool))
  | 0, _, _, _, _ => none
  | m + 1, l2, i1, s, k0 => w5_VerbBack_B1 n l2 i1 s k0 (fun l2 i1 s k0 => w5_VerbBack_L1 n m l2 i1 s k0) (fun a => some (.out a)) (fun a => some (.ret a)) (fun p => some (.pan p))
def w5_VerbBack_L1_sp : List Sl := .dat (.sl (.pair (.pair (.int .i64) (.pair .str (.pair .bool (.pair (.pair .str (.pair .str .unit)) (.pair (.int .i64) .unit))))) (.pair .str (.pair (.int .i64) .unit)))) :: .top :: .top :: .dat (.int .i64) :: .dat .str :: tp 5 (.dat (.int .i64) :: tp 120 [])
def w5_VerbBack_L1_rp : List RS := []
def w5_VerbBack_L1_out_sp : List Sl := .dat (.sl (.pair (.pair (.int .i64) (.pair .str (.pair .bool (.pair (.pair .str (.pair .str .unit)) (.pair (.int .i64) .unit))))) (.pair .str (.pair (.int .i64) .unit)))) :: .top :: .top :: .dat (.int .i64) :: tp 127 []
def w5_VerbBack_L1_out_rp : List RS := []
def w5_VerbBack_L1_ret_sp : List Sl := .top :: .top :: .dat .bool :: tp 128 []
def w5_VerbBack_L1_ret_rp : List RS := []
def w5_VerbBack_L1_K (K : XE → List AV → AHeap → Option Out) : Lx ((Sq (T0 × (BA × (Int × Unit)))) × Int) (Bool) → Option Out := fun x => onL x (fun a => layK w5_VerbBack_L1_out_sp w5_VerbBack_L1_out_rp (a.1, (a.2, ())) () (K (.exit 2))) (fun a => layK w5_VerbBack_L1_ret_sp w5_VerbBack_L1_ret_rp (a, ()) () (K .ret)) (fun _ => none)
def w5_VerbBack_B0 (n : Nat) {R : Type} (l1 : (Sq (T0 × (BA × (Int × Unit))))) (i : Int) (kn : (Sq (T0 × (BA × (Int × Unit)))) → Int → Option R) (ko : (Unit) → Option R) (kr : (Bool) → Option R) (kp : Int → Option R) : Option R :=
 if (decide (i < (l1.n : Int))) = true then
  if (decide (i < (15 : Int))) = true then
   if 0 ≤ i ∧ i < (l1.n : Int) then
    (w5_heavy n (((((l1.at' (Int.toNat i))).1).1, (((((l1.at' (Int.toNat i))).1).2).1, ((((((l1.at' (Int.toNat i))).1).2).2).1, (((((((((l1.at' (Int.toNat i))).1).2).2).2).1).1, (((((((((l1.at' (Int.toNat i))).1).2).2).2).1).2).1, ())), ((((((((l1.at' (Int.toNat i))).1).2).2).2).2).1, ()))))), ((((l1.at' (Int.toNat i))).2).1, (((((l1.at' (Int.toNat i))).2).2).1, ())))).bind fun v =>
    if v = true then
     kr true
    else
     if 0 ≤ i ∧ i < (l1.n : Int) then
      (v_Text n ((((l1.at' (Int.toNat i))).1).1, (((((l1.at' (Int.toNat i))).1).2).1, ((((((l1.at' (Int.toNat i))).1).2).2).1, (((((((((l1.at' (Int.toNat i))).1).2).2).2).1).1, (((((((((l1.at' (Int.toNat i))).1).2).2).2).1).2).1, ())), ((((((((l1.at' (Int.toNat i))).1).2).2).2).2).1, ())))))).bind fun v1 =>
      (w5_num n v1.2.1).bind fun v2 =>
      if (v2 != (0 : Int)) = true then
       kn l1 (IntKind.wrap .i64 (i + (1 : Int)))
      else
       (v_Parse n v1.1).bind fun v3 =>
       (w5_num n v3.2.1).bind fun v4 =>
       if (v4 != (0 : Int)) = false then
        if 0 ≤ i ∧ i < (l1.n : Int) then
         if (!((v3.1.1 == ((((l1.at' (Int.toNat i))).1).1)) && ((v3.1.2.1.toList == (((((l1.at' (Int.toNat i))).1).2).1).toList) && ((v3.1.2.2.1 == ((((((l1.at' (Int.toNat i))).1).2).2).1)) && (((v3.1.2.2.2.1.1.toList == ((((((((l1.at' (Int.toNat i))).1).2).2).2).1).1).toList) && ((v3.1.2.2.2.1.2.1.toList == (((((((((l1.at' (Int.toNat i))).1).2).2).2).1).2).1).toList) && true)) && ((v3.1.2.2.2.2.1 == ((((((((l1.at' (Int.toNat i))).1).2).2).2).2).1)) && true)))))) = true then
          kr false
         else
          if 0 ≤ i ∧ i < (l1.n : Int) then
           if (((((l1.at' (Int.toNat i))).1).1) == (3 : Int)) = false then
            if 0 ≤ i ∧ i < (l1.n : Int) then
             if (((((l1.at' (Int.toNat i))).1).1) == (4 : Int)) = false then
              if 0 ≤ i ∧ i < (l1.n : Int) then
               if ((((((l1.at' (Int.toNat i))).1).2).1).toList == (⟨#[]⟩ : BA).toList) = true then
                if 0 ≤ i ∧ i < (l1.n : Int) then
                 (w5_turned n v1.1 (((((l1.at' (Int.toNat i))).2).2).1)).bind fun v5 =>
                 (v_Parse n v5).bind fun v6 =>
                 (w5_num n v6.2.1).bind fun v7 =>
                 if (v7 != (0 : Int)) = false then
                  if 0 ≤ i ∧ i < (l1.n : Int) then
                   if (!((v6.1.1 == ((((l1.at' (Int.toNat i))).1).1)) && ((v6.1.2.1.toList == (((((l1.at' (Int.toNat i))).1).2).1).toList) && ((v6.1.2.2.1 == ((((((l1.at' (Int.toNat i))).1).2).2).1)) && (((v6.1.2.2.2.1.1.toList == ((((((((l1.at' (Int.toNat i))).1).2).2).2).1).1).toList) && ((v6.1.2.2.2.1.2.1.toList == (((((((((l1.at' (Int.toNat i))).1).2).2).2).1).2).1).toList) && true)) && ((v6.1.2.2.2.2.1 == ((((((((l1.at' (Int.toNat i))).1).2).2).2).2).1)) && true)))))) = true then
                    kr false
                   else
                    (w5_VerbBack_L1 n n l1 i v1.1 (0 : Int)).bind fun x_1 => onL x_1
                     (fun a_2 =>
                      kn a_2.1 (IntKind.wrap .i64 (a_2.2 + (1 : Int))))
                     (fun a_3 =>
                      kr a_3)
                     (fun _ => none)
                  else
                   none
                 else
                  kr false
                else
                 none
               else
                (w5_VerbBack_L1 n n l1 i v1.1 (0 : Int)).bind fun x_4 => onL x_4
                 (fun a_5 =>
                  kn a_5.1 (IntKind.wrap .i64 (a_5.2 + (1 : Int))))
                 (fun a_6 =>
                  kr a_6)
                 (fun _ => none)
              else
               none
             else
              if 0 ≤ i ∧ i < (l1.n : Int) then
               (w5_turned n v1.1 (((((l1.at' (Int.toNat i))).2).2).1)).bind fun v10 =>
               (v_Parse n v10).bind fun v11 =>
               (w5_num n v11.2.1).bind fun v12 =>
               if (v12 != (0 : Int)) = false then
                if 0 ≤ i ∧ i < (l1.n : Int) then
                 if (!((v11.1.1 == ((((l1.at' (Int.toNat i))).1).1)) && ((v11.1.2.1.toList == (((((l1.at' (Int.toNat i))).1).2).1).toList) && ((v11.1.2.2.1 == ((((((l1.at' (Int.toNat i))).1).2).2).1)) && (((v11.1.2.2.2.1.1.toList == ((((((((l1.at' (Int.toNat i))).1).2).2).2).1).1).toList) && ((v11.1.2.2.2.1.2.1.toList == (((((((((l1.at' (Int.toNat i))).1).2).2).2).1).2).1).toList) && true)) && ((v11.1.2.2.2.2.1 == ((((((((l1.at' (Int.toNat i))).1).2).2).2).2).1)) && true)))))) = true then
                  kr false
                 else
                  (w5_VerbBack_L1 n n l1 i v1.1 (0 : Int)).bind fun x_7 => onL x_7
                   (fun a_8 =>
                    kn a_8.1 (IntKind.wrap .i64 (a_8.2 + (1 : Int))))
                   (fun a_9 =>
                    kr a_9)
                   (fun _ => none)
                else
                 none
               else
                kr false
              else
               none
            else
             none
           else
            if 0 ≤ i ∧ i < (l1.n : Int) then
             (w5_turned n v1.1 (((((l1.at' (Int.toNat i))).2).2).1)).bind fun v13 =>
             (v_Parse n v13).bind fun v14 =>
             (w5_num n v14.2.1).bind fun v15 =>
             if (v15 != (0 : Int)) = false then
              if 0 ≤ i ∧ i < (l1.n : Int) then
               if (!((v14.1.1 == ((((l1.at' (Int.toNat i))).1).1)) && ((v14.1.2.1.toList == (((((l1.at' (Int.toNat i))).1).2).1).toList) && ((v14.1.2.2.1 == ((((((l1.at' (Int.toNat i))).1).2).2).1)) && (((v14.1.2.2.2.1.1.toList == ((((((((l1.at' (Int.toNat i))).1).2).2).2).1).1).toList) && ((v14.1.2.2.2.1.2.1.toList == (((((((((l1.at' (Int.toNat i))).1).2).2).2).1).2).1).toList) && true)) && ((v14.1.2.2.2.2.1 == ((((((((l1.at' (Int.toNat i))).1).2).2).2).2).1)) && true)))))) = true then
                kr false
               else
                (w5_VerbBack_L1 n n l1 i v1.1 (0 : Int)).bind fun x_10 => onL x_10
                 (fun a_11 =>
                  kn a_11.1 (IntKind.wrap .i64 (a_11.2 + (1 : Int))))
                 (fun a_12 =>
                  kr a_12)
                 (fun _ => none)
              else
               none
             else
              kr false
            else
             none
          else
           none
        else
         none
       else
        kr false
     else
      none
   else
    none
  else
   ko ()
 else
  ko ()
theorem w5_VerbBack_B0_N (n : Nat) {R S : Type} (l1 : (Sq (T0 × (BA × (Int × Unit))))) (i : Int) (kn : (Sq (T0 × (BA × (Int × Unit)))) → Int → Option R) (ko : (Unit) → Option R) (kr : (Bool) → Option R) (kp : Int → Option R) (φ : R → Option S) : w5_VerbBack_B0 n l1 i (fun l1 i => (kn l1 i).bind φ) (fun a => (ko a).bind φ) (fun a => (kr a).bind φ) (fun a => (kp a).bind φ) = (w5_VerbBack_B0 n l1 i kn ko kr kp).bind φ := by
  unfold w5_VerbBack_B0
  first | (simp only [dup_self, both_self, iB, bB, oL, oX, nB]) | rfl
def w5_VerbBack_L0 (n : Nat) : Nat → (Sq (T0 × (BA × (Int × Unit)))) → Int → Option (Lx (Unit) (Bool))
  | 0, _, _ => none
  | m + 1, l1, i => w5_VerbBack_B0 n l1 i (fun l1 i => w5_VerbBack_L0 n m l1 i) (fun a => some (.out a)) (fun a => some (.ret a)) (fun p => some (.pan p))
def w5_VerbBack_L0_sp : List Sl := .dat (.sl (.pair (.pair (.int .i64) (.pair .str (.pair .bool (.pair (.pair .str (.pair .str .unit)) (.pair (.int .i64) .unit))))) (.pair .str (.pair (.int .i64) .unit)))) :: .top :: .top :: .dat (.int .i64) :: tp 127 []
def w5_VerbBack_L0_rp : List RS := []
def w5_VerbBack_L0_out_sp : List Sl := tp 131 []
def w5_VerbBack_L0_out_rp : List RS := []
def w5_VerbBack_L0_ret_sp : List Sl := .top :: .top :: .dat .bool :: tp 128 []
def w5_VerbBack_L0_ret_rp : List RS := []
def w5_VerbBack_L0_K (K : XE → List AV → AHeap → Option Out) : Lx (Unit) (Bool) → Option Out := fun x => onL x (fun a => layK w5_VerbBack_L0_out_sp w5_VerbBack_L0_out_rp () () (K (.exit 0))) (fun a => layK w5_VerbBack_L0_ret_sp w5_VerbBack_L0_ret_rp (a, ()) () (K .ret)) (fun _ => none)
def w5_VerbBack_B (n : Nat) {R : Type} (l : (Sq (T0 × (BA × (Int × Unit))))) (k : Bool → Option R) : Option R :=
 (w5_VerbBack_L0 n n l (0 : Int)).bind fun x_1 => onL x_1
  (fun a_2 =>
   (w5_wakes n).bind fun v16 =>
   k v16)
  (fun a_3 =>
   k a_3)
  (fun _ => none)
def w5_VerbBack (n : Nat) (l : (Sq (T0 × (BA × (Int × Unit))))) : Option Bool := w5_VerbBack_B n l some
theorem w5_VerbBack_N (n : Nat) {R S : Type} (l : (Sq (T0 × (BA × (Int × Unit))))) (k : Bool → Option R) (φ : R → Option S) : w5_VerbBack_B n l (fun a => (k a).bind φ) = (w5_VerbBack_B n l k).bind φ := by
  unfold w5_VerbBack_B
  first | (simp only [dup_self, both_self, iB, bB, oL, oX, nB]) | rfl
def w5_VerbBack_hint (n : Nat) : Hint Out := { live := fun c => (cond (Nat.beq c 0) [(0, some (.sl (.pair (.pair (.int .i64) (.pair .str (.pair .bool (.pair (.pair .str (.pair .str .unit)) (.pair (.int .i64) .unit))))) (.pair .str (.pair (.int .i64) .unit))))), (3, none)] (cond (Nat.beq c 2) [(0, some (.sl (.pair (.pair (.int .i64) (.pair .str (.pair .bool (.pair (.pair .str (.pair .str .unit)) (.pair (.int .i64) .unit))))) (.pair .str (.pair (.int .i64) .unit))))), (3, none), (4, none), (10, none)] [])), run := fun c => (cond (Nat.beq c 0) (some (runL w5_VerbBack_L0_sp w5_VerbBack_L0_rp fun σ ρ K => (w5_VerbBack_L0 n n σ.1 σ.2.1).bind (w5_VerbBack_L0_K K))) (cond (Nat.beq c 2) (some (runL w5_VerbBack_L1_sp w5_VerbBack_L1_rp fun σ ρ K => (w5_VerbBack_L1 n n σ.1 σ.2.1 σ.2.2.1 σ.2.2.2.1).bind (w5_VerbBack_L1_K K))) none)), xm := fun c q => (cond (Nat.beq c 0 && Nat.beq (q.getD 1000000) 0 && q.isSome) (some []) (cond (Nat.beq c 2 && Nat.beq (q.getD 1000000) 2 && q.isSome) (some [(0, some (.sl (.pair (.pair (.int .i64) (.pair .str (.pair .bool (.pair (.pair .str (.pair .str .unit)) (.pair (.int .i64) .unit))))) (.pair .str (.pair (.int .i64) .unit))))), (3, none)]) (cond (Nat.beq c 3 && q.isNone) (some [(2, none)]) (cond (Nat.beq c 1 && q.isNone) (some [(2, none)]) none)))) }
def w5_VerbBack_L1_I (n : Nat) (K : XE → List AV → AHeap → Option Out) (m : Nat) (l2 : (Sq (T0 × (BA × (Int × Unit))))) (i1 : Int) (s : BA) (k0 : Int) : Option Out := loopI tys (callees Out (w5_turned_es n)) (w5_VerbBack_hint n) n (codeAt [1, 0, 1, 0, 0, 1, 0, 0, 1, 1, 1, 1, 1, 1, 1, 0, 0] (bodyOf Tryz.f4)) 2 w5_VerbBack_L1_sp w5_VerbBack_L1_rp K m (l2, (i1, (s, (k0, ())))) ()
theorem w5_VerbBack_L1_E (n : Nat) (K : XE → List AV → AHeap → Option Out) : ∀ (m : Nat) (l2 : (Sq (T0 × (BA × (Int × Unit))))) (i1 : Int) (s : BA) (k0 : Int), w5_VerbBack_L1_I n K m l2 i1 s k0 = (w5_VerbBack_L1 n m l2 i1 s k0).bind (w5_VerbBack_L1_K K)
  | 0, l2, i1, s, k0 => by kernel_rfl
  | m + 1, l2, i1, s, k0 => by
    have h1 : w5_VerbBack_L1_I n K (m + 1) l2 i1 s k0 = w5_VerbBack_B1 n l2 i1 s k0 (fun l2 i1 s k0 => w5_VerbBack_L1_I n K m l2 i1 s k0) (fun a => w5_VerbBack_L1_K K (.out a)) (fun a => w5_VerbBack_L1_K K (.ret a)) (fun p => w5_VerbBack_L1_K K (.pan p)) := by kernel_rfl
    have h2 : (fun l2 i1 s k0 => w5_VerbBack_L1_I n K m l2 i1 s k0) = (fun l2 i1 s k0 => (w5_VerbBack_L1 n m l2 i1 s k0).bind (w5_VerbBack_L1_K K)) := funext fun l2 => funext fun i1 => funext fun s => funext fun k0 => w5_VerbBack_L1_E n K m l2 i1 s k0
    exact h1.trans ((congrArg (fun z => w5_VerbBack_B1 n l2 i1 s k0 z (fun a => w5_VerbBack_L1_K K (.out a)) (fun a => w5_VerbBack_L1_K K (.ret a)) (fun p => w5_VerbBack_L1_K K (.pan p))) h2).trans (w5_VerbBack_B1_N n l2 i1 s k0 (fun l2 i1 s k0 => w5_VerbBack_L1 n m l2 i1 s k0) (fun a => some (.out a)) (fun a => some (.ret a)) (fun p => some (.pan p)) (w5_VerbBack_L1_K K)))
theorem w5_VerbBack_L1_ok (n : Nat) : RunOk tys (callees Out (w5_turned_es n)) (w5_VerbBack_hint n) n (codeAt [1, 0, 1, 0, 0, 1, 0, 0, 1, 1, 1, 1, 1, 1, 1, 0, 0] (bodyOf Tryz.f4)) 2 := runOk_of (sp := w5_VerbBack_L1_sp) (rp := w5_VerbBack_L1_rp) (F := fun σ ρ K => (w5_VerbBack_L1 n n σ.1 σ.2.1 σ.2.2.1 σ.2.2.2.1).bind (w5_VerbBack_L1_K K)) (by kernel_rfl) fun K σ ρ => w5_VerbBack_L1_E n K n σ.1 σ.2.1 σ.2.2.1 σ.2.2.2.1
def w5_VerbBack_L0_I (n : Nat) (K : XE → List AV → AHeap → Option Out) (m : Nat) (l1 : (Sq (T0 × (BA × (Int × Unit))))) (i : Int) : Option Out := loopI tys (callees Out (w5_turned_es n)) (w5_VerbBack_hint n) n (codeAt [1, 0, 1, 0, 0] (bodyOf Tryz.f4)) 0 w5_VerbBack_L0_sp w5_VerbBack_L0_rp K m (l1, (i, ())) ()
theorem w5_VerbBack_L0_E (n : Nat) (K : XE → List AV → AHeap → Option Out) : ∀ (m : Nat) (l1 : (Sq (T0 × (BA × (Int × Unit))))) (i : Int), w5_VerbBack_L0_I n K m l1 i = (w5_VerbBack_L0 n m l1 i).bind (w5_VerbBack_L0_K K)
  | 0, l1, i => by kernel_rfl
  | m + 1, l1, i => by
    have h1 : w5_VerbBack_L0_I n K (m + 1) l1 i = w5_VerbBack_B0 n l1 i (fun l1 i => w5_VerbBack_L0_I n K m l1 i) (fun a => w5_VerbBack_L0_K K (.out a)) (fun a => w5_VerbBack_L0_K K (.ret a)) (fun p => w5_VerbBack_L0_K K (.pan p)) := by kernel_rfl
    have h2 : (fun l1 i => w5_VerbBack_L0_I n K m l1 i) = (fun l1 i => (w5_VerbBack_L0 n m l1 i).bind (w5_VerbBack_L0_K K)) := funext fun l1 => funext fun i => w5_VerbBack_L0_E n K m l1 i
    exact h1.trans ((congrArg (fun z => w5_VerbBack_B0 n l1 i z (fun a => w5_VerbBack_L0_K K (.out a)) (fun a => w5_VerbBack_L0_K K (.ret a)) (fun p => w5_VerbBack_L0_K K (.pan p))) h2).trans (w5_VerbBack_B0_N n l1 i (fun l1 i => w5_VerbBack_L0 n m l1 i) (fun a => some (.out a)) (fun a => some (.ret a)) (fun p => some (.pan p)) (w5_VerbBack_L0_K K)))
theorem w5_VerbBack_L0_ok (n : Nat) : RunOk tys (callees Out (w5_turned_es n)) (w5_VerbBack_hint n) n (codeAt [1, 0, 1, 0, 0] (bodyOf Tryz.f4)) 0 := runOk_of (sp := w5_VerbBack_L0_sp) (rp := w5_VerbBack_L0_rp) (F := fun σ ρ K => (w5_VerbBack_L0 n n σ.1 σ.2.1).bind (w5_VerbBack_L0_K K)) (by kernel_rfl) fun K σ ρ => w5_VerbBack_L0_E n K n σ.1 σ.2.1
theorem w5_VerbBack_runs (n : Nat) : RunsOk tys (callees Out (w5_turned_es n)) (w5_VerbBack_hint n) n (bodyOf Tryz.f4) 0 := ⟨trivial, ⟨⟨trivial, ⟨w5_VerbBack_L0_ok n, ⟨⟨trivial, ⟨trivial, trivial⟩⟩, ⟨⟨⟨trivial, ⟨⟨trivial, trivial⟩, trivial⟩⟩, ⟨trivial, ⟨⟨trivial, ⟨trivial, trivial⟩⟩, ⟨trivial, ⟨⟨trivial, ⟨⟨trivial, trivial⟩, trivial⟩⟩, ⟨⟨trivial, ⟨⟨trivial, ⟨trivial, ⟨⟨trivial, trivial⟩, trivial⟩⟩⟩, trivial⟩⟩, ⟨trivial, ⟨w5_VerbBack_L1_ok n, ⟨⟨trivial, ⟨trivial, trivial⟩⟩, ⟨⟨trivial, ⟨trivial, ⟨⟨trivial, trivial⟩, trivial⟩⟩⟩, trivial⟩⟩⟩⟩⟩⟩⟩⟩⟩⟩, trivial⟩⟩⟩⟩, ⟨trivial, trivial⟩⟩⟩
theorem w5_VerbBack_at : Tryz.prog.funcs[4]? = some Tryz.f4 := by kernel_rfl
theorem w5_VerbBack_ent (n : Nat) : Enters Tryz.prog 4 := enters_of (c := bodyOf Tryz.f4) w5_VerbBack_at (by kernel_rfl) (by kernel_rfl)
theorem w5_VerbBack_E (n : Nat) (l : (Sq (T0 × (BA × (Int × Unit))))) : fnA tys (callees Out (w5_turned_es n)) (w5_VerbBack_hint n) n Tryz.f4 (encL (.pair (.sl (.pair (.pair (.int .i64) (.pair .str (.pair .bool (.pair (.pair .str (.pair .str .unit)) (.pair (.int .i64) .unit))))) (.pair .str (.pair (.int .i64) .unit)))) .unit) (l, ())) [] (soloA fun v => some (.ret v)) (soloA fun v => some (.pan v)) = w5_VerbBack_B n l (fun y => some (.ret (encR (.one .bool) y))) := by kernel_rfl
def w5_VerbBack_en (n : Nat) : Entry := ⟨4, pcT (.pair (.sl (.pair (.pair (.int .i64) (.pair .str (.pair .bool (.pair (.pair .str (.pair .str .unit)) (.pair (.int .i64) .unit))))) (.pair .str (.pair (.int .i64) .unit)))) .unit) (.one .bool) (fun xs => w5_VerbBack n xs.1), none, none⟩
theorem w5_VerbBack_ok (n : Nat) : EntryOk Tryz.prog gl (w5_VerbBack_en n) :=
  pcT_ok (w5_VerbBack_ent n) fun xs y h => ans_of_fn tys_ok (w5_turned_es_ok n) mixed (hint := w5_VerbBack_hint n) (n := n) (fn := Tryz.f4) w5_VerbBack_at (runsC (w5_VerbBack_runs n)) (run_ret (φ := (fun y => some (Out.ret (encR (.one .bool) y)))) ((w5_VerbBack_E n xs.1).trans (w5_VerbBack_N (R := Bool) (S := Out) n xs.1 some (fun y => some (Out.ret (encR (.one .bool) y))))) h)
end
end Go.Proofs.YtbmcabjgeegjkaaGreatDoor.AM
