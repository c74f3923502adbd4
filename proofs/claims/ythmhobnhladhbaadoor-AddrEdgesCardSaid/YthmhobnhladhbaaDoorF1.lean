/- Typed functions that tell what the Go functions of this seat answer, and proofs of it, by program (gen.py). -/
import Derived.Test.YthmhobnhladhbaaDoorF0
set_option linter.all false
set_option maxRecDepth 1000000
set_option maxHeartbeats 0
namespace Go.Proofs.YthmhobnhladhbaaDoor.AM
open Go Go.RowKit

/- pouch/pouchref0.Lower -/
def pouchref0_Lower_B0 (n : Nat) {R : Type} (i : Int) (b : (Sq Int)) (kn : Int → (Sq Int) → Option R) (ko : ((Sq Int)) → Option R) (kr : Unit → Option R) (kp : Int → Option R) : Option R :=
  if (decide (i < (b.n : Int))) = true then
    if 0 ≤ i ∧ i < (b.n : Int) then
      if (decide ((b.at' (Int.toNat i)) ≥ (65 : Int))) = true then
        if 0 ≤ i ∧ i < (b.n : Int) then
          if (decide ((b.at' (Int.toNat i)) ≤ (90 : Int))) = true then
            if 0 ≤ i ∧ i < (b.n : Int) then
              if 0 ≤ i ∧ i < (b.n : Int) then
                kn (IntKind.wrap .i64 (i + (1 : Int))) (⟨b.n, fun q => if q = (Int.toNat i) ∧ q < b.n then (IntKind.wrap .u8 ((b.at' (Int.toNat i)) + (32 : Int))) else b.at' q⟩ : Sq Int)
              else
                none
            else
              none
          else
            kn (IntKind.wrap .i64 (i + (1 : Int))) b
        else
          none
      else
        kn (IntKind.wrap .i64 (i + (1 : Int))) b
    else
      none
  else
    ko b
theorem pouchref0_Lower_B0_N (n : Nat) {R S : Type} (i : Int) (b : (Sq Int)) (kn : Int → (Sq Int) → Option R) (ko : ((Sq Int)) → Option R) (kr : Unit → Option R) (kp : Int → Option R) (φ : R → Option S) : pouchref0_Lower_B0 n i b (fun i b => (kn i b).bind φ) (fun a => (ko a).bind φ) (fun a => (kr a).bind φ) (fun a => (kp a).bind φ) = (pouchref0_Lower_B0 n i b kn ko kr kp).bind φ := by
  unfold pouchref0_Lower_B0
  first | (simp only [ite_bind, bind_bind, onL_bind, onX_bind, none_bind]) | rfl
def pouchref0_Lower_L0 (n : Nat) : Nat → Int → (Sq Int) → Option (Lx ((Sq Int)) Unit)
  | 0, _, _ => none
  | m + 1, i, b => pouchref0_Lower_B0 n i b (fun i b => pouchref0_Lower_L0 n m i b) (fun a => some (.out a)) (fun a => some (.ret a)) (fun p => some (.pan p))
def pouchref0_Lower_L0_sp : List Sl := [.top, .top, .top, .row 0, .dat (.int .i64), .top, .top, .top, .top, .top, .top, .top, .top, .top, .top, .top, .top, .top, .top, .top, .top, .top, .top, .top, .top, .top, .top, .top, .top, .top, .top, .top, .top, .top, .top]
def pouchref0_Lower_L0_rp : List RS := [.row 5 1 (.int .u8) false true]
def pouchref0_Lower_L0_out_sp : List Sl := [.top, .top, .top, .row 0, .top, .top, .top, .top, .top, .top, .top, .top, .top, .top, .top, .top, .top, .top, .top, .top, .top, .top, .top, .top, .top, .top, .top, .top, .top, .top, .top, .top, .top, .top, .top]
def pouchref0_Lower_L0_out_rp : List RS := [.row 5 1 (.int .u8) false true]
def pouchref0_Lower_L0_K (K : XE → List AV → AHeap → Option Out) : Lx ((Sq Int)) Unit → Option Out := fun x => onL x (fun a => K (.exit 0) (encF (nsOf pouchref0_Lower_L0_out_rp (a, ())) pouchref0_Lower_L0_out_sp ()) (encH (nsOf pouchref0_Lower_L0_out_rp (a, ())) pouchref0_Lower_L0_out_rp (a, ()))) (fun _ => none) (fun _ => none)
def pouchref0_Lower_B (n : Nat) {R : Type} (s : ByteArray) (k : ByteArray → Option R) : Option R :=
  (pouchref0_Lower_L0 n n (0 : Int) (⟨s.size, fun q => bt s q⟩ : Sq Int)).bind fun x_1 => onL x_1
    (fun a_2 =>
      k (strOf a_2.n a_2.at'))
    (fun _ => none)
    (fun _ => none)
def pouchref0_Lower (n : Nat) (s : ByteArray) : Option ByteArray := pouchref0_Lower_B n s some
theorem pouchref0_Lower_N (n : Nat) {R S : Type} (s : ByteArray) (k : ByteArray → Option R) (φ : R → Option S) : pouchref0_Lower_B n s (fun a => (k a).bind φ) = (pouchref0_Lower_B n s k).bind φ := by
  unfold pouchref0_Lower_B
  first | (simp only [ite_bind, bind_bind, onL_bind, onX_bind, none_bind]) | rfl
def pouchref0_Lower_hint (n : Nat) : Hint Out := { live := fun c => (cond (Nat.beq c 0) [(3, some (.sl (.int .u8))), (4, none)] []), run := fun c => (cond (Nat.beq c 0) (some (runL pouchref0_Lower_L0_sp pouchref0_Lower_L0_rp fun σ ρ K => (pouchref0_Lower_L0 n n σ.1 ρ.1).bind (pouchref0_Lower_L0_K K))) none), xm := fun c q => (cond (Nat.beq c 0 && Nat.beq (q.getD 1000000) 0 && q.isSome) (some [(3, some (.sl (.int .u8)))]) none) }
theorem pouchref0_Lower_L0_E (n : Nat) (K : XE → List AV → AHeap → Option Out) : ∀ (m : Nat) (i : Int) (b : (Sq Int)), loopI tys (callees Out (pouchref4_plain_es n)) (pouchref0_Lower_hint n) n (codeAt [1, 1, 0, 1, 0, 0] (bodyOf Tryd.f16)) 0 pouchref0_Lower_L0_sp pouchref0_Lower_L0_rp K m (i, ()) (b, ()) = (pouchref0_Lower_L0 n m i b).bind (pouchref0_Lower_L0_K K)
  | 0, i, b => by kernel_rfl
  | m + 1, i, b => by
    have h1 : loopI tys (callees Out (pouchref4_plain_es n)) (pouchref0_Lower_hint n) n (codeAt [1, 1, 0, 1, 0, 0] (bodyOf Tryd.f16)) 0 pouchref0_Lower_L0_sp pouchref0_Lower_L0_rp K (m + 1) (i, ()) (b, ()) = pouchref0_Lower_B0 n i b (fun (i : Int) (b : (Sq Int)) => loopI tys (callees Out (pouchref4_plain_es n)) (pouchref0_Lower_hint n) n (codeAt [1, 1, 0, 1, 0, 0] (bodyOf Tryd.f16)) 0 pouchref0_Lower_L0_sp pouchref0_Lower_L0_rp K m (i, ()) (b, ())) (fun a => pouchref0_Lower_L0_K K (.out a)) (fun a => pouchref0_Lower_L0_K K (.ret a)) (fun p => pouchref0_Lower_L0_K K (.pan p)) := by kernel_rfl
    have h2 : (fun (i : Int) (b : (Sq Int)) => loopI tys (callees Out (pouchref4_plain_es n)) (pouchref0_Lower_hint n) n (codeAt [1, 1, 0, 1, 0, 0] (bodyOf Tryd.f16)) 0 pouchref0_Lower_L0_sp pouchref0_Lower_L0_rp K m (i, ()) (b, ())) = (fun (i : Int) (b : (Sq Int)) => (pouchref0_Lower_L0 n m i b).bind (pouchref0_Lower_L0_K K)) := funext fun i => funext fun b => pouchref0_Lower_L0_E n K m i b
    exact h1.trans ((congrArg (fun z => pouchref0_Lower_B0 n i b z (fun a => pouchref0_Lower_L0_K K (.out a)) (fun a => pouchref0_Lower_L0_K K (.ret a)) (fun p => pouchref0_Lower_L0_K K (.pan p))) h2).trans (pouchref0_Lower_B0_N n i b (fun (i : Int) (b : (Sq Int)) => pouchref0_Lower_L0 n m i b) (fun a => some (.out a)) (fun a => some (.ret a)) (fun p => some (.pan p)) (pouchref0_Lower_L0_K K)))
theorem pouchref0_Lower_L0_ok (n : Nat) : RunOk tys (callees Out (pouchref4_plain_es n)) (pouchref0_Lower_hint n) n (codeAt [1, 1, 0, 1, 0, 0] (bodyOf Tryd.f16)) 0 := runOk_of (sp := pouchref0_Lower_L0_sp) (rp := pouchref0_Lower_L0_rp) (F := fun σ ρ K => (pouchref0_Lower_L0 n n σ.1 ρ.1).bind (pouchref0_Lower_L0_K K)) (by kernel_rfl) fun K σ ρ => pouchref0_Lower_L0_E n K n σ.1 ρ.1
theorem pouchref0_Lower_runs (n : Nat) : RunsOk tys (callees Out (pouchref4_plain_es n)) (pouchref0_Lower_hint n) n (bodyOf Tryd.f16) 0 := ⟨trivial, ⟨trivial, ⟨⟨trivial, ⟨pouchref0_Lower_L0_ok n, ⟨⟨trivial, ⟨trivial, trivial⟩⟩, ⟨⟨trivial, ⟨trivial, trivial⟩⟩, trivial⟩⟩⟩⟩, ⟨trivial, trivial⟩⟩⟩⟩
theorem pouchref0_Lower_at : Tryd.prog.funcs[16]? = some Tryd.f16 := by kernel_rfl
theorem pouchref0_Lower_ent (n : Nat) : Enters Tryd.prog 16 := enters_of (c := bodyOf Tryd.f16) pouchref0_Lower_at (by kernel_rfl) (by kernel_rfl)
theorem pouchref0_Lower_E (n : Nat) (s : ByteArray) : fnA tys (callees Out (pouchref4_plain_es n)) (pouchref0_Lower_hint n) n Tryd.f16 (encL (.pair .str .unit) (s, ())) [] (soloA fun v => some (.ret v)) (soloA fun v => some (.pan v)) = pouchref0_Lower_B n s (fun y => some (.ret (encR (.one .str) y))) := by kernel_rfl
theorem pouchref0_Lower_ok (n : Nat) : EntryOk Tryd.prog gl ⟨16, pcT (.pair .str .unit) (.one .str) (fun xs => pouchref0_Lower n xs.1), none, none⟩ :=
  pcT_ok (pouchref0_Lower_ent n) fun xs y h => ans_of_fn tys_ok (pouchref4_plain_es_ok n) mixed (hint := pouchref0_Lower_hint n) (n := n) (fn := Tryd.f16) pouchref0_Lower_at (fun c hc => by
    have : bodyOf Tryd.f16 = c := by unfold bodyOf; rw [hc]; rfl
    exact this ▸ pouchref0_Lower_runs n) (run_ret (φ := (fun y => some (Out.ret (encR (.one .str) y)))) ((pouchref0_Lower_E n xs.1).trans (pouchref0_Lower_N (R := ByteArray) (S := Out) n xs.1 some (fun y => some (Out.ret (encR (.one .str) y))))) h)
def pouchref0_Lower_es (n : Nat) : List Entry := ⟨16, pcT (.pair .str .unit) (.one .str) (fun xs => pouchref0_Lower n xs.1), none, none⟩ :: pouchref4_plain_es n
theorem pouchref0_Lower_es_ok (n : Nat) : AllOk Tryd.prog gl (pouchref0_Lower_es n) := .cons (pouchref0_Lower_ok n) (pouchref4_plain_es_ok n)

/- pouch/pouchref4.Local -/
def pouchref4_Local_B (n : Nat) {R : Type} (s : ByteArray) (k : Bool → Option R) : Option R :=
  if (decide ((s.size : Int) < (1 : Int))) = false then
    if (decide ((s.size : Int) > (64 : Int))) = true then
      k false
    else
      if 0 ≤ (0 : Int) ∧ (0 : Int) < (s.size : Int) then
        if ((bt s (0 : Int)) != (34 : Int)) = true then
          (pouchref4_plain n s).bind fun v =>
          k v
        else
          (pouchref4_inner n s).bind fun v1 =>
          if v1.2.2.1 = true then
            if (v1.2.1 == (s.size : Int)) = true then
              (pouchref4_plain n v1.1).bind fun v2 =>
              if (!v2) = true then
                (pouchref4_quote n v1.1).bind fun v3 =>
                k (v3.toList == s.toList)
              else
                k false
            else
              k false
          else
            k false
      else
        none
  else
    k false
def pouchref4_Local (n : Nat) (s : ByteArray) : Option Bool := pouchref4_Local_B n s some
theorem pouchref4_Local_N (n : Nat) {R S : Type} (s : ByteArray) (k : Bool → Option R) (φ : R → Option S) : pouchref4_Local_B n s (fun a => (k a).bind φ) = (pouchref4_Local_B n s k).bind φ := by
  unfold pouchref4_Local_B
  first | (simp only [ite_bind, bind_bind, onL_bind, onX_bind, none_bind]) | rfl
def pouchref4_Local_hint (n : Nat) : Hint Out := { live := fun c => [], run := fun c => none, xm := fun c q => none }
theorem pouchref4_Local_runs (n : Nat) : RunsOk tys (callees Out (pouchref0_Lower_es n)) (pouchref4_Local_hint n) n (bodyOf Tryd.f36) 0 := ⟨trivial, ⟨⟨trivial, ⟨⟨trivial, trivial⟩, trivial⟩⟩, ⟨⟨trivial, ⟨⟨trivial, trivial⟩, trivial⟩⟩, ⟨trivial, ⟨trivial, trivial⟩⟩⟩⟩⟩
theorem pouchref4_Local_at : Tryd.prog.funcs[36]? = some Tryd.f36 := by kernel_rfl
theorem pouchref4_Local_ent (n : Nat) : Enters Tryd.prog 36 := enters_of (c := bodyOf Tryd.f36) pouchref4_Local_at (by kernel_rfl) (by kernel_rfl)
theorem pouchref4_Local_E (n : Nat) (s : ByteArray) : fnA tys (callees Out (pouchref0_Lower_es n)) (pouchref4_Local_hint n) n Tryd.f36 (encL (.pair .str .unit) (s, ())) [] (soloA fun v => some (.ret v)) (soloA fun v => some (.pan v)) = pouchref4_Local_B n s (fun y => some (.ret (encR (.one .bool) y))) := by kernel_rfl
theorem pouchref4_Local_ok (n : Nat) : EntryOk Tryd.prog gl ⟨36, pcT (.pair .str .unit) (.one .bool) (fun xs => pouchref4_Local n xs.1), none, none⟩ :=
  pcT_ok (pouchref4_Local_ent n) fun xs y h => ans_of_fn tys_ok (pouchref0_Lower_es_ok n) mixed (hint := pouchref4_Local_hint n) (n := n) (fn := Tryd.f36) pouchref4_Local_at (fun c hc => by
    have : bodyOf Tryd.f36 = c := by unfold bodyOf; rw [hc]; rfl
    exact this ▸ pouchref4_Local_runs n) (run_ret (φ := (fun y => some (Out.ret (encR (.one .bool) y)))) ((pouchref4_Local_E n xs.1).trans (pouchref4_Local_N (R := Bool) (S := Out) n xs.1 some (fun y => some (Out.ret (encR (.one .bool) y))))) h)
def pouchref4_Local_es (n : Nat) : List Entry := ⟨36, pcT (.pair .str .unit) (.one .bool) (fun xs => pouchref4_Local n xs.1), none, none⟩ :: pouchref0_Lower_es n
theorem pouchref4_Local_es_ok (n : Nat) : AllOk Tryd.prog gl (pouchref4_Local_es n) := .cons (pouchref4_Local_ok n) (pouchref0_Lower_es_ok n)

/- pouch/pouchref0.Value -/
def pouchref0_Value_B0 (n : Nat) {R : Type} (s1 : ByteArray) (n0 : Int) (i : Int) (kn : ByteArray → Int → Int → Option R) (ko : (Int) → Option R) (kr : (Int × Bool) → Option R) (kp : Int → Option R) : Option R :=
  if (decide (i < (s1.size : Int))) = true then
    if 0 ≤ i ∧ i < (s1.size : Int) then
      if (decide ((bt s1 i) < (48 : Int))) = false then
        if 0 ≤ i ∧ i < (s1.size : Int) then
          if (decide ((bt s1 i) > (57 : Int))) = true then
            kr ((0 : Int), false)
          else
            if 0 ≤ i ∧ i < (s1.size : Int) then
              kn s1 (IntKind.wrap .i64 ((IntKind.wrap .i64 ((10 : Int) * n0)) + (IntKind.wrap .i64 (IntKind.wrap .u8 ((bt s1 i) - (48 : Int)))))) (IntKind.wrap .i64 (i + (1 : Int)))
            else
              none
        else
          none
      else
        kr ((0 : Int), false)
    else
      none
  else
    ko n0
theorem pouchref0_Value_B0_N (n : Nat) {R S : Type} (s1 : ByteArray) (n0 : Int) (i : Int) (kn : ByteArray → Int → Int → Option R) (ko : (Int) → Option R) (kr : (Int × Bool) → Option R) (kp : Int → Option R) (φ : R → Option S) : pouchref0_Value_B0 n s1 n0 i (fun s1 n0 i => (kn s1 n0 i).bind φ) (fun a => (ko a).bind φ) (fun a => (kr a).bind φ) (fun a => (kp a).bind φ) = (pouchref0_Value_B0 n s1 n0 i kn ko kr kp).bind φ := by
  unfold pouchref0_Value_B0
  first | (simp only [ite_bind, bind_bind, onL_bind, onX_bind, none_bind]) | rfl
def pouchref0_Value_L0 (n : Nat) : Nat → ByteArray → Int → Int → Option (Lx (Int) (Int × Bool))
  | 0, _, _, _ => none
  | m + 1, s1, n0, i => pouchref0_Value_B0 n s1 n0 i (fun s1 n0 i => pouchref0_Value_L0 n m s1 n0 i) (fun a => some (.out a)) (fun a => some (.ret a)) (fun p => some (.pan p))
def pouchref0_Value_L0_sp : List Sl := [.dat .str, .top, .top, .top, .dat (.int .i64), .dat (.int .i64), .top, .top, .top, .top, .top, .top, .top, .top, .top, .top, .top, .top, .top, .top, .top, .top, .top, .top, .top, .top, .top, .top, .top, .top, .top, .top, .top, .top, .top, .top, .top, .top, .top, .top, .top, .top, .top, .top, .top, .top, .top, .top]
def pouchref0_Value_L0_rp : List RS := []
def pouchref0_Value_L0_out_sp : List Sl := [.top, .top, .top, .top, .dat (.int .i64), .top, .top, .top, .top, .top, .top, .top, .top, .top, .top, .top, .top, .top, .top, .top, .top, .top, .top, .top, .top, .top, .top, .top, .top, .top, .top, .top, .top, .top, .top, .top, .top, .top, .top, .top, .top, .top, .top, .top, .top, .top, .top, .top]
def pouchref0_Value_L0_out_rp : List RS := []
def pouchref0_Value_L0_ret_sp : List Sl := [.top, .top, .dat (.int .i64), .dat .bool, .top, .top, .top, .top, .top, .top, .top, .top, .top, .top, .top, .top, .top, .top, .top, .top, .top, .top, .top, .top, .top, .top, .top, .top, .top, .top, .top, .top, .top, .top, .top, .top, .top, .top, .top, .top, .top, .top, .top, .top, .top, .top, .top, .top]
def pouchref0_Value_L0_ret_rp : List RS := []
def pouchref0_Value_L0_K (K : XE → List AV → AHeap → Option Out) : Lx (Int) (Int × Bool) → Option Out := fun x => onL x (fun a => K (.exit 0) (encF (nsOf pouchref0_Value_L0_out_rp ()) pouchref0_Value_L0_out_sp (a, ())) (encH (nsOf pouchref0_Value_L0_out_rp ()) pouchref0_Value_L0_out_rp ())) (fun a => K .ret (encF (nsOf pouchref0_Value_L0_ret_rp ()) pouchref0_Value_L0_ret_sp (a.1, (a.2, ()))) (encH (nsOf pouchref0_Value_L0_ret_rp ()) pouchref0_Value_L0_ret_rp ())) (fun _ => none)
def pouchref0_Value_B (n : Nat) {R : Type} (s : ByteArray) (k : (Int × Bool × Unit) → Option R) : Option R :=
  if (s.toList == (⟨#[]⟩ : ByteArray).toList) = false then
    if (decide ((s.size : Int) > (16 : Int))) = false then
      if (decide ((s.size : Int) > (1 : Int))) = true then
        if 0 ≤ (0 : Int) ∧ (0 : Int) < (s.size : Int) then
          if ((bt s (0 : Int)) == (48 : Int)) = true then
            k ((0 : Int), (false, ()))
          else
            (pouchref0_Value_L0 n n s (0 : Int) (0 : Int)).bind fun x_1 => onL x_1
              (fun a_2 =>
                k (a_2, (true, ())))
              (fun a_3 =>
                k (a_3.1, (a_3.2, ())))
              (fun _ => none)
        else
          none
      else
        (pouchref0_Value_L0 n n s (0 : Int) (0 : Int)).bind fun x_4 => onL x_4
          (fun a_5 =>
            k (a_5, (true, ())))
          (fun a_6 =>
            k (a_6.1, (a_6.2, ())))
          (fun _ => none)
    else
      k ((0 : Int), (false, ()))
  else
    k ((0 : Int), (false, ()))
def pouchref0_Value (n : Nat) (s : ByteArray) : Option (Int × Bool × Unit) := pouchref0_Value_B n s some
theorem pouchref0_Value_N (n : Nat) {R S : Type} (s : ByteArray) (k : (Int × Bool × Unit) → Option R) (φ : R → Option S) : pouchref0_Value_B n s (fun a => (k a).bind φ) = (pouchref0_Value_B n s k).bind φ := by
  unfold pouchref0_Value_B
  first | (simp only [ite_bind, bind_bind, onL_bind, onX_bind, none_bind]) | rfl
def pouchref0_Value_hint (n : Nat) : Hint Out := { live := fun c => (cond (Nat.beq c 0) [(0, none), (4, none), (5, none)] []), run := fun c => (cond (Nat.beq c 0) (some (runL pouchref0_Value_L0_sp pouchref0_Value_L0_rp fun σ ρ K => (pouchref0_Value_L0 n n σ.1 σ.2.1 σ.2.2.1).bind (pouchref0_Value_L0_K K))) none), xm := fun c q => (cond (Nat.beq c 0 && Nat.beq (q.getD 1000000) 0 && q.isSome) (some [(4, none)]) (cond (Nat.beq c 1 && q.isNone) (some [(2, none), (3, none)]) none)) }
theorem pouchref0_Value_L0_E (n : Nat) (K : XE → List AV → AHeap → Option Out) : ∀ (m : Nat) (s1 : ByteArray) (n0 : Int) (i : Int), loopI tys (callees Out (pouchref4_Local_es n)) (pouchref0_Value_hint n) n (codeAt [1, 1, 1, 0, 1, 0, 0] (bodyOf Tryd.f43)) 0 pouchref0_Value_L0_sp pouchref0_Value_L0_rp K m (s1, (n0, (i, ()))) () = (pouchref0_Value_L0 n m s1 n0 i).bind (pouchref0_Value_L0_K K)
  | 0, s1, n0, i => by kernel_rfl
  | m + 1, s1, n0, i => by
    have h1 : loopI tys (callees Out (pouchref4_Local_es n)) (pouchref0_Value_hint n) n (codeAt [1, 1, 1, 0, 1, 0, 0] (bodyOf Tryd.f43)) 0 pouchref0_Value_L0_sp pouchref0_Value_L0_rp K (m + 1) (s1, (n0, (i, ()))) () = pouchref0_Value_B0 n s1 n0 i (fun (s1 : ByteArray) (n0 : Int) (i : Int) => loopI tys (callees Out (pouchref4_Local_es n)) (pouchref0_Value_hint n) n (codeAt [1, 1, 1, 0, 1, 0, 0] (bodyOf Tryd.f43)) 0 pouchref0_Value_L0_sp pouchref0_Value_L0_rp K m (s1, (n0, (i, ()))) ()) (fun a => pouchref0_Value_L0_K K (.out a)) (fun a => pouchref0_Value_L0_K K (.ret a)) (fun p => pouchref0_Value_L0_K K (.pan p)) := by kernel_rfl
    have h2 : (fun (s1 : ByteArray) (n0 : Int) (i : Int) => loopI tys (callees Out (pouchref4_Local_es n)) (pouchref0_Value_hint n) n (codeAt [1, 1, 1, 0, 1, 0, 0] (bodyOf Tryd.f43)) 0 pouchref0_Value_L0_sp pouchref0_Value_L0_rp K m (s1, (n0, (i, ()))) ()) = (fun (s1 : ByteArray) (n0 : Int) (i : Int) => (pouchref0_Value_L0 n m s1 n0 i).bind (pouchref0_Value_L0_K K)) := funext fun s1 => funext fun n0 => funext fun i => pouchref0_Value_L0_E n K m s1 n0 i
    exact h1.trans ((congrArg (fun z => pouchref0_Value_B0 n s1 n0 i z (fun a => pouchref0_Value_L0_K K (.out a)) (fun a => pouchref0_Value_L0_K K (.ret a)) (fun p => pouchref0_Value_L0_K K (.pan p))) h2).trans (pouchref0_Value_B0_N n s1 n0 i (fun (s1 : ByteArray) (n0 : Int) (i : Int) => pouchref0_Value_L0 n m s1 n0 i) (fun a => some (.out a)) (fun a => some (.ret a)) (fun p => some (.pan p)) (pouchref0_Value_L0_K K)))
theorem pouchref0_Value_L0_ok (n : Nat) : RunOk tys (callees Out (pouchref4_Local_es n)) (pouchref0_Value_hint n) n (codeAt [1, 1, 1, 0, 1, 0, 0] (bodyOf Tryd.f43)) 0 := runOk_of (sp := pouchref0_Value_L0_sp) (rp := pouchref0_Value_L0_rp) (F := fun σ ρ K => (pouchref0_Value_L0 n n σ.1 σ.2.1 σ.2.2.1).bind (pouchref0_Value_L0_K K)) (by kernel_rfl) fun K σ ρ => pouchref0_Value_L0_E n K n σ.1 σ.2.1 σ.2.2.1
theorem pouchref0_Value_runs (n : Nat) : RunsOk tys (callees Out (pouchref4_Local_es n)) (pouchref0_Value_hint n) n (bodyOf Tryd.f43) 0 := ⟨trivial, ⟨⟨trivial, ⟨⟨trivial, trivial⟩, trivial⟩⟩, ⟨trivial, ⟨⟨trivial, ⟨pouchref0_Value_L0_ok n, ⟨⟨trivial, ⟨trivial, trivial⟩⟩, ⟨⟨⟨trivial, ⟨⟨trivial, trivial⟩, trivial⟩⟩, trivial⟩, trivial⟩⟩⟩⟩, ⟨trivial, trivial⟩⟩⟩⟩⟩
theorem pouchref0_Value_at : Tryd.prog.funcs[43]? = some Tryd.f43 := by kernel_rfl
theorem pouchref0_Value_ent (n : Nat) : Enters Tryd.prog 43 := enters_of (c := bodyOf Tryd.f43) pouchref0_Value_at (by kernel_rfl) (by kernel_rfl)
theorem pouchref0_Value_E (n : Nat) (s : ByteArray) : fnA tys (callees Out (pouchref4_Local_es n)) (pouchref0_Value_hint n) n Tryd.f43 (encL (.pair .str .unit) (s, ())) [] (soloA fun v => some (.ret v)) (soloA fun v => some (.pan v)) = pouchref0_Value_B n s (fun y => some (.ret (encR (.many (.pair (.int .i64) (.pair .bool .unit))) y))) := by kernel_rfl
theorem pouchref0_Value_ok (n : Nat) : EntryOk Tryd.prog gl ⟨43, pcT (.pair .str .unit) (.many (.pair (.int .i64) (.pair .bool .unit))) (fun xs => pouchref0_Value n xs.1), none, none⟩ :=
  pcT_ok (pouchref0_Value_ent n) fun xs y h => ans_of_fn tys_ok (pouchref4_Local_es_ok n) mixed (hint := pouchref0_Value_hint n) (n := n) (fn := Tryd.f43) pouchref0_Value_at (fun c hc => by
    have : bodyOf Tryd.f43 = c := by unfold bodyOf; rw [hc]; rfl
    exact this ▸ pouchref0_Value_runs n) (run_ret (φ := (fun y => some (Out.ret (encR (.many (.pair (.int .i64) (.pair .bool .unit))) y)))) ((pouchref0_Value_E n xs.1).trans (pouchref0_Value_N (R := (Int × Bool × Unit)) (S := Out) n xs.1 some (fun y => some (Out.ret (encR (.many (.pair (.int .i64) (.pair .bool .unit))) y))))) h)
def pouchref0_Value_es (n : Nat) : List Entry := ⟨43, pcT (.pair .str .unit) (.many (.pair (.int .i64) (.pair .bool .unit))) (fun xs => pouchref0_Value n xs.1), none, none⟩ :: pouchref4_Local_es n
theorem pouchref0_Value_es_ok (n : Nat) : AllOk Tryd.prog gl (pouchref0_Value_es n) := .cons (pouchref0_Value_ok n) (pouchref4_Local_es_ok n)

/- pouch/pouchref4.Literal -/
def pouchref4_Literal_B0 (n : Nat) {R : Type} (l : (Sq ByteArray)) (i : Int) (kn : (Sq ByteArray) → Int → Option R) (ko : ((Sq ByteArray)) → Option R) (kr : (Bool) → Option R) (kp : Int → Option R) : Option R :=
  if (decide (i < (l.n : Int))) = true then
    if 0 ≤ i ∧ i < (l.n : Int) then
      (pouchref0_Value n (l.at' (Int.toNat i))).bind fun v1 =>
      if (!v1.2.1) = false then
        if (decide (v1.1 > (255 : Int))) = true then
          kr false
        else
          kn l (IntKind.wrap .i64 (i + (1 : Int)))
      else
        kr false
    else
      none
  else
    ko l
theorem pouchref4_Literal_B0_N (n : Nat) {R S : Type} (l : (Sq ByteArray)) (i : Int) (kn : (Sq ByteArray) → Int → Option R) (ko : ((Sq ByteArray)) → Option R) (kr : (Bool) → Option R) (kp : Int → Option R) (φ : R → Option S) : pouchref4_Literal_B0 n l i (fun l i => (kn l i).bind φ) (fun a => (ko a).bind φ) (fun a => (kr a).bind φ) (fun a => (kp a).bind φ) = (pouchref4_Literal_B0 n l i kn ko kr kp).bind φ := by
  unfold pouchref4_Literal_B0
  first | (simp only [ite_bind, bind_bind, onL_bind, onX_bind, none_bind]) | rfl
def pouchref4_Literal_L0 (n : Nat) : Nat → (Sq ByteArray) → Int → Option (Lx ((Sq ByteArray)) (Bool))
  | 0, _, _ => none
  | m + 1, l, i => pouchref4_Literal_B0 n l i (fun l i => pouchref4_Literal_L0 n m l i) (fun a => some (.out a)) (fun a => some (.ret a)) (fun p => some (.pan p))
def pouchref4_Literal_L0_sp : List Sl := [.top, .top, .top, .dat (.sl .str), .dat (.int .i64), .top, .top, .top, .top, .top, .top, .top, .top, .top, .top, .top, .top, .top, .top, .top, .top, .top, .top, .top, .top, .top, .top, .top, .top, .top, .top, .top, .top, .top, .top, .top, .top, .top, .top, .top, .top, .top, .top, .top, .top, .top, .top, .top, .top, .top, .top, .top]
def pouchref4_Literal_L0_rp : List RS := []
def pouchref4_Literal_L0_out_sp : List Sl := [.top, .top, .top, .dat (.sl .str), .top, .top, .top, .top, .top, .top, .top, .top, .top, .top, .top, .top, .top, .top, .top, .top, .top, .top, .top, .top, .top, .top, .top, .top, .top, .top, .top, .top, .top, .top, .top, .top, .top, .top, .top, .top, .top, .top, .top, .top, .top, .top, .top, .top, .top, .top, .top, .top]
def pouchref4_Literal_L0_out_rp : List RS := []
def pouchref4_Literal_L0_ret_sp : List Sl := [.top, .top, .dat .bool, .top, .top, .top, .top, .top, .top, .top, .top, .top, .top, .top, .top, .top, .top, .top, .top, .top, .top, .top, .top, .top, .top, .top, .top, .top, .top, .top, .top, .top, .top, .top, .top, .top, .top, .top, .top, .top, .top, .top, .top, .top, .top, .top, .top, .top, .top, .top, .top, .top]
def pouchref4_Literal_L0_ret_rp : List RS := []
def pouchref4_Literal_L0_K (K : XE → List AV → AHeap → Option Out) : Lx ((Sq ByteArray)) (Bool) → Option Out := fun x => onL x (fun a => K (.exit 0) (encF (nsOf pouchref4_Literal_L0_out_rp ()) pouchref4_Literal_L0_out_sp (a, ())) (encH (nsOf pouchref4_Literal_L0_out_rp ()) pouchref4_Literal_L0_out_rp ())) (fun a => K .ret (encF (nsOf pouchref4_Literal_L0_ret_rp ()) pouchref4_Literal_L0_ret_sp (a, ())) (encH (nsOf pouchref4_Literal_L0_ret_rp ()) pouchref4_Literal_L0_ret_rp ())) (fun _ => none)
def pouchref4_Literal_B (n : Nat) {R : Type} (s : ByteArray) (k : Bool → Option R) : Option R :=
  if (decide ((s.size : Int) < (2 : Int))) = false then
    if 0 ≤ (0 : Int) ∧ (0 : Int) < (s.size : Int) then
      if ((bt s (0 : Int)) != (91 : Int)) = false then
        if 0 ≤ (IntKind.wrap .i64 ((s.size : Int) - (1 : Int))) ∧ (IntKind.wrap .i64 ((s.size : Int) - (1 : Int))) < (s.size : Int) then
          if ((bt s (IntKind.wrap .i64 ((s.size : Int) - (1 : Int)))) != (93 : Int)) = true then
            k false
          else
            if 0 ≤ (IntKind.wrap .i64 ((s.size : Int) - (1 : Int))) ∧ (IntKind.wrap .i64 ((s.size : Int) - (1 : Int))) ≤ (s.size : Int) then
              if 0 ≤ (1 : Int) ∧ (1 : Int) ≤ (IntKind.wrap .i64 ((s.size : Int) - (1 : Int))) then
                (pouchref0_Split n (s.extract (Int.toNat (1 : Int)) (Int.toNat (IntKind.wrap .i64 ((s.size : Int) - (1 : Int))))) (46 : Int)).bind fun v =>
                (pouchref4_Literal_L0 n n v (0 : Int)).bind fun x_1 => onL x_1
                  (fun a_2 =>
                    k ((a_2.n : Int) == (4 : Int)))
                  (fun a_3 =>
                    k a_3)
                  (fun _ => none)
              else
                none
            else
              none
        else
          none
      else
        k false
    else
      none
  else
    k false
def pouchref4_Literal (n : Nat) (s : ByteArray) : Option Bool := pouchref4_Literal_B n s some
theorem pouchref4_Literal_N (n : Nat) {R S : Type} (s : ByteArray) (k : Bool → Option R) (φ : R → Option S) : pouchref4_Literal_B n s (fun a => (k a).bind φ) = (pouchref4_Literal_B n s k).bind φ := by
  unfold pouchref4_Literal_B
  first | (simp only [ite_bind, bind_bind, onL_bind, onX_bind, none_bind]) | rfl
def pouchref4_Literal_hint (n : Nat) : Hint Out := { live := fun c => (cond (Nat.beq c 0) [(3, some (.sl .str)), (4, none)] []), run := fun c => (cond (Nat.beq c 0) (some (runL pouchref4_Literal_L0_sp pouchref4_Literal_L0_rp fun σ ρ K => (pouchref4_Literal_L0 n n σ.1 σ.2.1).bind (pouchref4_Literal_L0_K K))) none), xm := fun c q => (cond (Nat.beq c 0 && Nat.beq (q.getD 1000000) 0 && q.isSome) (some [(3, some (.sl .str))]) (cond (Nat.beq c 1 && q.isNone) (some [(2, none)]) none)) }
theorem pouchref4_Literal_L0_E (n : Nat) (K : XE → List AV → AHeap → Option Out) : ∀ (m : Nat) (l : (Sq ByteArray)) (i : Int), loopI tys (callees Out (pouchref0_Value_es n)) (pouchref4_Literal_hint n) n (codeAt [1, 1, 1, 0, 1, 0, 0] (bodyOf Tryd.f30)) 0 pouchref4_Literal_L0_sp pouchref4_Literal_L0_rp K m (l, (i, ())) () = (pouchref4_Literal_L0 n m l i).bind (pouchref4_Literal_L0_K K)
  | 0, l, i => by kernel_rfl
  | m + 1, l, i => by
    have h1 : loopI tys (callees Out (pouchref0_Value_es n)) (pouchref4_Literal_hint n) n (codeAt [1, 1, 1, 0, 1, 0, 0] (bodyOf Tryd.f30)) 0 pouchref4_Literal_L0_sp pouchref4_Literal_L0_rp K (m + 1) (l, (i, ())) () = pouchref4_Literal_B0 n l i (fun (l : (Sq ByteArray)) (i : Int) => loopI tys (callees Out (pouchref0_Value_es n)) (pouchref4_Literal_hint n) n (codeAt [1, 1, 1, 0, 1, 0, 0] (bodyOf Tryd.f30)) 0 pouchref4_Literal_L0_sp pouchref4_Literal_L0_rp K m (l, (i, ())) ()) (fun a => pouchref4_Literal_L0_K K (.out a)) (fun a => pouchref4_Literal_L0_K K (.ret a)) (fun p => pouchref4_Literal_L0_K K (.pan p)) := by kernel_rfl
    have h2 : (fun (l : (Sq ByteArray)) (i : Int) => loopI tys (callees Out (pouchref0_Value_es n)) (pouchref4_Literal_hint n) n (codeAt [1, 1, 1, 0, 1, 0, 0] (bodyOf Tryd.f30)) 0 pouchref4_Literal_L0_sp pouchref4_Literal_L0_rp K m (l, (i, ())) ()) = (fun (l : (Sq ByteArray)) (i : Int) => (pouchref4_Literal_L0 n m l i).bind (pouchref4_Literal_L0_K K)) := funext fun l => funext fun i => pouchref4_Literal_L0_E n K m l i
    exact h1.trans ((congrArg (fun z => pouchref4_Literal_B0 n l i z (fun a => pouchref4_Literal_L0_K K (.out a)) (fun a => pouchref4_Literal_L0_K K (.ret a)) (fun p => pouchref4_Literal_L0_K K (.pan p))) h2).trans (pouchref4_Literal_B0_N n l i (fun (l : (Sq ByteArray)) (i : Int) => pouchref4_Literal_L0 n m l i) (fun a => some (.out a)) (fun a => some (.ret a)) (fun p => some (.pan p)) (pouchref4_Literal_L0_K K)))
theorem pouchref4_Literal_L0_ok (n : Nat) : RunOk tys (callees Out (pouchref0_Value_es n)) (pouchref4_Literal_hint n) n (codeAt [1, 1, 1, 0, 1, 0, 0] (bodyOf Tryd.f30)) 0 := runOk_of (sp := pouchref4_Literal_L0_sp) (rp := pouchref4_Literal_L0_rp) (F := fun σ ρ K => (pouchref4_Literal_L0 n n σ.1 σ.2.1).bind (pouchref4_Literal_L0_K K)) (by kernel_rfl) fun K σ ρ => pouchref4_Literal_L0_E n K n σ.1 σ.2.1
theorem pouchref4_Literal_runs (n : Nat) : RunsOk tys (callees Out (pouchref0_Value_es n)) (pouchref4_Literal_hint n) n (bodyOf Tryd.f30) 0 := ⟨trivial, ⟨⟨trivial, ⟨⟨trivial, trivial⟩, trivial⟩⟩, ⟨trivial, ⟨⟨trivial, ⟨pouchref4_Literal_L0_ok n, ⟨⟨trivial, ⟨trivial, trivial⟩⟩, ⟨⟨trivial, ⟨trivial, ⟨⟨trivial, trivial⟩, trivial⟩⟩⟩, trivial⟩⟩⟩⟩, ⟨trivial, trivial⟩⟩⟩⟩⟩
theorem pouchref4_Literal_at : Tryd.prog.funcs[30]? = some Tryd.f30 := by kernel_rfl
theorem pouchref4_Literal_ent (n : Nat) : Enters Tryd.prog 30 := enters_of (c := bodyOf Tryd.f30) pouchref4_Literal_at (by kernel_rfl) (by kernel_rfl)
theorem pouchref4_Literal_E (n : Nat) (s : ByteArray) : fnA tys (callees Out (pouchref0_Value_es n)) (pouchref4_Literal_hint n) n Tryd.f30 (encL (.pair .str .unit) (s, ())) [] (soloA fun v => some (.ret v)) (soloA fun v => some (.pan v)) = pouchref4_Literal_B n s (fun y => some (.ret (encR (.one .bool) y))) := by kernel_rfl
theorem pouchref4_Literal_ok (n : Nat) : EntryOk Tryd.prog gl ⟨30, pcT (.pair .str .unit) (.one .bool) (fun xs => pouchref4_Literal n xs.1), none, none⟩ :=
  pcT_ok (pouchref4_Literal_ent n) fun xs y h => ans_of_fn tys_ok (pouchref0_Value_es_ok n) mixed (hint := pouchref4_Literal_hint n) (n := n) (fn := Tryd.f30) pouchref4_Literal_at (fun c hc => by
    have : bodyOf Tryd.f30 = c := by unfold bodyOf; rw [hc]; rfl
    exact this ▸ pouchref4_Literal_runs n) (run_ret (φ := (fun y => some (Out.ret (encR (.one .bool) y)))) ((pouchref4_Literal_E n xs.1).trans (pouchref4_Literal_N (R := Bool) (S := Out) n xs.1 some (fun y => some (Out.ret (encR (.one .bool) y))))) h)
def pouchref4_Literal_es (n : Nat) : List Entry := ⟨30, pcT (.pair .str .unit) (.one .bool) (fun xs => pouchref4_Literal n xs.1), none, none⟩ :: pouchref0_Value_es n
theorem pouchref4_Literal_es_ok (n : Nat) : AllOk Tryd.prog gl (pouchref4_Literal_es n) := .cons (pouchref4_Literal_ok n) (pouchref0_Value_es_ok n)

/- pouch/pouchref4.Domain -/
def pouchref4_Domain_B1 (n : Nat) {R : Type} (l1 : (Sq ByteArray)) (i1 : Int) (w : ByteArray) (k0 : Int) (kn : (Sq ByteArray) → Int → ByteArray → Int → Option R) (ko : ((Sq ByteArray) × Int) → Option R) (kr : (Bool) → Option R) (kp : Int → Option R) : Option R :=
  if (decide (k0 < (w.size : Int))) = true then
    if 0 ≤ k0 ∧ k0 < (w.size : Int) then
      if (decide ((bt w k0) ≥ (97 : Int))) = true then
        if 0 ≤ k0 ∧ k0 < (w.size : Int) then
          if (!(decide ((bt w k0) ≤ (122 : Int)))) = true then
            if 0 ≤ k0 ∧ k0 < (w.size : Int) then
              (pouchref4_digit n (bt w k0)).bind fun v2 =>
              if (!v2) = true then
                if 0 ≤ k0 ∧ k0 < (w.size : Int) then
                  if ((bt w k0) != (45 : Int)) = true then
                    kr false
                  else
                    kn l1 i1 w (IntKind.wrap .i64 (k0 + (1 : Int)))
                else
                  none
              else
                kn l1 i1 w (IntKind.wrap .i64 (k0 + (1 : Int)))
            else
              none
          else
            kn l1 i1 w (IntKind.wrap .i64 (k0 + (1 : Int)))
        else
          none
      else
        if 0 ≤ k0 ∧ k0 < (w.size : Int) then
          (pouchref4_digit n (bt w k0)).bind fun v3 =>
          if (!v3) = true then
            if 0 ≤ k0 ∧ k0 < (w.size : Int) then
              if ((bt w k0) != (45 : Int)) = true then
                kr false
              else
                kn l1 i1 w (IntKind.wrap .i64 (k0 + (1 : Int)))
            else
              none
          else
            kn l1 i1 w (IntKind.wrap .i64 (k0 + (1 : Int)))
        else
          none
    else
      none
  else
    ko (l1, i1)
theorem pouchref4_Domain_B1_N (n : Nat) {R S : Type} (l1 : (Sq ByteArray)) (i1 : Int) (w : ByteArray) (k0 : Int) (kn : (Sq ByteArray) → Int → ByteArray → Int → Option R) (ko : ((Sq ByteArray) × Int) → Option R) (kr : (Bool) → Option R) (kp : Int → Option R) (φ : R → Option S) : pouchref4_Domain_B1 n l1 i1 w k0 (fun l1 i1 w k0 => (kn l1 i1 w k0).bind φ) (fun a => (ko a).bind φ) (fun a => (kr a).bind φ) (fun a => (kp a).bind φ) = (pouchref4_Domain_B1 n l1 i1 w k0 kn ko kr kp).bind φ := by
  unfold pouchref4_Domain_B1
  first | (simp only [ite_bind, bind_bind, onL_bind, onX_bind, none_bind]) | rfl
def pouchref4_Domain_L1 (n : Nat) : Nat → (Sq ByteArray) → Int → ByteArray → Int → Option (Lx ((Sq ByteArray) × Int) (Bool))
  | 0, _, _, _, _ => none
  | m + 1, l1, i1, w, k0 => pouchref4_Domain_B1 n l1 i1 w k0 (fun l1 i1 w k0 => pouchref4_Domain_L1 n m l1 i1 w k0) (fun a => some (.out a)) (fun a => some (.ret a)) (fun p => some (.pan p))
def pouchref4_Domain_L1_sp : List Sl := [.top, .top, .top, .dat (.sl .str), .dat (.int .i64), .dat .str, .dat (.int .i64), .top, .top, .top, .top, .top, .top, .top, .top, .top, .top, .top, .top, .top, .top, .top, .top, .top, .top, .top, .top, .top, .top, .top, .top, .top, .top, .top, .top, .top, .top, .top, .top, .top, .top, .top, .top, .top, .top, .top, .top, .top, .top, .top, .top, .top, .top, .top, .top, .top, .top, .top, .top, .top, .top, .top, .top, .top, .top, .top, .top, .top, .top, .top, .top, .top, .top, .top, .top]
def pouchref4_Domain_L1_rp : List RS := []
def pouchref4_Domain_L1_out_sp : List Sl := [.top, .top, .top, .dat (.sl .str), .dat (.int .i64), .top, .top, .top, .top, .top, .top, .top, .top, .top, .top, .top, .top, .top, .top, .top, .top, .top, .top, .top, .top, .top, .top, .top, .top, .top, .top, .top, .top, .top, .top, .top, .top, .top, .top, .top, .top, .top, .top, .top, .top, .top, .top, .top, .top, .top, .top, .top, .top, .top, .top, .top, .top, .top, .top, .top, .top, .top, .top, .top, .top, .top, .top, .top, .top, .top, .top, .top, .top, .top, .top]
def pouchref4_Domain_L1_out_rp : List RS := []
def pouchref4_Domain_L1_ret_sp : List Sl := [.top, .top, .dat .bool, .top, .top, .top, .top, .top, .top, .top, .top, .top, .top, .top, .top, .top, .top, .top, .top, .top, .top, .top, .top, .top, .top, .top, .top, .top, .top, .top, .top, .top, .top, .top, .top, .top, .top, .top, .top, .top, .top, .top, .top, .top, .top, .top, .top, .top, .top, .top, .top, .top, .top, .top, .top, .top, .top, .top, .top, .top, .top, .top, .top, .top, .top, .top, .top, .top, .top, .top, .top, .top, .top, .top, .top]
def pouchref4_Domain_L1_ret_rp : List RS := []
def pouchref4_Domain_L1_K (K : XE → List AV → AHeap → Option Out) : Lx ((Sq ByteArray) × Int) (Bool) → Option Out := fun x => onL x (fun a => K (.exit 2) (encF (nsOf pouchref4_Domain_L1_out_rp ()) pouchref4_Domain_L1_out_sp (a.1, (a.2, ()))) (encH (nsOf pouchref4_Domain_L1_out_rp ()) pouchref4_Domain_L1_out_rp ())) (fun a => K .ret (encF (nsOf pouchref4_Domain_L1_ret_rp ()) pouchref4_Domain_L1_ret_sp (a, ())) (encH (nsOf pouchref4_Domain_L1_ret_rp ()) pouchref4_Domain_L1_ret_rp ())) (fun _ => none)
def pouchref4_Domain_B0 (n : Nat) {R : Type} (l : (Sq ByteArray)) (i : Int) (kn : (Sq ByteArray) → Int → Option R) (ko : (Unit) → Option R) (kr : (Bool) → Option R) (kp : Int → Option R) : Option R :=
  if (decide (i < (l.n : Int))) = true then
    if 0 ≤ i ∧ i < (l.n : Int) then
      if (decide (((l.at' (Int.toNat i)).size : Int) < (1 : Int))) = false then
        if (decide (((l.at' (Int.toNat i)).size : Int) > (63 : Int))) = false then
          if 0 ≤ (0 : Int) ∧ (0 : Int) < ((l.at' (Int.toNat i)).size : Int) then
            if ((bt (l.at' (Int.toNat i)) (0 : Int)) == (45 : Int)) = false then
              if 0 ≤ (IntKind.wrap .i64 (((l.at' (Int.toNat i)).size : Int) - (1 : Int))) ∧ (IntKind.wrap .i64 (((l.at' (Int.toNat i)).size : Int) - (1 : Int))) < ((l.at' (Int.toNat i)).size : Int) then
                if ((bt (l.at' (Int.toNat i)) (IntKind.wrap .i64 (((l.at' (Int.toNat i)).size : Int) - (1 : Int)))) == (45 : Int)) = true then
                  kr false
                else
                  (pouchref4_Domain_L1 n n l i (l.at' (Int.toNat i)) (0 : Int)).bind fun x_1 => onL x_1
                    (fun a_2 =>
                      kn a_2.1 (IntKind.wrap .i64 (a_2.2 + (1 : Int))))
                    (fun a_3 =>
                      kr a_3)
                    (fun _ => none)
              else
                none
            else
              kr false
          else
            none
        else
          kr false
      else
        kr false
    else
      none
  else
    ko ()
theorem pouchref4_Domain_B0_N (n : Nat) {R S : Type} (l : (Sq ByteArray)) (i : Int) (kn : (Sq ByteArray) → Int → Option R) (ko : (Unit) → Option R) (kr : (Bool) → Option R) (kp : Int → Option R) (φ : R → Option S) : pouchref4_Domain_B0 n l i (fun l i => (kn l i).bind φ) (fun a => (ko a).bind φ) (fun a => (kr a).bind φ) (fun a => (kp a).bind φ) = (pouchref4_Domain_B0 n l i kn ko kr kp).bind φ := by
  unfold pouchref4_Domain_B0
  first | (simp only [ite_bind, bind_bind, onL_bind, onX_bind, none_bind]) | rfl
def pouchref4_Domain_L0 (n : Nat) : Nat → (Sq ByteArray) → Int → Option (Lx (Unit) (Bool))
  | 0, _, _ => none
  | m + 1, l, i => pouchref4_Domain_B0 n l i (fun l i => pouchref4_Domain_L0 n m l i) (fun a => some (.out a)) (fun a => some (.ret a)) (fun p => some (.pan p))
def pouchref4_Domain_L0_sp : List Sl := [.top, .top, .top, .dat (.sl .str), .dat (.int .i64), .top, .top, .top, .top, .top, .top, .top, .top, .top, .top, .top, .top, .top, .top, .top, .top, .top, .top, .top, .top, .top, .top, .top, .top, .top, .top, .top, .top, .top, .top, .top, .top, .top, .top, .top, .top, .top, .top, .top, .top, .top, .top, .top, .top, .top, .top, .top, .top, .top, .top, .top, .top, .top, .top, .top, .top, .top, .top, .top, .top, .top, .top, .top, .top, .top, .top, .top, .top, .top, .top]
def pouchref4_Domain_L0_rp : List RS := []
def pouchref4_Domain_L0_out_sp : List Sl := [.top, .top, .top, .top, .top, .top, .top, .top, .top, .top, .top, .top, .top, .top, .top, .top, .top, .top, .top, .top, .top, .top, .top, .top, .top, .top, .top, .top, .top, .top, .top, .top, .top, .top, .top, .top, .top, .top, .top, .top, .top, .top, .top, .top, .top, .top, .top, .top, .top, .top, .top, .top, .top, .top, .top, .top, .top, .top, .top, .top, .top, .top, .top, .top, .top, .top, .top, .top, .top, .top, .top, .top, .top, .top, .top]
def pouchref4_Domain_L0_out_rp : List RS := []
def pouchref4_Domain_L0_ret_sp : List Sl := [.top, .top, .dat .bool, .top, .top, .top, .top, .top, .top, .top, .top, .top, .top, .top, .top, .top, .top, .top, .top, .top, .top, .top, .top, .top, .top, .top, .top, .top, .top, .top, .top, .top, .top, .top, .top, .top, .top, .top, .top, .top, .top, .top, .top, .top, .top, .top, .top, .top, .top, .top, .top, .top, .top, .top, .top, .top, .top, .top, .top, .top, .top, .top, .top, .top, .top, .top, .top, .top, .top, .top, .top, .top, .top, .top, .top]
def pouchref4_Domain_L0_ret_rp : List RS := []
def pouchref4_Domain_L0_K (K : XE → List AV → AHeap → Option Out) : Lx (Unit) (Bool) → Option Out := fun x => onL x (fun a => K (.exit 0) (encF (nsOf pouchref4_Domain_L0_out_rp ()) pouchref4_Domain_L0_out_sp ()) (encH (nsOf pouchref4_Domain_L0_out_rp ()) pouchref4_Domain_L0_out_rp ())) (fun a => K .ret (encF (nsOf pouchref4_Domain_L0_ret_rp ()) pouchref4_Domain_L0_ret_sp (a, ())) (encH (nsOf pouchref4_Domain_L0_ret_rp ()) pouchref4_Domain_L0_ret_rp ())) (fun _ => none)
def pouchref4_Domain_B (n : Nat) {R : Type} (s : ByteArray) (k : Bool → Option R) : Option R :=
  if (decide ((s.size : Int) > (255 : Int))) = true then
    k false
  else
    (pouchref4_Literal n s).bind fun v =>
    if v = true then
      k true
    else
      (pouchref0_Split n s (46 : Int)).bind fun v1 =>
      (pouchref4_Domain_L0 n n v1 (0 : Int)).bind fun x_1 => onL x_1
        (fun a_2 =>
          k true)
        (fun a_3 =>
          k a_3)
        (fun _ => none)
def pouchref4_Domain (n : Nat) (s : ByteArray) : Option Bool := pouchref4_Domain_B n s some
theorem pouchref4_Domain_N (n : Nat) {R S : Type} (s : ByteArray) (k : Bool → Option R) (φ : R → Option S) : pouchref4_Domain_B n s (fun a => (k a).bind φ) = (pouchref4_Domain_B n s k).bind φ := by
  unfold pouchref4_Domain_B
  first | (simp only [ite_bind, bind_bind, onL_bind, onX_bind, none_bind]) | rfl
def pouchref4_Domain_hint (n : Nat) : Hint Out := { live := fun c => (cond (Nat.beq c 0) [(3, some (.sl .str)), (4, none)] (cond (Nat.beq c 2) [(3, some (.sl .str)), (4, none), (5, none), (6, none)] [])), run := fun c => (cond (Nat.beq c 0) (some (runL pouchref4_Domain_L0_sp pouchref4_Domain_L0_rp fun σ ρ K => (pouchref4_Domain_L0 n n σ.1 σ.2.1).bind (pouchref4_Domain_L0_K K))) (cond (Nat.beq c 2) (some (runL pouchref4_Domain_L1_sp pouchref4_Domain_L1_rp fun σ ρ K => (pouchref4_Domain_L1 n n σ.1 σ.2.1 σ.2.2.1 σ.2.2.2.1).bind (pouchref4_Domain_L1_K K))) none)), xm := fun c q => (cond (Nat.beq c 0 && Nat.beq (q.getD 1000000) 0 && q.isSome) (some []) (cond (Nat.beq c 2 && Nat.beq (q.getD 1000000) 2 && q.isSome) (some [(3, some (.sl .str)), (4, none)]) (cond (Nat.beq c 3 && q.isNone) (some [(2, none)]) (cond (Nat.beq c 1 && q.isNone) (some [(2, none)]) none)))) }
theorem pouchref4_Domain_L1_E (n : Nat) (K : XE → List AV → AHeap → Option Out) : ∀ (m : Nat) (l1 : (Sq ByteArray)) (i1 : Int) (w : ByteArray) (k0 : Int), loopI tys (callees Out (pouchref4_Literal_es n)) (pouchref4_Domain_hint n) n (codeAt [1, 1, 1, 1, 0, 1, 0, 0, 1, 0, 0, 1, 1, 1, 0, 0] (bodyOf Tryd.f15)) 2 pouchref4_Domain_L1_sp pouchref4_Domain_L1_rp K m (l1, (i1, (w, (k0, ())))) () = (pouchref4_Domain_L1 n m l1 i1 w k0).bind (pouchref4_Domain_L1_K K)
  | 0, l1, i1, w, k0 => by kernel_rfl
  | m + 1, l1, i1, w, k0 => by
    have h1 : loopI tys (callees Out (pouchref4_Literal_es n)) (pouchref4_Domain_hint n) n (codeAt [1, 1, 1, 1, 0, 1, 0, 0, 1, 0, 0, 1, 1, 1, 0, 0] (bodyOf Tryd.f15)) 2 pouchref4_Domain_L1_sp pouchref4_Domain_L1_rp K (m + 1) (l1, (i1, (w, (k0, ())))) () = pouchref4_Domain_B1 n l1 i1 w k0 (fun (l1 : (Sq ByteArray)) (i1 : Int) (w : ByteArray) (k0 : Int) => loopI tys (callees Out (pouchref4_Literal_es n)) (pouchref4_Domain_hint n) n (codeAt [1, 1, 1, 1, 0, 1, 0, 0, 1, 0, 0, 1, 1, 1, 0, 0] (bodyOf Tryd.f15)) 2 pouchref4_Domain_L1_sp pouchref4_Domain_L1_rp K m (l1, (i1, (w, (k0, ())))) ()) (fun a => pouchref4_Domain_L1_K K (.out a)) (fun a => pouchref4_Domain_L1_K K (.ret a)) (fun p => pouchref4_Domain_L1_K K (.pan p)) := by kernel_rfl
    have h2 : (fun (l1 : (Sq ByteArray)) (i1 : Int) (w : ByteArray) (k0 : Int) => loopI tys (callees Out (pouchref4_Literal_es n)) (pouchref4_Domain_hint n) n (codeAt [1, 1, 1, 1, 0, 1, 0, 0, 1, 0, 0, 1, 1, 1, 0, 0] (bodyOf Tryd.f15)) 2 pouchref4_Domain_L1_sp pouchref4_Domain_L1_rp K m (l1, (i1, (w, (k0, ())))) ()) = (fun (l1 : (Sq ByteArray)) (i1 : Int) (w : ByteArray) (k0 : Int) => (pouchref4_Domain_L1 n m l1 i1 w k0).bind (pouchref4_Domain_L1_K K)) := funext fun l1 => funext fun i1 => funext fun w => funext fun k0 => pouchref4_Domain_L1_E n K m l1 i1 w k0
    exact h1.trans ((congrArg (fun z => pouchref4_Domain_B1 n l1 i1 w k0 z (fun a => pouchref4_Domain_L1_K K (.out a)) (fun a => pouchref4_Domain_L1_K K (.ret a)) (fun p => pouchref4_Domain_L1_K K (.pan p))) h2).trans (pouchref4_Domain_B1_N n l1 i1 w k0 (fun (l1 : (Sq ByteArray)) (i1 : Int) (w : ByteArray) (k0 : Int) => pouchref4_Domain_L1 n m l1 i1 w k0) (fun a => some (.out a)) (fun a => some (.ret a)) (fun p => some (.pan p)) (pouchref4_Domain_L1_K K)))
theorem pouchref4_Domain_L1_ok (n : Nat) : RunOk tys (callees Out (pouchref4_Literal_es n)) (pouchref4_Domain_hint n) n (codeAt [1, 1, 1, 1, 0, 1, 0, 0, 1, 0, 0, 1, 1, 1, 0, 0] (bodyOf Tryd.f15)) 2 := runOk_of (sp := pouchref4_Domain_L1_sp) (rp := pouchref4_Domain_L1_rp) (F := fun σ ρ K => (pouchref4_Domain_L1 n n σ.1 σ.2.1 σ.2.2.1 σ.2.2.2.1).bind (pouchref4_Domain_L1_K K)) (by kernel_rfl) fun K σ ρ => pouchref4_Domain_L1_E n K n σ.1 σ.2.1 σ.2.2.1 σ.2.2.2.1
theorem pouchref4_Domain_L0_E (n : Nat) (K : XE → List AV → AHeap → Option Out) : ∀ (m : Nat) (l : (Sq ByteArray)) (i : Int), loopI tys (callees Out (pouchref4_Literal_es n)) (pouchref4_Domain_hint n) n (codeAt [1, 1, 1, 1, 0, 1, 0, 0] (bodyOf Tryd.f15)) 0 pouchref4_Domain_L0_sp pouchref4_Domain_L0_rp K m (l, (i, ())) () = (pouchref4_Domain_L0 n m l i).bind (pouchref4_Domain_L0_K K)
  | 0, l, i => by kernel_rfl
  | m + 1, l, i => by
    have h1 : loopI tys (callees Out (pouchref4_Literal_es n)) (pouchref4_Domain_hint n) n (codeAt [1, 1, 1, 1, 0, 1, 0, 0] (bodyOf Tryd.f15)) 0 pouchref4_Domain_L0_sp pouchref4_Domain_L0_rp K (m + 1) (l, (i, ())) () = pouchref4_Domain_B0 n l i (fun (l : (Sq ByteArray)) (i : Int) => loopI tys (callees Out (pouchref4_Literal_es n)) (pouchref4_Domain_hint n) n (codeAt [1, 1, 1, 1, 0, 1, 0, 0] (bodyOf Tryd.f15)) 0 pouchref4_Domain_L0_sp pouchref4_Domain_L0_rp K m (l, (i, ())) ()) (fun a => pouchref4_Domain_L0_K K (.out a)) (fun a => pouchref4_Domain_L0_K K (.ret a)) (fun p => pouchref4_Domain_L0_K K (.pan p)) := by kernel_rfl
    have h2 : (fun (l : (Sq ByteArray)) (i : Int) => loopI tys (callees Out (pouchref4_Literal_es n)) (pouchref4_Domain_hint n) n (codeAt [1, 1, 1, 1, 0, 1, 0, 0] (bodyOf Tryd.f15)) 0 pouchref4_Domain_L0_sp pouchref4_Domain_L0_rp K m (l, (i, ())) ()) = (fun (l : (Sq ByteArray)) (i : Int) => (pouchref4_Domain_L0 n m l i).bind (pouchref4_Domain_L0_K K)) := funext fun l => funext fun i => pouchref4_Domain_L0_E n K m l i
    exact h1.trans ((congrArg (fun z => pouchref4_Domain_B0 n l i z (fun a => pouchref4_Domain_L0_K K (.out a)) (fun a => pouchref4_Domain_L0_K K (.ret a)) (fun p => pouchref4_Domain_L0_K K (.pan p))) h2).trans (pouchref4_Domain_B0_N n l i (fun (l : (Sq ByteArray)) (i : Int) => pouchref4_Domain_L0 n m l i) (fun a => some (.out a)) (fun a => some (.ret a)) (fun p => some (.pan p)) (pouchref4_Domain_L0_K K)))
theorem pouchref4_Domain_L0_ok (n : Nat) : RunOk tys (callees Out (pouchref4_Literal_es n)) (pouchref4_Domain_hint n) n (codeAt [1, 1, 1, 1, 0, 1, 0, 0] (bodyOf Tryd.f15)) 0 := runOk_of (sp := pouchref4_Domain_L0_sp) (rp := pouchref4_Domain_L0_rp) (F := fun σ ρ K => (pouchref4_Domain_L0 n n σ.1 σ.2.1).bind (pouchref4_Domain_L0_K K)) (by kernel_rfl) fun K σ ρ => pouchref4_Domain_L0_E n K n σ.1 σ.2.1
theorem pouchref4_Domain_runs (n : Nat) : RunsOk tys (callees Out (pouchref4_Literal_es n)) (pouchref4_Domain_hint n) n (bodyOf Tryd.f15) 0 := ⟨trivial, ⟨⟨trivial, ⟨⟨trivial, trivial⟩, trivial⟩⟩, ⟨⟨trivial, ⟨⟨trivial, trivial⟩, trivial⟩⟩, ⟨trivial, ⟨⟨trivial, ⟨pouchref4_Domain_L0_ok n, ⟨⟨trivial, ⟨trivial, trivial⟩⟩, ⟨⟨trivial, ⟨⟨trivial, ⟨⟨trivial, trivial⟩, trivial⟩⟩, ⟨trivial, ⟨pouchref4_Domain_L1_ok n, ⟨⟨trivial, ⟨trivial, trivial⟩⟩, ⟨⟨trivial, ⟨⟨trivial, trivial⟩, trivial⟩⟩, trivial⟩⟩⟩⟩⟩⟩, trivial⟩⟩⟩⟩, ⟨trivial, trivial⟩⟩⟩⟩⟩⟩
theorem pouchref4_Domain_at : Tryd.prog.funcs[15]? = some Tryd.f15 := by kernel_rfl
theorem pouchref4_Domain_ent (n : Nat) : Enters Tryd.prog 15 := enters_of (c := bodyOf Tryd.f15) pouchref4_Domain_at (by kernel_rfl) (by kernel_rfl)
theorem pouchref4_Domain_E (n : Nat) (s : ByteArray) : fnA tys (callees Out (pouchref4_Literal_es n)) (pouchref4_Domain_hint n) n Tryd.f15 (encL (.pair .str .unit) (s, ())) [] (soloA fun v => some (.ret v)) (soloA fun v => some (.pan v)) = pouchref4_Domain_B n s (fun y => some (.ret (encR (.one .bool) y))) := by kernel_rfl
theorem pouchref4_Domain_ok (n : Nat) : EntryOk Tryd.prog gl ⟨15, pcT (.pair .str .unit) (.one .bool) (fun xs => pouchref4_Domain n xs.1), none, none⟩ :=
  pcT_ok (pouchref4_Domain_ent n) fun xs y h => ans_of_fn tys_ok (pouchref4_Literal_es_ok n) mixed (hint := pouchref4_Domain_hint n) (n := n) (fn := Tryd.f15) pouchref4_Domain_at (fun c hc => by
    have : bodyOf Tryd.f15 = c := by unfold bodyOf; rw [hc]; rfl
    exact this ▸ pouchref4_Domain_runs n) (run_ret (φ := (fun y => some (Out.ret (encR (.one .bool) y)))) ((pouchref4_Domain_E n xs.1).trans (pouchref4_Domain_N (R := Bool) (S := Out) n xs.1 some (fun y => some (Out.ret (encR (.one .bool) y))))) h)
def pouchref4_Domain_es (n : Nat) : List Entry := ⟨15, pcT (.pair .str .unit) (.one .bool) (fun xs => pouchref4_Domain n xs.1), none, none⟩ :: pouchref4_Literal_es n
theorem pouchref4_Domain_es_ok (n : Nat) : AllOk Tryd.prog gl (pouchref4_Domain_es n) := .cons (pouchref4_Domain_ok n) (pouchref4_Literal_es_ok n)

/- pouch/pouchref4.May -/
def pouchref4_May_B (n : Nat) {R : Type} (m0 : (ByteArray × (ByteArray × Unit))) (k : Bool → Option R) : Option R :=
  (pouchref4_Local n m0.1).bind fun v =>
  if v = true then
    (pouchref4_Domain n m0.2.1).bind fun v1 =>
    k v1
  else
    k false
def pouchref4_May (n : Nat) (m0 : (ByteArray × (ByteArray × Unit))) : Option Bool := pouchref4_May_B n m0 some
theorem pouchref4_May_N (n : Nat) {R S : Type} (m0 : (ByteArray × (ByteArray × Unit))) (k : Bool → Option R) (φ : R → Option S) : pouchref4_May_B n m0 (fun a => (k a).bind φ) = (pouchref4_May_B n m0 k).bind φ := by
  unfold pouchref4_May_B
  first | (simp only [ite_bind, bind_bind, onL_bind, onX_bind, none_bind]) | rfl
def pouchref4_May_hint (n : Nat) : Hint Out := { live := fun c => [], run := fun c => none, xm := fun c q => none }
theorem pouchref4_May_runs (n : Nat) : RunsOk tys (callees Out (pouchref4_Domain_es n)) (pouchref4_May_hint n) n (bodyOf Tryd.f22) 0 := ⟨trivial, ⟨trivial, trivial⟩⟩
theorem pouchref4_May_at : Tryd.prog.funcs[22]? = some Tryd.f22 := by kernel_rfl
theorem pouchref4_May_ent (n : Nat) : Enters Tryd.prog 22 := enters_of (c := bodyOf Tryd.f22) pouchref4_May_at (by kernel_rfl) (by kernel_rfl)
theorem pouchref4_May_E (n : Nat) (m0 : (ByteArray × (ByteArray × Unit))) : fnA tys (callees Out (pouchref4_Domain_es n)) (pouchref4_May_hint n) n Tryd.f22 (encL (.pair (.pair .str (.pair .str .unit)) .unit) (m0, ())) [] (soloA fun v => some (.ret v)) (soloA fun v => some (.pan v)) = pouchref4_May_B n m0 (fun y => some (.ret (encR (.one .bool) y))) := by kernel_rfl
theorem pouchref4_May_ok (n : Nat) : EntryOk Tryd.prog gl ⟨22, pcT (.pair (.pair .str (.pair .str .unit)) .unit) (.one .bool) (fun xs => pouchref4_May n xs.1), none, none⟩ :=
  pcT_ok (pouchref4_May_ent n) fun xs y h => ans_of_fn tys_ok (pouchref4_Domain_es_ok n) mixed (hint := pouchref4_May_hint n) (n := n) (fn := Tryd.f22) pouchref4_May_at (fun c hc => by
    have : bodyOf Tryd.f22 = c := by unfold bodyOf; rw [hc]; rfl
    exact this ▸ pouchref4_May_runs n) (run_ret (φ := (fun y => some (Out.ret (encR (.one .bool) y)))) ((pouchref4_May_E n xs.1).trans (pouchref4_May_N (R := Bool) (S := Out) n xs.1 some (fun y => some (Out.ret (encR (.one .bool) y))))) h)
def pouchref4_May_es (n : Nat) : List Entry := ⟨22, pcT (.pair (.pair .str (.pair .str .unit)) .unit) (.one .bool) (fun xs => pouchref4_May n xs.1), none, none⟩ :: pouchref4_Domain_es n
theorem pouchref4_May_es_ok (n : Nat) : AllOk Tryd.prog gl (pouchref4_May_es n) := .cons (pouchref4_May_ok n) (pouchref4_Domain_es_ok n)

/- pouch/pouchref4.Parse -/
def pouchref4_Parse_B0 (n : Nat) {R : Type} (s1 : ByteArray) (n0 : Int) (t2 : ByteArray) (t21 : ByteArray) (m0 : ByteArray) (m01 : ByteArray) (kn : ByteArray → Int → ByteArray → ByteArray → ByteArray → ByteArray → Option R) (ko : (ByteArray × Int × ByteArray × ByteArray × ByteArray × ByteArray) → Option R) (kr : Unit → Option R) (kp : Int → Option R) : Option R :=
  if (decide (n0 < (s1.size : Int))) = true then
    if 0 ≤ n0 ∧ n0 < (s1.size : Int) then
      if ((bt s1 n0) != (64 : Int)) = true then
        kn s1 (IntKind.wrap .i64 (n0 + (1 : Int))) t2 t21 m0 m01
      else
        ko (s1, n0, t2, t21, m0, m01)
    else
      none
  else
    ko (s1, n0, t2, t21, m0, m01)
theorem pouchref4_Parse_B0_N (n : Nat) {R S : Type} (s1 : ByteArray) (n0 : Int) (t2 : ByteArray) (t21 : ByteArray) (m0 : ByteArray) (m01 : ByteArray) (kn : ByteArray → Int → ByteArray → ByteArray → ByteArray → ByteArray → Option R) (ko : (ByteArray × Int × ByteArray × ByteArray × ByteArray × ByteArray) → Option R) (kr : Unit → Option R) (kp : Int → Option R) (φ : R → Option S) : pouchref4_Parse_B0 n s1 n0 t2 t21 m0 m01 (fun s1 n0 t2 t21 m0 m01 => (kn s1 n0 t2 t21 m0 m01).bind φ) (fun a => (ko a).bind φ) (fun a => (kr a).bind φ) (fun a => (kp a).bind φ) = (pouchref4_Parse_B0 n s1 n0 t2 t21 m0 m01 kn ko kr kp).bind φ := by
  unfold pouchref4_Parse_B0
  first | (simp only [ite_bind, bind_bind, onL_bind, onX_bind, none_bind]) | rfl
def pouchref4_Parse_L0 (n : Nat) : Nat → ByteArray → Int → ByteArray → ByteArray → ByteArray → ByteArray → Option (Lx (ByteArray × Int × ByteArray × ByteArray × ByteArray × ByteArray) Unit)
  | 0, _, _, _, _, _, _ => none
  | m + 1, s1, n0, t2, t21, m0, m01 => pouchref4_Parse_B0 n s1 n0 t2 t21 m0 m01 (fun s1 n0 t2 t21 m0 m01 => pouchref4_Parse_L0 n m s1 n0 t2 t21 m0 m01) (fun a => some (.out a)) (fun a => some (.ret a)) (fun p => some (.pan p))
def pouchref4_Parse_L0_sp : List Sl := [.dat .str, .top, .ptr 0 0 0, .top, .ptr 1 0 0, .top, .top, .top, .top, .dat (.int .i64), .top, .top, .top, .top, .top, .top, .top, .top, .top, .top, .top, .top, .top, .top, .top, .top, .top, .top, .top, .top, .top, .top, .top, .top, .top, .top, .top, .top, .top, .top, .top, .top, .top, .top, .top, .top, .top, .top, .top, .top, .top, .top, .top, .top, .top, .top, .top, .top, .top, .top, .top, .top, .top, .top, .top, .top, .top, .top, .top, .top, .top, .top, .top, .top]
def pouchref4_Parse_L0_rp : List RS := [.box 25 2 true [.dat .str, .dat .str], .box 25 2 true [.dat .str, .dat .str]]
def pouchref4_Parse_L0_out_sp : List Sl := [.dat .str, .top, .ptr 0 0 0, .top, .ptr 1 0 0, .top, .top, .top, .top, .dat (.int .i64), .top, .top, .top, .top, .top, .top, .top, .top, .top, .top, .top, .top, .top, .top, .top, .top, .top, .top, .top, .top, .top, .top, .top, .top, .top, .top, .top, .top, .top, .top, .top, .top, .top, .top, .top, .top, .top, .top, .top, .top, .top, .top, .top, .top, .top, .top, .top, .top, .top, .top, .top, .top, .top, .top, .top, .top, .top, .top, .top, .top, .top, .top, .top, .top]
def pouchref4_Parse_L0_out_rp : List RS := [.box 25 2 true [.dat .str, .dat .str], .box 25 2 true [.dat .str, .dat .str]]
def pouchref4_Parse_L0_K (K : XE → List AV → AHeap → Option Out) : Lx (ByteArray × Int × ByteArray × ByteArray × ByteArray × ByteArray) Unit → Option Out := fun x => onL x (fun a => K (.exit 0) (encF (nsOf pouchref4_Parse_L0_out_rp ((a.2.2.1, (a.2.2.2.1, ())), ((a.2.2.2.2.1, (a.2.2.2.2.2, ())), ()))) pouchref4_Parse_L0_out_sp (a.1, (a.2.1, ()))) (encH (nsOf pouchref4_Parse_L0_out_rp ((a.2.2.1, (a.2.2.2.1, ())), ((a.2.2.2.2.1, (a.2.2.2.2.2, ())), ()))) pouchref4_Parse_L0_out_rp ((a.2.2.1, (a.2.2.2.1, ())), ((a.2.2.2.2.1, (a.2.2.2.2.2, ())), ())))) (fun _ => none) (fun _ => none)
def pouchref4_Parse_B (n : Nat) {R : Type} (s : ByteArray) (k : ((ByteArray × (ByteArray × Unit)) × Bool × Unit) → Option R) : Option R :=
  if (decide ((s.size : Int) > (0 : Int))) = true then
    if 0 ≤ (0 : Int) ∧ (0 : Int) < (s.size : Int) then
      if ((bt s (0 : Int)) == (34 : Int)) = true then
        (pouchref4_inner n s).bind fun v =>
        if (!v.2.2.1) = true then
          k (((⟨#[]⟩ : ByteArray), ((⟨#[]⟩ : ByteArray), ())), (false, ()))
        else
          if 0 ≤ v.2.1 ∧ v.2.1 ≤ (s.size : Int) then
            (pouchref4_quote n v.1).bind fun v1 =>
            (pouchref4_plain n v.1).bind fun v2 =>
            if v2 = true then
              if ((s.extract (Int.toNat v.2.1) (Int.toNat (s.size : Int))).toList == (⟨#[]⟩ : ByteArray).toList) = false then
                if 0 ≤ (0 : Int) ∧ (0 : Int) < ((s.extract (Int.toNat v.2.1) (Int.toNat (s.size : Int))).size : Int) then
                  if ((bt (s.extract (Int.toNat v.2.1) (Int.toNat (s.size : Int))) (0 : Int)) != (64 : Int)) = true then
                    k (((⟨#[]⟩ : ByteArray), ((⟨#[]⟩ : ByteArray), ())), (false, ()))
                  else
                    if 0 ≤ (1 : Int) ∧ (1 : Int) ≤ ((s.extract (Int.toNat v.2.1) (Int.toNat (s.size : Int))).size : Int) then
                      (pouchref0_Lower n ((s.extract (Int.toNat v.2.1) (Int.toNat (s.size : Int))).extract (Int.toNat (1 : Int)) (Int.toNat (((s.extract (Int.toNat v.2.1) (Int.toNat (s.size : Int))).size) : Int)))).bind fun v3 =>
                      (pouchref4_May n (v.1, (v3, ()))).bind fun v4 =>
                      if (!v4) = true then
                        k (((⟨#[]⟩ : ByteArray), ((⟨#[]⟩ : ByteArray), ())), (false, ()))
                      else
                        k ((v.1, (v3, ())), (true, ()))
                    else
                      none
                else
                  none
              else
                k (((⟨#[]⟩ : ByteArray), ((⟨#[]⟩ : ByteArray), ())), (false, ()))
            else
              if ((s.extract (Int.toNat v.2.1) (Int.toNat (s.size : Int))).toList == (⟨#[]⟩ : ByteArray).toList) = false then
                if 0 ≤ (0 : Int) ∧ (0 : Int) < ((s.extract (Int.toNat v.2.1) (Int.toNat (s.size : Int))).size : Int) then
                  if ((bt (s.extract (Int.toNat v.2.1) (Int.toNat (s.size : Int))) (0 : Int)) != (64 : Int)) = true then
                    k (((⟨#[]⟩ : ByteArray), ((⟨#[]⟩ : ByteArray), ())), (false, ()))
                  else
                    if 0 ≤ (1 : Int) ∧ (1 : Int) ≤ ((s.extract (Int.toNat v.2.1) (Int.toNat (s.size : Int))).size : Int) then
                      (pouchref0_Lower n ((s.extract (Int.toNat v.2.1) (Int.toNat (s.size : Int))).extract (Int.toNat (1 : Int)) (Int.toNat (((s.extract (Int.toNat v.2.1) (Int.toNat (s.size : Int))).size) : Int)))).bind fun v5 =>
                      (pouchref4_May n (v1, (v5, ()))).bind fun v6 =>
                      if (!v6) = true then
                        k (((⟨#[]⟩ : ByteArray), ((⟨#[]⟩ : ByteArray), ())), (false, ()))
                      else
                        k ((v1, (v5, ())), (true, ()))
                    else
                      none
                else
                  none
              else
                k (((⟨#[]⟩ : ByteArray), ((⟨#[]⟩ : ByteArray), ())), (false, ()))
          else
            none
      else
        (pouchref4_Parse_L0 n n s (0 : Int) (⟨#[]⟩ : ByteArray) (⟨#[]⟩ : ByteArray) (⟨#[]⟩ : ByteArray) (⟨#[]⟩ : ByteArray)).bind fun x_1 => onL x_1
          (fun a_2 =>
            if 0 ≤ a_2.2.1 ∧ a_2.2.1 ≤ (a_2.1.size : Int) then
              if 0 ≤ a_2.2.1 ∧ a_2.2.1 ≤ (a_2.1.size : Int) then
                if ((a_2.1.extract (Int.toNat a_2.2.1) (Int.toNat (a_2.1.size : Int))).toList == (⟨#[]⟩ : ByteArray).toList) = false then
                  if 0 ≤ (0 : Int) ∧ (0 : Int) < ((a_2.1.extract (Int.toNat a_2.2.1) (Int.toNat (a_2.1.size : Int))).size : Int) then
                    if ((bt (a_2.1.extract (Int.toNat a_2.2.1) (Int.toNat (a_2.1.size : Int))) (0 : Int)) != (64 : Int)) = true then
                      k (((⟨#[]⟩ : ByteArray), ((⟨#[]⟩ : ByteArray), ())), (false, ()))
                    else
                      if 0 ≤ (1 : Int) ∧ (1 : Int) ≤ ((a_2.1.extract (Int.toNat a_2.2.1) (Int.toNat (a_2.1.size : Int))).size : Int) then
                        (pouchref0_Lower n ((a_2.1.extract (Int.toNat a_2.2.1) (Int.toNat (a_2.1.size : Int))).extract (Int.toNat (1 : Int)) (Int.toNat (((a_2.1.extract (Int.toNat a_2.2.1) (Int.toNat (a_2.1.size : Int))).size) : Int)))).bind fun v7 =>
                        (pouchref4_May n ((a_2.1.extract (Int.toNat (0 : Int)) (Int.toNat a_2.2.1)), (v7, ()))).bind fun v8 =>
                        if (!v8) = true then
                          k (((⟨#[]⟩ : ByteArray), ((⟨#[]⟩ : ByteArray), ())), (false, ()))
                        else
                          k (((a_2.1.extract (Int.toNat (0 : Int)) (Int.toNat a_2.2.1)), (v7, ())), (true, ()))
                      else
                        none
                  else
                    none
                else
                  k (((⟨#[]⟩ : ByteArray), ((⟨#[]⟩ : ByteArray), ())), (false, ()))
              else
                none
            else
              none)
          (fun _ => none)
          (fun _ => none)
    else
      none
  else
    (pouchref4_Parse_L0 n n s (0 : Int) (⟨#[]⟩ : ByteArray) (⟨#[]⟩ : ByteArray) (⟨#[]⟩ : ByteArray) (⟨#[]⟩ : ByteArray)).bind fun x_3 => onL x_3
      (fun a_4 =>
        if 0 ≤ a_4.2.1 ∧ a_4.2.1 ≤ (a_4.1.size : Int) then
          if 0 ≤ a_4.2.1 ∧ a_4.2.1 ≤ (a_4.1.size : Int) then
            if ((a_4.1.extract (Int.toNat a_4.2.1) (Int.toNat (a_4.1.size : Int))).toList == (⟨#[]⟩ : ByteArray).toList) = false then
              if 0 ≤ (0 : Int) ∧ (0 : Int) < ((a_4.1.extract (Int.toNat a_4.2.1) (Int.toNat (a_4.1.size : Int))).size : Int) then
                if ((bt (a_4.1.extract (Int.toNat a_4.2.1) (Int.toNat (a_4.1.size : Int))) (0 : Int)) != (64 : Int)) = true then
                  k (((⟨#[]⟩ : ByteArray), ((⟨#[]⟩ : ByteArray), ())), (false, ()))
                else
                  if 0 ≤ (1 : Int) ∧ (1 : Int) ≤ ((a_4.1.extract (Int.toNat a_4.2.1) (Int.toNat (a_4.1.size : Int))).size : Int) then
                    (pouchref0_Lower n ((a_4.1.extract (Int.toNat a_4.2.1) (Int.toNat (a_4.1.size : Int))).extract (Int.toNat (1 : Int)) (Int.toNat (((a_4.1.extract (Int.toNat a_4.2.1) (Int.toNat (a_4.1.size : Int))).size) : Int)))).bind fun v9 =>
                    (pouchref4_May n ((a_4.1.extract (Int.toNat (0 : Int)) (Int.toNat a_4.2.1)), (v9, ()))).bind fun v10 =>
                    if (!v10) = true then
                      k (((⟨#[]⟩ : ByteArray), ((⟨#[]⟩ : ByteArray), ())), (false, ()))
                    else
                      k (((a_4.1.extract (Int.toNat (0 : Int)) (Int.toNat a_4.2.1)), (v9, ())), (true, ()))
                  else
                    none
              else
                none
            else
              k (((⟨#[]⟩ : ByteArray), ((⟨#[]⟩ : ByteArray), ())), (false, ()))
          else
            none
        else
          none)
      (fun _ => none)
      (fun _ => none)
def pouchref4_Parse (n : Nat) (s : ByteArray) : Option ((ByteArray × (ByteArray × Unit)) × Bool × Unit) := pouchref4_Parse_B n s some
theorem pouchref4_Parse_N (n : Nat) {R S : Type} (s : ByteArray) (k : ((ByteArray × (ByteArray × Unit)) × Bool × Unit) → Option R) (φ : R → Option S) : pouchref4_Parse_B n s (fun a => (k a).bind φ) = (pouchref4_Parse_B n s k).bind φ := by
  unfold pouchref4_Parse_B
  first | (simp only [ite_bind, bind_bind, onL_bind, onX_bind, none_bind]) | rfl
def pouchref4_Parse_hint (n : Nat) : Hint Out := { live := fun c => (cond (Nat.beq c 0) [(0, none), (2, none), (4, none), (9, none)] []), run := fun c => (cond (Nat.beq c 0) (some (runL pouchref4_Parse_L0_sp pouchref4_Parse_L0_rp fun σ ρ K => (pouchref4_Parse_L0 n n σ.1 σ.2.1 ρ.1.1 ρ.1.2.1 ρ.2.1.1 ρ.2.1.2.1).bind (pouchref4_Parse_L0_K K))) none), xm := fun c q => (cond (Nat.beq c 0 && Nat.beq (q.getD 1000000) 0 && q.isSome) (some [(0, none), (2, none), (4, none), (9, none)]) none), sch := fun c => (cond (Nat.beq c 13) (some [(0, 0), (1, 0), (2, 0), (3, 0), (4, 0), (5, 0), (6, 0), (7, 2), (8, 0)]) (cond (Nat.beq c 7) (some [(0, 0), (2, 0), (3, 0), (4, 0), (1, 2), (5, 0), (6, 2), (7, 0)]) none)) }
theorem pouchref4_Parse_L0_E (n : Nat) (K : XE → List AV → AHeap → Option Out) : ∀ (m : Nat) (s1 : ByteArray) (n0 : Int) (t2 : ByteArray) (t21 : ByteArray) (m0 : ByteArray) (m01 : ByteArray), loopI tys (callees Out (pouchref4_May_es n)) (pouchref4_Parse_hint n) n (codeAt [1, 1, 1, 0, 1, 1, 1, 0, 0, 0] (bodyOf Tryd.f11)) 0 pouchref4_Parse_L0_sp pouchref4_Parse_L0_rp K m (s1, (n0, ())) ((t2, (t21, ())), ((m0, (m01, ())), ())) = (pouchref4_Parse_L0 n m s1 n0 t2 t21 m0 m01).bind (pouchref4_Parse_L0_K K)
  | 0, s1, n0, t2, t21, m0, m01 => by kernel_rfl
  | m + 1, s1, n0, t2, t21, m0, m01 => by
    have h1 : loopI tys (callees Out (pouchref4_May_es n)) (pouchref4_Parse_hint n) n (codeAt [1, 1, 1, 0, 1, 1, 1, 0, 0, 0] (bodyOf Tryd.f11)) 0 pouchref4_Parse_L0_sp pouchref4_Parse_L0_rp K (m + 1) (s1, (n0, ())) ((t2, (t21, ())), ((m0, (m01, ())), ())) = pouchref4_Parse_B0 n s1 n0 t2 t21 m0 m01 (fun (s1 : ByteArray) (n0 : Int) (t2 : ByteArray) (t21 : ByteArray) (m0 : ByteArray) (m01 : ByteArray) => loopI tys (callees Out (pouchref4_May_es n)) (pouchref4_Parse_hint n) n (codeAt [1, 1, 1, 0, 1, 1, 1, 0, 0, 0] (bodyOf Tryd.f11)) 0 pouchref4_Parse_L0_sp pouchref4_Parse_L0_rp K m (s1, (n0, ())) ((t2, (t21, ())), ((m0, (m01, ())), ()))) (fun a => pouchref4_Parse_L0_K K (.out a)) (fun a => pouchref4_Parse_L0_K K (.ret a)) (fun p => pouchref4_Parse_L0_K K (.pan p)) := by kernel_rfl
    have h2 : (fun (s1 : ByteArray) (n0 : Int) (t2 : ByteArray) (t21 : ByteArray) (m0 : ByteArray) (m01 : ByteArray) => loopI tys (callees Out (pouchref4_May_es n)) (pouchref4_Parse_hint n) n (codeAt [1, 1, 1, 0, 1, 1, 1, 0, 0, 0] (bodyOf Tryd.f11)) 0 pouchref4_Parse_L0_sp pouchref4_Parse_L0_rp K m (s1, (n0, ())) ((t2, (t21, ())), ((m0, (m01, ())), ()))) = (fun (s1 : ByteArray) (n0 : Int) (t2 : ByteArray) (t21 : ByteArray) (m0 : ByteArray) (m01 : ByteArray) => (pouchref4_Parse_L0 n m s1 n0 t2 t21 m0 m01).bind (pouchref4_Parse_L0_K K)) := funext fun s1 => funext fun n0 => funext fun t2 => funext fun t21 => funext fun m0 => funext fun m01 => pouchref4_Parse_L0_E n K m s1 n0 t2 t21 m0 m01
    exact h1.trans ((congrArg (fun z => pouchref4_Parse_B0 n s1 n0 t2 t21 m0 m01 z (fun a => pouchref4_Parse_L0_K K (.out a)) (fun a => pouchref4_Parse_L0_K K (.ret a)) (fun p => pouchref4_Parse_L0_K K (.pan p))) h2).trans (pouchref4_Parse_B0_N n s1 n0 t2 t21 m0 m01 (fun (s1 : ByteArray) (n0 : Int) (t2 : ByteArray) (t21 : ByteArray) (m0 : ByteArray) (m01 : ByteArray) => pouchref4_Parse_L0 n m s1 n0 t2 t21 m0 m01) (fun a => some (.out a)) (fun a => some (.ret a)) (fun p => some (.pan p)) (pouchref4_Parse_L0_K K)))
theorem pouchref4_Parse_L0_ok (n : Nat) : RunOk tys (callees Out (pouchref4_May_es n)) (pouchref4_Parse_hint n) n (codeAt [1, 1, 1, 0, 1, 1, 1, 0, 0, 0] (bodyOf Tryd.f11)) 0 := runOk_of (sp := pouchref4_Parse_L0_sp) (rp := pouchref4_Parse_L0_rp) (F := fun σ ρ K => (pouchref4_Parse_L0 n n σ.1 σ.2.1 ρ.1.1 ρ.1.2.1 ρ.2.1.1 ρ.2.1.2.1).bind (pouchref4_Parse_L0_K K)) (by kernel_rfl) fun K σ ρ => pouchref4_Parse_L0_E n K n σ.1 σ.2.1 ρ.1.1 ρ.1.2.1 ρ.2.1.1 ρ.2.1.2.1
theorem pouchref4_Parse_runs (n : Nat) : RunsOk tys (callees Out (pouchref4_May_es n)) (pouchref4_Parse_hint n) n (bodyOf Tryd.f11) 0 := ⟨trivial, ⟨trivial, ⟨trivial, ⟨⟨trivial, ⟨⟨trivial, ⟨⟨trivial, ⟨⟨trivial, trivial⟩, trivial⟩⟩, ⟨trivial, ⟨trivial, ⟨trivial, trivial⟩⟩⟩⟩⟩, ⟨trivial, ⟨⟨pouchref4_Parse_L0_ok n, ⟨⟨trivial, ⟨trivial, trivial⟩⟩, trivial⟩⟩, trivial⟩⟩⟩⟩, ⟨⟨trivial, ⟨⟨trivial, trivial⟩, trivial⟩⟩, ⟨trivial, ⟨⟨trivial, ⟨⟨trivial, trivial⟩, trivial⟩⟩, ⟨trivial, trivial⟩⟩⟩⟩⟩⟩⟩⟩
theorem pouchref4_Parse_at : Tryd.prog.funcs[11]? = some Tryd.f11 := by kernel_rfl
theorem pouchref4_Parse_ent (n : Nat) : Enters Tryd.prog 11 := enters_of (c := bodyOf Tryd.f11) pouchref4_Parse_at (by kernel_rfl) (by kernel_rfl)
theorem pouchref4_Parse_E (n : Nat) (s : ByteArray) : fnA tys (callees Out (pouchref4_May_es n)) (pouchref4_Parse_hint n) n Tryd.f11 (encL (.pair .str .unit) (s, ())) [] (soloA fun v => some (.ret v)) (soloA fun v => some (.pan v)) = pouchref4_Parse_B n s (fun y => some (.ret (encR (.many (.pair (.pair .str (.pair .str .unit)) (.pair .bool .unit))) y))) := by kernel_rfl
theorem pouchref4_Parse_ok (n : Nat) : EntryOk Tryd.prog gl ⟨11, pcT (.pair .str .unit) (.many (.pair (.pair .str (.pair .str .unit)) (.pair .bool .unit))) (fun xs => pouchref4_Parse n xs.1), none, none⟩ :=
  pcT_ok (pouchref4_Parse_ent n) fun xs y h => ans_of_fn tys_ok (pouchref4_May_es_ok n) mixed (hint := pouchref4_Parse_hint n) (n := n) (fn := Tryd.f11) pouchref4_Parse_at (fun c hc => by
    have : bodyOf Tryd.f11 = c := by unfold bodyOf; rw [hc]; rfl
    exact this ▸ pouchref4_Parse_runs n) (run_ret (φ := (fun y => some (Out.ret (encR (.many (.pair (.pair .str (.pair .str .unit)) (.pair .bool .unit))) y)))) ((pouchref4_Parse_E n xs.1).trans (pouchref4_Parse_N (R := ((ByteArray × (ByteArray × Unit)) × Bool × Unit)) (S := Out) n xs.1 some (fun y => some (Out.ret (encR (.many (.pair (.pair .str (.pair .str .unit)) (.pair .bool .unit))) y))))) h)
def pouchref4_Parse_es (n : Nat) : List Entry := ⟨11, pcT (.pair .str .unit) (.many (.pair (.pair .str (.pair .str .unit)) (.pair .bool .unit))) (fun xs => pouchref4_Parse n xs.1), none, none⟩ :: pouchref4_May_es n
theorem pouchref4_Parse_es_ok (n : Nat) : AllOk Tryd.prog gl (pouchref4_Parse_es n) := .cons (pouchref4_Parse_ok n) (pouchref4_May_es_ok n)

/- pouch/pouchlaw4.num -/
def pouchlaw4_num_B (n : Nat) {R : Type} (e : Int) (k : Int → Option R) : Option R :=
  k e
def pouchlaw4_num (n : Nat) (e : Int) : Option Int := pouchlaw4_num_B n e some
theorem pouchlaw4_num_N (n : Nat) {R S : Type} (e : Int) (k : Int → Option R) (φ : R → Option S) : pouchlaw4_num_B n e (fun a => (k a).bind φ) = (pouchlaw4_num_B n e k).bind φ := by
  unfold pouchlaw4_num_B
  first | (simp only [ite_bind, bind_bind, onL_bind, onX_bind, none_bind]) | rfl
def pouchlaw4_num_hint (n : Nat) : Hint Out := { live := fun c => [], run := fun c => none, xm := fun c q => none }
theorem pouchlaw4_num_runs (n : Nat) : RunsOk tys (callees Out (pouchref4_Parse_es n)) (pouchlaw4_num_hint n) n (bodyOf Tryd.f13) 0 := ⟨trivial, ⟨trivial, trivial⟩⟩
theorem pouchlaw4_num_at : Tryd.prog.funcs[13]? = some Tryd.f13 := by kernel_rfl
theorem pouchlaw4_num_ent (n : Nat) : Enters Tryd.prog 13 := enters_of (c := bodyOf Tryd.f13) pouchlaw4_num_at (by kernel_rfl) (by kernel_rfl)
theorem pouchlaw4_num_E (n : Nat) (e : Int) : fnA tys (callees Out (pouchref4_Parse_es n)) (pouchlaw4_num_hint n) n Tryd.f13 (encL (.pair (.int .i64) .unit) (e, ())) [] (soloA fun v => some (.ret v)) (soloA fun v => some (.pan v)) = pouchlaw4_num_B n e (fun y => some (.ret (encR (.one (.int .i64)) y))) := by kernel_rfl
theorem pouchlaw4_num_ok (n : Nat) : EntryOk Tryd.prog gl ⟨13, pcT (.pair (.int .i64) .unit) (.one (.int .i64)) (fun xs => pouchlaw4_num n xs.1), none, none⟩ :=
  pcT_ok (pouchlaw4_num_ent n) fun xs y h => ans_of_fn tys_ok (pouchref4_Parse_es_ok n) mixed (hint := pouchlaw4_num_hint n) (n := n) (fn := Tryd.f13) pouchlaw4_num_at (fun c hc => by
    have : bodyOf Tryd.f13 = c := by unfold bodyOf; rw [hc]; rfl
    exact this ▸ pouchlaw4_num_runs n) (run_ret (φ := (fun y => some (Out.ret (encR (.one (.int .i64)) y)))) ((pouchlaw4_num_E n xs.1).trans (pouchlaw4_num_N (R := Int) (S := Out) n xs.1 some (fun y => some (Out.ret (encR (.one (.int .i64)) y))))) h)
def pouchlaw4_num_es (n : Nat) : List Entry := ⟨13, pcT (.pair (.int .i64) .unit) (.one (.int .i64)) (fun xs => pouchlaw4_num n xs.1), none, none⟩ :: pouchref4_Parse_es n
theorem pouchlaw4_num_es_ok (n : Nat) : AllOk Tryd.prog gl (pouchlaw4_num_es n) := .cons (pouchlaw4_num_ok n) (pouchref4_Parse_es_ok n)

/- pouch/pouchlaw4.wakes -/
def pouchlaw4_wakes_B (n : Nat) {R : Type} (k : Bool → Option R) : Option R :=
  (addr_Parse n (⟨#[65, 46, 98, 64, 69, 88, 46, 111, 114, 103]⟩ : ByteArray)).bind fun v =>
  (pouchlaw4_num n v.2.1).bind fun v1 =>
  if (v1 == (0 : Int)) = true then
    k ((v.1.1.toList == (⟨#[65, 46, 98]⟩ : ByteArray).toList) && ((v.1.2.1.toList == (⟨#[101, 120, 46, 111, 114, 103]⟩ : ByteArray).toList) && true))
  else
    k false
def pouchlaw4_wakes (n : Nat) : Option Bool := pouchlaw4_wakes_B n some
theorem pouchlaw4_wakes_N (n : Nat) {R S : Type} (k : Bool → Option R) (φ : R → Option S) : pouchlaw4_wakes_B n (fun a => (k a).bind φ) = (pouchlaw4_wakes_B n k).bind φ := by
  unfold pouchlaw4_wakes_B
  first | (simp only [ite_bind, bind_bind, onL_bind, onX_bind, none_bind]) | rfl
def pouchlaw4_wakes_hint (n : Nat) : Hint Out := { live := fun c => [], run := fun c => none, xm := fun c q => none }
theorem pouchlaw4_wakes_runs (n : Nat) : RunsOk tys (callees Out (pouchlaw4_num_es n)) (pouchlaw4_wakes_hint n) n (bodyOf Tryd.f14) 0 := ⟨trivial, ⟨trivial, ⟨trivial, trivial⟩⟩⟩
theorem pouchlaw4_wakes_at : Tryd.prog.funcs[14]? = some Tryd.f14 := by kernel_rfl
theorem pouchlaw4_wakes_ent (n : Nat) : Enters Tryd.prog 14 := enters_of (c := bodyOf Tryd.f14) pouchlaw4_wakes_at (by kernel_rfl) (by kernel_rfl)
theorem pouchlaw4_wakes_E (n : Nat) : fnA tys (callees Out (pouchlaw4_num_es n)) (pouchlaw4_wakes_hint n) n Tryd.f14 (encL .unit ()) [] (soloA fun v => some (.ret v)) (soloA fun v => some (.pan v)) = pouchlaw4_wakes_B n (fun y => some (.ret (encR (.one .bool) y))) := by kernel_rfl
theorem pouchlaw4_wakes_ok (n : Nat) : EntryOk Tryd.prog gl ⟨14, pcT .unit (.one .bool) (fun xs => pouchlaw4_wakes n ), none, none⟩ :=
  pcT_ok (pouchlaw4_wakes_ent n) fun xs y h => ans_of_fn tys_ok (pouchlaw4_num_es_ok n) mixed (hint := pouchlaw4_wakes_hint n) (n := n) (fn := Tryd.f14) pouchlaw4_wakes_at (fun c hc => by
    have : bodyOf Tryd.f14 = c := by unfold bodyOf; rw [hc]; rfl
    exact this ▸ pouchlaw4_wakes_runs n) (run_ret (φ := (fun y => some (Out.ret (encR (.one .bool) y)))) ((pouchlaw4_wakes_E n ).trans (pouchlaw4_wakes_N (R := Bool) (S := Out) n  some (fun y => some (Out.ret (encR (.one .bool) y))))) h)
def pouchlaw4_wakes_es (n : Nat) : List Entry := ⟨14, pcT .unit (.one .bool) (fun xs => pouchlaw4_wakes n ), none, none⟩ :: pouchlaw4_num_es n
theorem pouchlaw4_wakes_es_ok (n : Nat) : AllOk Tryd.prog gl (pouchlaw4_wakes_es n) := .cons (pouchlaw4_wakes_ok n) (pouchlaw4_num_es_ok n)

/- pouch/pouchlaw4.AddrParses -/
def pouchlaw4_AddrParses_B0 (n : Nat) {R : Type} (l1 : (Sq ((ByteArray × (ByteArray × Unit)) × (ByteArray × Unit)))) (i : Int) (kn : (Sq ((ByteArray × (ByteArray × Unit)) × (ByteArray × Unit))) → Int → Option R) (ko : (Unit) → Option R) (kr : (Bool) → Option R) (kp : Int → Option R) : Option R :=
  if (decide (i < (l1.n : Int))) = true then
    if (decide (i < (20 : Int))) = true then
      if 0 ≤ i ∧ i < (l1.n : Int) then
        (pouchlaw4_heavy n (((((l1.at' (Int.toNat i))).1).1, (((((l1.at' (Int.toNat i))).1).2).1, ())), ((((l1.at' (Int.toNat i))).2).1, ()))).bind fun v =>
        if v = true then
          kr true
        else
          if 0 ≤ i ∧ i < (l1.n : Int) then
            (pouchref4_Parse n ((((l1.at' (Int.toNat i))).2).1)).bind fun v1 =>
            if v1.2.1 = true then
              if 0 ≤ i ∧ i < (l1.n : Int) then
                (addr_Parse n ((((l1.at' (Int.toNat i))).2).1)).bind fun v2 =>
                (pouchlaw4_num n v2.2.1).bind fun v3 =>
                if (v3 != (0 : Int)) = false then
                  if (!((v2.1.1.toList == v1.1.1.toList) && ((v2.1.2.1.toList == v1.1.2.1.toList) && true))) = true then
                    kr false
                  else
                    kn l1 (IntKind.wrap .i64 (i + (1 : Int)))
                else
                  kr false
              else
                none
            else
              if 0 ≤ i ∧ i < (l1.n : Int) then
                (addr_Parse n ((((l1.at' (Int.toNat i))).2).1)).bind fun v4 =>
                (pouchlaw4_num n v4.2.1).bind fun v5 =>
                if (v5 != (8 : Int)) = false then
                  if (!((v4.1.1.toList == v1.1.1.toList) && ((v4.1.2.1.toList == v1.1.2.1.toList) && true))) = true then
                    kr false
                  else
                    kn l1 (IntKind.wrap .i64 (i + (1 : Int)))
                else
                  kr false
              else
                none
          else
            none
      else
        none
    else
      ko ()
  else
    ko ()
theorem pouchlaw4_AddrParses_B0_N (n : Nat) {R S : Type} (l1 : (Sq ((ByteArray × (ByteArray × Unit)) × (ByteArray × Unit)))) (i : Int) (kn : (Sq ((ByteArray × (ByteArray × Unit)) × (ByteArray × Unit))) → Int → Option R) (ko : (Unit) → Option R) (kr : (Bool) → Option R) (kp : Int → Option R) (φ : R → Option S) : pouchlaw4_AddrParses_B0 n l1 i (fun l1 i => (kn l1 i).bind φ) (fun a => (ko a).bind φ) (fun a => (kr a).bind φ) (fun a => (kp a).bind φ) = (pouchlaw4_AddrParses_B0 n l1 i kn ko kr kp).bind φ := by
  unfold pouchlaw4_AddrParses_B0
  first | (simp only [ite_bind, bind_bind, onL_bind, onX_bind, none_bind]) | rfl
def pouchlaw4_AddrParses_L0 (n : Nat) : Nat → (Sq ((ByteArray × (ByteArray × Unit)) × (ByteArray × Unit))) → Int → Option (Lx (Unit) (Bool))
  | 0, _, _ => none
  | m + 1, l1, i => pouchlaw4_AddrParses_B0 n l1 i (fun l1 i => pouchlaw4_AddrParses_L0 n m l1 i) (fun a => some (.out a)) (fun a => some (.ret a)) (fun p => some (.pan p))
def pouchlaw4_AddrParses_L0_sp : List Sl := [.dat (.sl (.pair (.pair .str (.pair .str .unit)) (.pair .str .unit))), .top, .top, .dat (.int .i64), .top, .top, .top, .top, .top, .top, .top, .top, .top, .top, .top, .top, .top, .top, .top, .top, .top, .top, .top, .top, .top, .top, .top, .top, .top, .top, .top, .top, .top, .top, .top, .top, .top, .top, .top, .top, .top, .top, .top, .top, .top, .top, .top, .top, .top, .top, .top, .top, .top]
def pouchlaw4_AddrParses_L0_rp : List RS := []
def pouchlaw4_AddrParses_L0_out_sp : List Sl := [.top, .top, .top, .top, .top, .top, .top, .top, .top, .top, .top, .top, .top, .top, .top, .top, .top, .top, .top, .top, .top, .top, .top, .top, .top, .top, .top, .top, .top, .top, .top, .top, .top, .top, .top, .top, .top, .top, .top, .top, .top, .top, .top, .top, .top, .top, .top, .top, .top, .top, .top, .top, .top]
def pouchlaw4_AddrParses_L0_out_rp : List RS := []
def pouchlaw4_AddrParses_L0_ret_sp : List Sl := [.top, .top, .dat .bool, .top, .top, .top, .top, .top, .top, .top, .top, .top, .top, .top, .top, .top, .top, .top, .top, .top, .top, .top, .top, .top, .top, .top, .top, .top, .top, .top, .top, .top, .top, .top, .top, .top, .top, .top, .top, .top, .top, .top, .top, .top, .top, .top, .top, .top, .top, .top, .top, .top, .top]
def pouchlaw4_AddrParses_L0_ret_rp : List RS := []
def pouchlaw4_AddrParses_L0_K (K : XE → List AV → AHeap → Option Out) : Lx (Unit) (Bool) → Option Out := fun x => onL x (fun a => K (.exit 0) (encF (nsOf pouchlaw4_AddrParses_L0_out_rp ()) pouchlaw4_AddrParses_L0_out_sp ()) (encH (nsOf pouchlaw4_AddrParses_L0_out_rp ()) pouchlaw4_AddrParses_L0_out_rp ())) (fun a => K .ret (encF (nsOf pouchlaw4_AddrParses_L0_ret_rp ()) pouchlaw4_AddrParses_L0_ret_sp (a, ())) (encH (nsOf pouchlaw4_AddrParses_L0_ret_rp ()) pouchlaw4_AddrParses_L0_ret_rp ())) (fun _ => none)
def pouchlaw4_AddrParses_B (n : Nat) {R : Type} (l : (Sq ((ByteArray × (ByteArray × Unit)) × (ByteArray × Unit)))) (k : Bool → Option R) : Option R :=
  (pouchlaw4_AddrParses_L0 n n l (0 : Int)).bind fun x_1 => onL x_1
    (fun a_2 =>
      (pouchlaw4_wakes n).bind fun v6 =>
      k v6)
    (fun a_3 =>
      k a_3)
    (fun _ => none)
def pouchlaw4_AddrParses (n : Nat) (l : (Sq ((ByteArray × (ByteArray × Unit)) × (ByteArray × Unit)))) : Option Bool := pouchlaw4_AddrParses_B n l some
theorem pouchlaw4_AddrParses_N (n : Nat) {R S : Type} (l : (Sq ((ByteArray × (ByteArray × Unit)) × (ByteArray × Unit)))) (k : Bool → Option R) (φ : R → Option S) : pouchlaw4_AddrParses_B n l (fun a => (k a).bind φ) = (pouchlaw4_AddrParses_B n l k).bind φ := by
  unfold pouchlaw4_AddrParses_B
  first | (simp only [ite_bind, bind_bind, onL_bind, onX_bind, none_bind]) | rfl
def pouchlaw4_AddrParses_hint (n : Nat) : Hint Out := { live := fun c => (cond (Nat.beq c 0) [(0, some (.sl (.pair (.pair .str (.pair .str .unit)) (.pair .str .unit)))), (3, none)] []), run := fun c => (cond (Nat.beq c 0) (some (runL pouchlaw4_AddrParses_L0_sp pouchlaw4_AddrParses_L0_rp fun σ ρ K => (pouchlaw4_AddrParses_L0 n n σ.1 σ.2.1).bind (pouchlaw4_AddrParses_L0_K K))) none), xm := fun c q => (cond (Nat.beq c 0 && Nat.beq (q.getD 1000000) 0 && q.isSome) (some []) (cond (Nat.beq c 1 && q.isNone) (some [(2, none)]) none)) }
theorem pouchlaw4_AddrParses_L0_E (n : Nat) (K : XE → List AV → AHeap → Option Out) : ∀ (m : Nat) (l1 : (Sq ((ByteArray × (ByteArray × Unit)) × (ByteArray × Unit)))) (i : Int), loopI tys (callees Out (pouchlaw4_wakes_es n)) (pouchlaw4_AddrParses_hint n) n (codeAt [1, 0, 1, 0, 0] (bodyOf Tryd.f3)) 0 pouchlaw4_AddrParses_L0_sp pouchlaw4_AddrParses_L0_rp K m (l1, (i, ())) () = (pouchlaw4_AddrParses_L0 n m l1 i).bind (pouchlaw4_AddrParses_L0_K K)
  | 0, l1, i => by kernel_rfl
  | m + 1, l1, i => by
    have h1 : loopI tys (callees Out (pouchlaw4_wakes_es n)) (pouchlaw4_AddrParses_hint n) n (codeAt [1, 0, 1, 0, 0] (bodyOf Tryd.f3)) 0 pouchlaw4_AddrParses_L0_sp pouchlaw4_AddrParses_L0_rp K (m + 1) (l1, (i, ())) () = pouchlaw4_AddrParses_B0 n l1 i (fun (l1 : (Sq ((ByteArray × (ByteArray × Unit)) × (ByteArray × Unit)))) (i : Int) => loopI tys (callees Out (pouchlaw4_wakes_es n)) (pouchlaw4_AddrParses_hint n) n (codeAt [1, 0, 1, 0, 0] (bodyOf Tryd.f3)) 0 pouchlaw4_AddrParses_L0_sp pouchlaw4_AddrParses_L0_rp K m (l1, (i, ())) ()) (fun a => pouchlaw4_AddrParses_L0_K K (.out a)) (fun a => pouchlaw4_AddrParses_L0_K K (.ret a)) (fun p => pouchlaw4_AddrParses_L0_K K (.pan p)) := by kernel_rfl
    have h2 : (fun (l1 : (Sq ((ByteArray × (ByteArray × Unit)) × (ByteArray × Unit)))) (i : Int) => loopI tys (callees Out (pouchlaw4_wakes_es n)) (pouchlaw4_AddrParses_hint n) n (codeAt [1, 0, 1, 0, 0] (bodyOf Tryd.f3)) 0 pouchlaw4_AddrParses_L0_sp pouchlaw4_AddrParses_L0_rp K m (l1, (i, ())) ()) = (fun (l1 : (Sq ((ByteArray × (ByteArray × Unit)) × (ByteArray × Unit)))) (i : Int) => (pouchlaw4_AddrParses_L0 n m l1 i).bind (pouchlaw4_AddrParses_L0_K K)) := funext fun l1 => funext fun i => pouchlaw4_AddrParses_L0_E n K m l1 i
    exact h1.trans ((congrArg (fun z => pouchlaw4_AddrParses_B0 n l1 i z (fun a => pouchlaw4_AddrParses_L0_K K (.out a)) (fun a => pouchlaw4_AddrParses_L0_K K (.ret a)) (fun p => pouchlaw4_AddrParses_L0_K K (.pan p))) h2).trans (pouchlaw4_AddrParses_B0_N n l1 i (fun (l1 : (Sq ((ByteArray × (ByteArray × Unit)) × (ByteArray × Unit)))) (i : Int) => pouchlaw4_AddrParses_L0 n m l1 i) (fun a => some (.out a)) (fun a => some (.ret a)) (fun p => some (.pan p)) (pouchlaw4_AddrParses_L0_K K)))
theorem pouchlaw4_AddrParses_L0_ok (n : Nat) : RunOk tys (callees Out (pouchlaw4_wakes_es n)) (pouchlaw4_AddrParses_hint n) n (codeAt [1, 0, 1, 0, 0] (bodyOf Tryd.f3)) 0 := runOk_of (sp := pouchlaw4_AddrParses_L0_sp) (rp := pouchlaw4_AddrParses_L0_rp) (F := fun σ ρ K => (pouchlaw4_AddrParses_L0 n n σ.1 σ.2.1).bind (pouchlaw4_AddrParses_L0_K K)) (by kernel_rfl) fun K σ ρ => pouchlaw4_AddrParses_L0_E n K n σ.1 σ.2.1
theorem pouchlaw4_AddrParses_runs (n : Nat) : RunsOk tys (callees Out (pouchlaw4_wakes_es n)) (pouchlaw4_AddrParses_hint n) n (bodyOf Tryd.f3) 0 := ⟨trivial, ⟨⟨trivial, ⟨pouchlaw4_AddrParses_L0_ok n, ⟨⟨trivial, ⟨trivial, trivial⟩⟩, ⟨⟨⟨trivial, ⟨⟨trivial, trivial⟩, trivial⟩⟩, ⟨trivial, ⟨trivial, ⟨⟨trivial, ⟨trivial, trivial⟩⟩, ⟨trivial, ⟨trivial, ⟨⟨trivial, trivial⟩, trivial⟩⟩⟩⟩⟩⟩⟩, trivial⟩⟩⟩⟩, ⟨trivial, trivial⟩⟩⟩
theorem pouchlaw4_AddrParses_at : Tryd.prog.funcs[3]? = some Tryd.f3 := by kernel_rfl
theorem pouchlaw4_AddrParses_ent (n : Nat) : Enters Tryd.prog 3 := enters_of (c := bodyOf Tryd.f3) pouchlaw4_AddrParses_at (by kernel_rfl) (by kernel_rfl)
theorem pouchlaw4_AddrParses_E (n : Nat) (l : (Sq ((ByteArray × (ByteArray × Unit)) × (ByteArray × Unit)))) : fnA tys (callees Out (pouchlaw4_wakes_es n)) (pouchlaw4_AddrParses_hint n) n Tryd.f3 (encL (.pair (.sl (.pair (.pair .str (.pair .str .unit)) (.pair .str .unit))) .unit) (l, ())) [] (soloA fun v => some (.ret v)) (soloA fun v => some (.pan v)) = pouchlaw4_AddrParses_B n l (fun y => some (.ret (encR (.one .bool) y))) := by kernel_rfl
theorem pouchlaw4_AddrParses_ok (n : Nat) : EntryOk Tryd.prog gl ⟨3, pcT (.pair (.sl (.pair (.pair .str (.pair .str .unit)) (.pair .str .unit))) .unit) (.one .bool) (fun xs => pouchlaw4_AddrParses n xs.1), none, none⟩ :=
  pcT_ok (pouchlaw4_AddrParses_ent n) fun xs y h => ans_of_fn tys_ok (pouchlaw4_wakes_es_ok n) mixed (hint := pouchlaw4_AddrParses_hint n) (n := n) (fn := Tryd.f3) pouchlaw4_AddrParses_at (fun c hc => by
    have : bodyOf Tryd.f3 = c := by unfold bodyOf; rw [hc]; rfl
    exact this ▸ pouchlaw4_AddrParses_runs n) (run_ret (φ := (fun y => some (Out.ret (encR (.one .bool) y)))) ((pouchlaw4_AddrParses_E n xs.1).trans (pouchlaw4_AddrParses_N (R := Bool) (S := Out) n xs.1 some (fun y => some (Out.ret (encR (.one .bool) y))))) h)
def pouchlaw4_AddrParses_es (n : Nat) : List Entry := ⟨3, pcT (.pair (.sl (.pair (.pair .str (.pair .str .unit)) (.pair .str .unit))) .unit) (.one .bool) (fun xs => pouchlaw4_AddrParses n xs.1), none, none⟩ :: pouchlaw4_wakes_es n
theorem pouchlaw4_AddrParses_es_ok (n : Nat) : AllOk Tryd.prog gl (pouchlaw4_AddrParses_es n) := .cons (pouchlaw4_AddrParses_ok n) (pouchlaw4_wakes_es_ok n)

/- pouch/addr.Domain -/
def addr_Domain_B (n : Nat) {R : Type} (s : ByteArray) (k : (ByteArray × Int × Unit) → Option R) : Option R :=
  (addr_small n s).bind fun v =>
  (addr_IsDomain n v).bind fun v1 =>
  if (!v1) = true then
    k ((⟨#[]⟩ : ByteArray), ((8 : Int), ()))
  else
    k (v, ((0 : Int), ()))
def addr_Domain (n : Nat) (s : ByteArray) : Option (ByteArray × Int × Unit) := addr_Domain_B n s some
theorem addr_Domain_N (n : Nat) {R S : Type} (s : ByteArray) (k : (ByteArray × Int × Unit) → Option R) (φ : R → Option S) : addr_Domain_B n s (fun a => (k a).bind φ) = (addr_Domain_B n s k).bind φ := by
  unfold addr_Domain_B
  first | (simp only [ite_bind, bind_bind, onL_bind, onX_bind, none_bind]) | rfl
def addr_Domain_hint (n : Nat) : Hint Out := { live := fun c => [], run := fun c => none, xm := fun c q => none }
theorem addr_Domain_runs (n : Nat) : RunsOk tys (callees Out (pouchlaw4_AddrParses_es n)) (addr_Domain_hint n) n (bodyOf Tryd.f17) 0 := ⟨trivial, ⟨trivial, ⟨⟨trivial, ⟨⟨trivial, trivial⟩, trivial⟩⟩, ⟨trivial, trivial⟩⟩⟩⟩
theorem addr_Domain_at : Tryd.prog.funcs[17]? = some Tryd.f17 := by kernel_rfl
theorem addr_Domain_ent (n : Nat) : Enters Tryd.prog 17 := enters_of (c := bodyOf Tryd.f17) addr_Domain_at (by kernel_rfl) (by kernel_rfl)
theorem addr_Domain_E (n : Nat) (s : ByteArray) : fnA tys (callees Out (pouchlaw4_AddrParses_es n)) (addr_Domain_hint n) n Tryd.f17 (encL (.pair .str .unit) (s, ())) [] (soloA fun v => some (.ret v)) (soloA fun v => some (.pan v)) = addr_Domain_B n s (fun y => some (.ret (encR (.many (.pair .str (.pair (.int .i64) .unit))) y))) := by kernel_rfl
theorem addr_Domain_ok (n : Nat) : EntryOk Tryd.prog gl ⟨17, pcT (.pair .str .unit) (.many (.pair .str (.pair (.int .i64) .unit))) (fun xs => addr_Domain n xs.1), none, none⟩ :=
  pcT_ok (addr_Domain_ent n) fun xs y h => ans_of_fn tys_ok (pouchlaw4_AddrParses_es_ok n) mixed (hint := addr_Domain_hint n) (n := n) (fn := Tryd.f17) addr_Domain_at (fun c hc => by
    have : bodyOf Tryd.f17 = c := by unfold bodyOf; rw [hc]; rfl
    exact this ▸ addr_Domain_runs n) (run_ret (φ := (fun y => some (Out.ret (encR (.many (.pair .str (.pair (.int .i64) .unit))) y)))) ((addr_Domain_E n xs.1).trans (addr_Domain_N (R := (ByteArray × Int × Unit)) (S := Out) n xs.1 some (fun y => some (Out.ret (encR (.many (.pair .str (.pair (.int .i64) .unit))) y))))) h)
def addr_Domain_es (n : Nat) : List Entry := ⟨17, pcT (.pair .str .unit) (.many (.pair .str (.pair (.int .i64) .unit))) (fun xs => addr_Domain n xs.1), none, none⟩ :: pouchlaw4_AddrParses_es n
theorem addr_Domain_es_ok (n : Nat) : AllOk Tryd.prog gl (addr_Domain_es n) := .cons (addr_Domain_ok n) (pouchlaw4_AddrParses_es_ok n)

/- pouch/pouchlaw4.AddrDomains -/
def pouchlaw4_AddrDomains_B1 (n : Nat) {R : Type} (l2 : (Sq ((ByteArray × (ByteArray × Unit)) × (ByteArray × Unit)))) (i1 : Int) (k0 : Int) (kn : (Sq ((ByteArray × (ByteArray × Unit)) × (ByteArray × Unit))) → Int → Int → Option R) (ko : ((Sq ((ByteArray × (ByteArray × Unit)) × (ByteArray × Unit))) × Int) → Option R) (kr : (Bool) → Option R) (kp : Int → Option R) : Option R :=
  if (decide (k0 < (2 : Int))) = true then
    if 0 ≤ i1 ∧ i1 < (l2.n : Int) then
      if 0 ≤ i1 ∧ i1 < (l2.n : Int) then
        if 0 ≤ k0 ∧ k0 < (2 : Int) then
          (pouchref0_Lower n ((fun q => List.getD (α := ByteArray) [(((l2.at' (Int.toNat i1))).2).1, ((((l2.at' (Int.toNat i1))).1).2).1] q (zeroEl .str)) (Int.toNat k0))).bind fun v1 =>
          (pouchref4_Domain n v1).bind fun v2 =>
          if v2 = true then
            (pouchref0_Lower n ((fun q => List.getD (α := ByteArray) [(((l2.at' (Int.toNat i1))).2).1, ((((l2.at' (Int.toNat i1))).1).2).1] q (zeroEl .str)) (Int.toNat k0))).bind fun v3 =>
            (addr_Domain n ((fun q => List.getD (α := ByteArray) [(((l2.at' (Int.toNat i1))).2).1, ((((l2.at' (Int.toNat i1))).1).2).1] q (zeroEl .str)) (Int.toNat k0))).bind fun v4 =>
            (pouchlaw4_num n v4.2.1).bind fun v5 =>
            if (v5 != (0 : Int)) = false then
              if (!(v4.1.toList == v3.toList)) = true then
                kr false
              else
                kn l2 i1 (IntKind.wrap .i64 (k0 + (1 : Int)))
            else
              kr false
          else
            (addr_Domain n ((fun q => List.getD (α := ByteArray) [(((l2.at' (Int.toNat i1))).2).1, ((((l2.at' (Int.toNat i1))).1).2).1] q (zeroEl .str)) (Int.toNat k0))).bind fun v6 =>
            (pouchlaw4_num n v6.2.1).bind fun v7 =>
            if (v7 != (8 : Int)) = false then
              if (!(v6.1.toList == (⟨#[]⟩ : ByteArray).toList)) = true then
                kr false
              else
                kn l2 i1 (IntKind.wrap .i64 (k0 + (1 : Int)))
            else
              kr false
        else
          none
      else
        none
    else
      none
  else
    ko (l2, i1)
theorem pouchlaw4_AddrDomains_B1_N (n : Nat) {R S : Type} (l2 : (Sq ((ByteArray × (ByteArray × Unit)) × (ByteArray × Unit)))) (i1 : Int) (k0 : Int) (kn : (Sq ((ByteArray × (ByteArray × Unit)) × (ByteArray × Unit))) → Int → Int → Option R) (ko : ((Sq ((ByteArray × (ByteArray × Unit)) × (ByteArray × Unit))) × Int) → Option R) (kr : (Bool) → Option R) (kp : Int → Option R) (φ : R → Option S) : pouchlaw4_AddrDomains_B1 n l2 i1 k0 (fun l2 i1 k0 => (kn l2 i1 k0).bind φ) (fun a => (ko a).bind φ) (fun a => (kr a).bind φ) (fun a => (kp a).bind φ) = (pouchlaw4_AddrDomains_B1 n l2 i1 k0 kn ko kr kp).bind φ := by
  unfold pouchlaw4_AddrDomains_B1
  first | (simp only [ite_bind, bind_bind, onL_bind, onX_bind, none_bind]) | rfl
def pouchlaw4_AddrDomains_L1 (n : Nat) : Nat → (Sq ((ByteArray × (ByteArray × Unit)) × (ByteArray × Unit))) → Int → Int → Option (Lx ((Sq ((ByteArray × (ByteArray × Unit)) × (ByteArray × Unit))) × Int) (Bool))
  | 0, _, _, _ => none
  | m + 1, l2, i1, k0 => pouchlaw4_AddrDomains_B1 n l2 i1 k0 (fun l2 i1 k0 => pouchlaw4_AddrDomains_L1 n m l2 i1 k0) (fun a => some (.out a)) (fun a => some (.ret a)) (fun p => some (.pan p))
def pouchlaw4_AddrDomains_L1_sp : List Sl := [.dat (.sl (.pair (.pair .str (.pair .str .unit)) (.pair .str .unit))), .top, .top, .dat (.int .i64), .dat (.int .i64), .top, .top, .top, .top, .top, .top, .top, .top, .top, .top, .top, .top, .top, .top, .top, .top, .top, .top, .top, .top, .top, .top, .top, .top, .top, .top, .top, .top, .top, .top, .top, .top, .top, .top, .top, .top, .top, .top, .top, .top, .top, .top, .top, .top, .top, .top, .top, .top, .top, .top, .top, .top, .top, .top, .top, .top, .top, .top, .top]
def pouchlaw4_AddrDomains_L1_rp : List RS := []
def pouchlaw4_AddrDomains_L1_out_sp : List Sl := [.dat (.sl (.pair (.pair .str (.pair .str .unit)) (.pair .str .unit))), .top, .top, .dat (.int .i64), .top, .top, .top, .top, .top, .top, .top, .top, .top, .top, .top, .top, .top, .top, .top, .top, .top, .top, .top, .top, .top, .top, .top, .top, .top, .top, .top, .top, .top, .top, .top, .top, .top, .top, .top, .top, .top, .top, .top, .top, .top, .top, .top, .top, .top, .top, .top, .top, .top, .top, .top, .top, .top, .top, .top, .top, .top, .top, .top, .top]
def pouchlaw4_AddrDomains_L1_out_rp : List RS := []
def pouchlaw4_AddrDomains_L1_ret_sp : List Sl := [.top, .top, .dat .bool, .top, .top, .top, .top, .top, .top, .top, .top, .top, .top, .top, .top, .top, .top, .top, .top, .top, .top, .top, .top, .top, .top, .top, .top, .top, .top, .top, .top, .top, .top, .top, .top, .top, .top, .top, .top, .top, .top, .top, .top, .top, .top, .top, .top, .top, .top, .top, .top, .top, .top, .top, .top, .top, .top, .top, .top, .top, .top, .top, .top, .top]
def pouchlaw4_AddrDomains_L1_ret_rp : List RS := []
def pouchlaw4_AddrDomains_L1_K (K : XE → List AV → AHeap → Option Out) : Lx ((Sq ((ByteArray × (ByteArray × Unit)) × (ByteArray × Unit))) × Int) (Bool) → Option Out := fun x => onL x (fun a => K (.exit 2) (encF (nsOf pouchlaw4_AddrDomains_L1_out_rp ()) pouchlaw4_AddrDomains_L1_out_sp (a.1, (a.2, ()))) (encH (nsOf pouchlaw4_AddrDomains_L1_out_rp ()) pouchlaw4_AddrDomains_L1_out_rp ())) (fun a => K .ret (encF (nsOf pouchlaw4_AddrDomains_L1_ret_rp ()) pouchlaw4_AddrDomains_L1_ret_sp (a, ())) (encH (nsOf pouchlaw4_AddrDomains_L1_ret_rp ()) pouchlaw4_AddrDomains_L1_ret_rp ())) (fun _ => none)
def pouchlaw4_AddrDomains_B0 (n : Nat) {R : Type} (l1 : (Sq ((ByteArray × (ByteArray × Unit)) × (ByteArray × Unit)))) (i : Int) (kn : (Sq ((ByteArray × (ByteArray × Unit)) × (ByteArray × Unit))) → Int → Option R) (ko : (Unit) → Option R) (kr : (Bool) → Option R) (kp : Int → Option R) : Option R :=
  if (decide (i < (l1.n : Int))) = true then
    if (decide (i < (20 : Int))) = true then
      if 0 ≤ i ∧ i < (l1.n : Int) then
        (pouchlaw4_heavy n (((((l1.at' (Int.toNat i))).1).1, (((((l1.at' (Int.toNat i))).1).2).1, ())), ((((l1.at' (Int.toNat i))).2).1, ()))).bind fun v =>
        if v = true then
          kr true
        else
          (pouchlaw4_AddrDomains_L1 n n l1 i (0 : Int)).bind fun x_1 => onL x_1
            (fun a_2 =>
              kn a_2.1 (IntKind.wrap .i64 (a_2.2 + (1 : Int))))
            (fun a_3 =>
              kr a_3)
            (fun _ => none)
      else
        none
    else
      ko ()
  else
    ko ()
theorem pouchlaw4_AddrDomains_B0_N (n : Nat) {R S : Type} (l1 : (Sq ((ByteArray × (ByteArray × Unit)) × (ByteArray × Unit)))) (i : Int) (kn : (Sq ((ByteArray × (ByteArray × Unit)) × (ByteArray × Unit))) → Int → Option R) (ko : (Unit) → Option R) (kr : (Bool) → Option R) (kp : Int → Option R) (φ : R → Option S) : pouchlaw4_AddrDomains_B0 n l1 i (fun l1 i => (kn l1 i).bind φ) (fun a => (ko a).bind φ) (fun a => (kr a).bind φ) (fun a => (kp a).bind φ) = (pouchlaw4_AddrDomains_B0 n l1 i kn ko kr kp).bind φ := by
  unfold pouchlaw4_AddrDomains_B0
  first | (simp only [ite_bind, bind_bind, onL_bind, onX_bind, none_bind]) | rfl
def pouchlaw4_AddrDomains_L0 (n : Nat) : Nat → (Sq ((ByteArray × (ByteArray × Unit)) × (ByteArray × Unit))) → Int → Option (Lx (Unit) (Bool))
  | 0, _, _ => none
  | m + 1, l1, i => pouchlaw4_AddrDomains_B0 n l1 i (fun l1 i => pouchlaw4_AddrDomains_L0 n m l1 i) (fun a => some (.out a)) (fun a => some (.ret a)) (fun p => some (.pan p))
def pouchlaw4_AddrDomains_L0_sp : List Sl := [.dat (.sl (.pair (.pair .str (.pair .str .unit)) (.pair .str .unit))), .top, .top, .dat (.int .i64), .top, .top, .top, .top, .top, .top, .top, .top, .top, .top, .top, .top, .top, .top, .top, .top, .top, .top, .top, .top, .top, .top, .top, .top, .top, .top, .top, .top, .top, .top, .top, .top, .top, .top, .top, .top, .top, .top, .top, .top, .top, .top, .top, .top, .top, .top, .top, .top, .top, .top, .top, .top, .top, .top, .top, .top, .top, .top, .top, .top]
def pouchlaw4_AddrDomains_L0_rp : List RS := []
def pouchlaw4_AddrDomains_L0_out_sp : List Sl := [.top, .top, .top, .top, .top, .top, .top, .top, .top, .top, .top, .top, .top, .top, .top, .top, .top, .top, .top, .top, .top, .top, .top, .top, .top, .top, .top, .top, .top, .top, .top, .top, .top, .top, .top, .top, .top, .top, .top, .top, .top, .top, .top, .top, .top, .top, .top, .top, .top, .top, .top, .top, .top, .top, .top, .top, .top, .top, .top, .top, .top, .top, .top, .top]
def pouchlaw4_AddrDomains_L0_out_rp : List RS := []
def pouchlaw4_AddrDomains_L0_ret_sp : List Sl := [.top, .top, .dat .bool, .top, .top, .top, .top, .top, .top, .top, .top, .top, .top, .top, .top, .top, .top, .top, .top, .top, .top, .top, .top, .top, .top, .top, .top, .top, .top, .top, .top, .top, .top, .top, .top, .top, .top, .top, .top, .top, .top, .top, .top, .top, .top, .top, .top, .top, .top, .top, .top, .top, .top, .top, .top, .top, .top, .top, .top, .top, .top, .top, .top, .top]
def pouchlaw4_AddrDomains_L0_ret_rp : List RS := []
def pouchlaw4_AddrDomains_L0_K (K : XE → List AV → AHeap → Option Out) : Lx (Unit) (Bool) → Option Out := fun x => onL x (fun a => K (.exit 0) (encF (nsOf pouchlaw4_AddrDomains_L0_out_rp ()) pouchlaw4_AddrDomains_L0_out_sp ()) (encH (nsOf pouchlaw4_AddrDomains_L0_out_rp ()) pouchlaw4_AddrDomains_L0_out_rp ())) (fun a => K .ret (encF (nsOf pouchlaw4_AddrDomains_L0_ret_rp ()) pouchlaw4_AddrDomains_L0_ret_sp (a, ())) (encH (nsOf pouchlaw4_AddrDomains_L0_ret_rp ()) pouchlaw4_AddrDomains_L0_ret_rp ())) (fun _ => none)
def pouchlaw4_AddrDomains_B (n : Nat) {R : Type} (l : (Sq ((ByteArray × (ByteArray × Unit)) × (ByteArray × Unit)))) (k : Bool → Option R) : Option R :=
  (pouchlaw4_AddrDomains_L0 n n l (0 : Int)).bind fun x_1 => onL x_1
    (fun a_2 =>
      (pouchlaw4_wakes n).bind fun v8 =>
      k v8)
    (fun a_3 =>
      k a_3)
    (fun _ => none)
def pouchlaw4_AddrDomains (n : Nat) (l : (Sq ((ByteArray × (ByteArray × Unit)) × (ByteArray × Unit)))) : Option Bool := pouchlaw4_AddrDomains_B n l some
theorem pouchlaw4_AddrDomains_N (n : Nat) {R S : Type} (l : (Sq ((ByteArray × (ByteArray × Unit)) × (ByteArray × Unit)))) (k : Bool → Option R) (φ : R → Option S) : pouchlaw4_AddrDomains_B n l (fun a => (k a).bind φ) = (pouchlaw4_AddrDomains_B n l k).bind φ := by
  unfold pouchlaw4_AddrDomains_B
  first | (simp only [ite_bind, bind_bind, onL_bind, onX_bind, none_bind]) | rfl
def pouchlaw4_AddrDomains_hint (n : Nat) : Hint Out := { live := fun c => (cond (Nat.beq c 0) [(0, some (.sl (.pair (.pair .str (.pair .str .unit)) (.pair .str .unit)))), (3, none)] (cond (Nat.beq c 2) [(0, some (.sl (.pair (.pair .str (.pair .str .unit)) (.pair .str .unit)))), (3, none), (4, none)] [])), run := fun c => (cond (Nat.beq c 0) (some (runL pouchlaw4_AddrDomains_L0_sp pouchlaw4_AddrDomains_L0_rp fun σ ρ K => (pouchlaw4_AddrDomains_L0 n n σ.1 σ.2.1).bind (pouchlaw4_AddrDomains_L0_K K))) (cond (Nat.beq c 2) (some (runL pouchlaw4_AddrDomains_L1_sp pouchlaw4_AddrDomains_L1_rp fun σ ρ K => (pouchlaw4_AddrDomains_L1 n n σ.1 σ.2.1 σ.2.2.1).bind (pouchlaw4_AddrDomains_L1_K K))) none)), xm := fun c q => (cond (Nat.beq c 0 && Nat.beq (q.getD 1000000) 0 && q.isSome) (some []) (cond (Nat.beq c 2 && Nat.beq (q.getD 1000000) 2 && q.isSome) (some [(0, some (.sl (.pair (.pair .str (.pair .str .unit)) (.pair .str .unit)))), (3, none)]) (cond (Nat.beq c 3 && q.isNone) (some [(2, none)]) (cond (Nat.beq c 1 && q.isNone) (some [(2, none)]) none)))), sch := fun c => (cond (Nat.beq c 9) (some [(0, 0), (1, 0), (2, 0), (3, 0), (5, 0), (6, 0), (7, 0), (8, 0), (9, 0), (12, 0), (4, 1), (10, 1), (11, 2), (13, 0), (14, 2), (15, 0)]) none) }
theorem pouchlaw4_AddrDomains_L1_E (n : Nat) (K : XE → List AV → AHeap → Option Out) : ∀ (m : Nat) (l2 : (Sq ((ByteArray × (ByteArray × Unit)) × (ByteArray × Unit)))) (i1 : Int) (k0 : Int), loopI tys (callees Out (addr_Domain_es n)) (pouchlaw4_AddrDomains_hint n) n (codeAt [1, 0, 1, 0, 0, 1, 0, 0, 1, 1, 0, 0] (bodyOf Tryd.f5)) 2 pouchlaw4_AddrDomains_L1_sp pouchlaw4_AddrDomains_L1_rp K m (l2, (i1, (k0, ()))) () = (pouchlaw4_AddrDomains_L1 n m l2 i1 k0).bind (pouchlaw4_AddrDomains_L1_K K)
  | 0, l2, i1, k0 => by kernel_rfl
  | m + 1, l2, i1, k0 => by
    have h1 : loopI tys (callees Out (addr_Domain_es n)) (pouchlaw4_AddrDomains_hint n) n (codeAt [1, 0, 1, 0, 0, 1, 0, 0, 1, 1, 0, 0] (bodyOf Tryd.f5)) 2 pouchlaw4_AddrDomains_L1_sp pouchlaw4_AddrDomains_L1_rp K (m + 1) (l2, (i1, (k0, ()))) () = pouchlaw4_AddrDomains_B1 n l2 i1 k0 (fun (l2 : (Sq ((ByteArray × (ByteArray × Unit)) × (ByteArray × Unit)))) (i1 : Int) (k0 : Int) => loopI tys (callees Out (addr_Domain_es n)) (pouchlaw4_AddrDomains_hint n) n (codeAt [1, 0, 1, 0, 0, 1, 0, 0, 1, 1, 0, 0] (bodyOf Tryd.f5)) 2 pouchlaw4_AddrDomains_L1_sp pouchlaw4_AddrDomains_L1_rp K m (l2, (i1, (k0, ()))) ()) (fun a => pouchlaw4_AddrDomains_L1_K K (.out a)) (fun a => pouchlaw4_AddrDomains_L1_K K (.ret a)) (fun p => pouchlaw4_AddrDomains_L1_K K (.pan p)) := by kernel_rfl
    have h2 : (fun (l2 : (Sq ((ByteArray × (ByteArray × Unit)) × (ByteArray × Unit)))) (i1 : Int) (k0 : Int) => loopI tys (callees Out (addr_Domain_es n)) (pouchlaw4_AddrDomains_hint n) n (codeAt [1, 0, 1, 0, 0, 1, 0, 0, 1, 1, 0, 0] (bodyOf Tryd.f5)) 2 pouchlaw4_AddrDomains_L1_sp pouchlaw4_AddrDomains_L1_rp K m (l2, (i1, (k0, ()))) ()) = (fun (l2 : (Sq ((ByteArray × (ByteArray × Unit)) × (ByteArray × Unit)))) (i1 : Int) (k0 : Int) => (pouchlaw4_AddrDomains_L1 n m l2 i1 k0).bind (pouchlaw4_AddrDomains_L1_K K)) := funext fun l2 => funext fun i1 => funext fun k0 => pouchlaw4_AddrDomains_L1_E n K m l2 i1 k0
    exact h1.trans ((congrArg (fun z => pouchlaw4_AddrDomains_B1 n l2 i1 k0 z (fun a => pouchlaw4_AddrDomains_L1_K K (.out a)) (fun a => pouchlaw4_AddrDomains_L1_K K (.ret a)) (fun p => pouchlaw4_AddrDomains_L1_K K (.pan p))) h2).trans (pouchlaw4_AddrDomains_B1_N n l2 i1 k0 (fun (l2 : (Sq ((ByteArray × (ByteArray × Unit)) × (ByteArray × Unit)))) (i1 : Int) (k0 : Int) => pouchlaw4_AddrDomains_L1 n m l2 i1 k0) (fun a => some (.out a)) (fun a => some (.ret a)) (fun p => some (.pan p)) (pouchlaw4_AddrDomains_L1_K K)))
theorem pouchlaw4_AddrDomains_L1_ok (n : Nat) : RunOk tys (callees Out (addr_Domain_es n)) (pouchlaw4_AddrDomains_hint n) n (codeAt [1, 0, 1, 0, 0, 1, 0, 0, 1, 1, 0, 0] (bodyOf Tryd.f5)) 2 := runOk_of (sp := pouchlaw4_AddrDomains_L1_sp) (rp := pouchlaw4_AddrDomains_L1_rp) (F := fun σ ρ K => (pouchlaw4_AddrDomains_L1 n n σ.1 σ.2.1 σ.2.2.1).bind (pouchlaw4_AddrDomains_L1_K K)) (by kernel_rfl) fun K σ ρ => pouchlaw4_AddrDomains_L1_E n K n σ.1 σ.2.1 σ.2.2.1
theorem pouchlaw4_AddrDomains_L0_E (n : Nat) (K : XE → List AV → AHeap → Option Out) : ∀ (m : Nat) (l1 : (Sq ((ByteArray × (ByteArray × Unit)) × (ByteArray × Unit)))) (i : Int), loopI tys (callees Out (addr_Domain_es n)) (pouchlaw4_AddrDomains_hint n) n (codeAt [1, 0, 1, 0, 0] (bodyOf Tryd.f5)) 0 pouchlaw4_AddrDomains_L0_sp pouchlaw4_AddrDomains_L0_rp K m (l1, (i, ())) () = (pouchlaw4_AddrDomains_L0 n m l1 i).bind (pouchlaw4_AddrDomains_L0_K K)
  | 0, l1, i => by kernel_rfl
  | m + 1, l1, i => by
    have h1 : loopI tys (callees Out (addr_Domain_es n)) (pouchlaw4_AddrDomains_hint n) n (codeAt [1, 0, 1, 0, 0] (bodyOf Tryd.f5)) 0 pouchlaw4_AddrDomains_L0_sp pouchlaw4_AddrDomains_L0_rp K (m + 1) (l1, (i, ())) () = pouchlaw4_AddrDomains_B0 n l1 i (fun (l1 : (Sq ((ByteArray × (ByteArray × Unit)) × (ByteArray × Unit)))) (i : Int) => loopI tys (callees Out (addr_Domain_es n)) (pouchlaw4_AddrDomains_hint n) n (codeAt [1, 0, 1, 0, 0] (bodyOf Tryd.f5)) 0 pouchlaw4_AddrDomains_L0_sp pouchlaw4_AddrDomains_L0_rp K m (l1, (i, ())) ()) (fun a => pouchlaw4_AddrDomains_L0_K K (.out a)) (fun a => pouchlaw4_AddrDomains_L0_K K (.ret a)) (fun p => pouchlaw4_AddrDomains_L0_K K (.pan p)) := by kernel_rfl
    have h2 : (fun (l1 : (Sq ((ByteArray × (ByteArray × Unit)) × (ByteArray × Unit)))) (i : Int) => loopI tys (callees Out (addr_Domain_es n)) (pouchlaw4_AddrDomains_hint n) n (codeAt [1, 0, 1, 0, 0] (bodyOf Tryd.f5)) 0 pouchlaw4_AddrDomains_L0_sp pouchlaw4_AddrDomains_L0_rp K m (l1, (i, ())) ()) = (fun (l1 : (Sq ((ByteArray × (ByteArray × Unit)) × (ByteArray × Unit)))) (i : Int) => (pouchlaw4_AddrDomains_L0 n m l1 i).bind (pouchlaw4_AddrDomains_L0_K K)) := funext fun l1 => funext fun i => pouchlaw4_AddrDomains_L0_E n K m l1 i
    exact h1.trans ((congrArg (fun z => pouchlaw4_AddrDomains_B0 n l1 i z (fun a => pouchlaw4_AddrDomains_L0_K K (.out a)) (fun a => pouchlaw4_AddrDomains_L0_K K (.ret a)) (fun p => pouchlaw4_AddrDomains_L0_K K (.pan p))) h2).trans (pouchlaw4_AddrDomains_B0_N n l1 i (fun (l1 : (Sq ((ByteArray × (ByteArray × Unit)) × (ByteArray × Unit)))) (i : Int) => pouchlaw4_AddrDomains_L0 n m l1 i) (fun a => some (.out a)) (fun a => some (.ret a)) (fun p => some (.pan p)) (pouchlaw4_AddrDomains_L0_K K)))
theorem pouchlaw4_AddrDomains_L0_ok (n : Nat) : RunOk tys (callees Out (addr_Domain_es n)) (pouchlaw4_AddrDomains_hint n) n (codeAt [1, 0, 1, 0, 0] (bodyOf Tryd.f5)) 0 := runOk_of (sp := pouchlaw4_AddrDomains_L0_sp) (rp := pouchlaw4_AddrDomains_L0_rp) (F := fun σ ρ K => (pouchlaw4_AddrDomains_L0 n n σ.1 σ.2.1).bind (pouchlaw4_AddrDomains_L0_K K)) (by kernel_rfl) fun K σ ρ => pouchlaw4_AddrDomains_L0_E n K n σ.1 σ.2.1
theorem pouchlaw4_AddrDomains_runs (n : Nat) : RunsOk tys (callees Out (addr_Domain_es n)) (pouchlaw4_AddrDomains_hint n) n (bodyOf Tryd.f5) 0 := ⟨trivial, ⟨⟨trivial, ⟨pouchlaw4_AddrDomains_L0_ok n, ⟨⟨trivial, ⟨trivial, trivial⟩⟩, ⟨⟨⟨trivial, ⟨⟨trivial, trivial⟩, trivial⟩⟩, ⟨trivial, ⟨pouchlaw4_AddrDomains_L1_ok n, ⟨⟨trivial, ⟨trivial, trivial⟩⟩, ⟨⟨trivial, ⟨trivial, ⟨⟨trivial, ⟨trivial, trivial⟩⟩, ⟨trivial, ⟨trivial, ⟨⟨trivial, trivial⟩, trivial⟩⟩⟩⟩⟩⟩, trivial⟩⟩⟩⟩⟩, trivial⟩⟩⟩⟩, ⟨trivial, trivial⟩⟩⟩
theorem pouchlaw4_AddrDomains_at : Tryd.prog.funcs[5]? = some Tryd.f5 := by kernel_rfl
theorem pouchlaw4_AddrDomains_ent (n : Nat) : Enters Tryd.prog 5 := enters_of (c := bodyOf Tryd.f5) pouchlaw4_AddrDomains_at (by kernel_rfl) (by kernel_rfl)
theorem pouchlaw4_AddrDomains_E (n : Nat) (l : (Sq ((ByteArray × (ByteArray × Unit)) × (ByteArray × Unit)))) : fnA tys (callees Out (addr_Domain_es n)) (pouchlaw4_AddrDomains_hint n) n Tryd.f5 (encL (.pair (.sl (.pair (.pair .str (.pair .str .unit)) (.pair .str .unit))) .unit) (l, ())) [] (soloA fun v => some (.ret v)) (soloA fun v => some (.pan v)) = pouchlaw4_AddrDomains_B n l (fun y => some (.ret (encR (.one .bool) y))) := by kernel_rfl
theorem pouchlaw4_AddrDomains_ok (n : Nat) : EntryOk Tryd.prog gl ⟨5, pcT (.pair (.sl (.pair (.pair .str (.pair .str .unit)) (.pair .str .unit))) .unit) (.one .bool) (fun xs => pouchlaw4_AddrDomains n xs.1), none, none⟩ :=
  pcT_ok (pouchlaw4_AddrDomains_ent n) fun xs y h => ans_of_fn tys_ok (addr_Domain_es_ok n) mixed (hint := pouchlaw4_AddrDomains_hint n) (n := n) (fn := Tryd.f5) pouchlaw4_AddrDomains_at (fun c hc => by
    have : bodyOf Tryd.f5 = c := by unfold bodyOf; rw [hc]; rfl
    exact this ▸ pouchlaw4_AddrDomains_runs n) (run_ret (φ := (fun y => some (Out.ret (encR (.one .bool) y)))) ((pouchlaw4_AddrDomains_E n xs.1).trans (pouchlaw4_AddrDomains_N (R := Bool) (S := Out) n xs.1 some (fun y => some (Out.ret (encR (.one .bool) y))))) h)
def pouchlaw4_AddrDomains_es (n : Nat) : List Entry := ⟨5, pcT (.pair (.sl (.pair (.pair .str (.pair .str .unit)) (.pair .str .unit))) .unit) (.one .bool) (fun xs => pouchlaw4_AddrDomains n xs.1), none, none⟩ :: addr_Domain_es n
theorem pouchlaw4_AddrDomains_es_ok (n : Nat) : AllOk Tryd.prog gl (pouchlaw4_AddrDomains_es n) := .cons (pouchlaw4_AddrDomains_ok n) (addr_Domain_es_ok n)

/- pouch/pouchref4.Path -/
def pouchref4_Path_B (n : Nat) {R : Type} (s : ByteArray) (k : ((ByteArray × (ByteArray × Unit)) × Bool × Bool × Unit) → Option R) : Option R :=
  if (s.toList == (⟨#[60, 62]⟩ : ByteArray).toList) = true then
    k (((⟨#[]⟩ : ByteArray), ((⟨#[]⟩ : ByteArray), ())), (true, (true, ())))
  else
    if (decide ((s.size : Int) < (2 : Int))) = false then
      if 0 ≤ (0 : Int) ∧ (0 : Int) < (s.size : Int) then
        if ((bt s (0 : Int)) != (60 : Int)) = false then
          if 0 ≤ (IntKind.wrap .i64 ((s.size : Int) - (1 : Int))) ∧ (IntKind.wrap .i64 ((s.size : Int) - (1 : Int))) < (s.size : Int) then
            if ((bt s (IntKind.wrap .i64 ((s.size : Int) - (1 : Int)))) != (62 : Int)) = true then
              k (((⟨#[]⟩ : ByteArray), ((⟨#[]⟩ : ByteArray), ())), (false, (false, ())))
            else
              if 0 ≤ (IntKind.wrap .i64 ((s.size : Int) - (1 : Int))) ∧ (IntKind.wrap .i64 ((s.size : Int) - (1 : Int))) ≤ (s.size : Int) then
                if 0 ≤ (1 : Int) ∧ (1 : Int) ≤ (IntKind.wrap .i64 ((s.size : Int) - (1 : Int))) then
                  (pouchref4_Parse n (s.extract (Int.toNat (1 : Int)) (Int.toNat (IntKind.wrap .i64 ((s.size : Int) - (1 : Int)))))).bind fun v =>
                  k ((v.1.1, (v.1.2.1, ())), (false, (v.2.1, ())))
                else
                  none
              else
                none
          else
            none
        else
          k (((⟨#[]⟩ : ByteArray), ((⟨#[]⟩ : ByteArray), ())), (false, (false, ())))
      else
        none
    else
      k (((⟨#[]⟩ : ByteArray), ((⟨#[]⟩ : ByteArray), ())), (false, (false, ())))
def pouchref4_Path (n : Nat) (s : ByteArray) : Option ((ByteArray × (ByteArray × Unit)) × Bool × Bool × Unit) := pouchref4_Path_B n s some
theorem pouchref4_Path_N (n : Nat) {R S : Type} (s : ByteArray) (k : ((ByteArray × (ByteArray × Unit)) × Bool × Bool × Unit) → Option R) (φ : R → Option S) : pouchref4_Path_B n s (fun a => (k a).bind φ) = (pouchref4_Path_B n s k).bind φ := by
  unfold pouchref4_Path_B
  first | (simp only [ite_bind, bind_bind, onL_bind, onX_bind, none_bind]) | rfl
def pouchref4_Path_hint (n : Nat) : Hint Out := { live := fun c => [], run := fun c => none, xm := fun c q => none }
theorem pouchref4_Path_runs (n : Nat) : RunsOk tys (callees Out (pouchlaw4_AddrDomains_es n)) (pouchref4_Path_hint n) n (bodyOf Tryd.f18) 0 := ⟨trivial, ⟨⟨trivial, ⟨⟨trivial, trivial⟩, trivial⟩⟩, ⟨⟨trivial, ⟨⟨trivial, trivial⟩, trivial⟩⟩, ⟨trivial, ⟨trivial, trivial⟩⟩⟩⟩⟩
theorem pouchref4_Path_at : Tryd.prog.funcs[18]? = some Tryd.f18 := by kernel_rfl
theorem pouchref4_Path_ent (n : Nat) : Enters Tryd.prog 18 := enters_of (c := bodyOf Tryd.f18) pouchref4_Path_at (by kernel_rfl) (by kernel_rfl)
theorem pouchref4_Path_E (n : Nat) (s : ByteArray) : fnA tys (callees Out (pouchlaw4_AddrDomains_es n)) (pouchref4_Path_hint n) n Tryd.f18 (encL (.pair .str .unit) (s, ())) [] (soloA fun v => some (.ret v)) (soloA fun v => some (.pan v)) = pouchref4_Path_B n s (fun y => some (.ret (encR (.many (.pair (.pair .str (.pair .str .unit)) (.pair .bool (.pair .bool .unit)))) y))) := by kernel_rfl
theorem pouchref4_Path_ok (n : Nat) : EntryOk Tryd.prog gl ⟨18, pcT (.pair .str .unit) (.many (.pair (.pair .str (.pair .str .unit)) (.pair .bool (.pair .bool .unit)))) (fun xs => pouchref4_Path n xs.1), none, none⟩ :=
  pcT_ok (pouchref4_Path_ent n) fun xs y h => ans_of_fn tys_ok (pouchlaw4_AddrDomains_es_ok n) mixed (hint := pouchref4_Path_hint n) (n := n) (fn := Tryd.f18) pouchref4_Path_at (fun c hc => by
    have : bodyOf Tryd.f18 = c := by unfold bodyOf; rw [hc]; rfl
    exact this ▸ pouchref4_Path_runs n) (run_ret (φ := (fun y => some (Out.ret (encR (.many (.pair (.pair .str (.pair .str .unit)) (.pair .bool (.pair .bool .unit)))) y)))) ((pouchref4_Path_E n xs.1).trans (pouchref4_Path_N (R := ((ByteArray × (ByteArray × Unit)) × Bool × Bool × Unit)) (S := Out) n xs.1 some (fun y => some (Out.ret (encR (.many (.pair (.pair .str (.pair .str .unit)) (.pair .bool (.pair .bool .unit)))) y))))) h)
def pouchref4_Path_es (n : Nat) : List Entry := ⟨18, pcT (.pair .str .unit) (.many (.pair (.pair .str (.pair .str .unit)) (.pair .bool (.pair .bool .unit)))) (fun xs => pouchref4_Path n xs.1), none, none⟩ :: pouchlaw4_AddrDomains_es n
theorem pouchref4_Path_es_ok (n : Nat) : AllOk Tryd.prog gl (pouchref4_Path_es n) := .cons (pouchref4_Path_ok n) (pouchlaw4_AddrDomains_es_ok n)

/- pouch/addr.Path -/
def addr_Path_B (n : Nat) {R : Type} (s : ByteArray) (k : ((ByteArray × (ByteArray × Unit)) × Bool × Int × Unit) → Option R) : Option R :=
  if (s.toList == (⟨#[60, 62]⟩ : ByteArray).toList) = true then
    k (((⟨#[]⟩ : ByteArray), ((⟨#[]⟩ : ByteArray), ())), (true, ((0 : Int), ())))
  else
    if (decide ((s.size : Int) < (2 : Int))) = false then
      if 0 ≤ (0 : Int) ∧ (0 : Int) < (s.size : Int) then
        if ((bt s (0 : Int)) != (60 : Int)) = false then
          if 0 ≤ (IntKind.wrap .i64 ((s.size : Int) - (1 : Int))) ∧ (IntKind.wrap .i64 ((s.size : Int) - (1 : Int))) < (s.size : Int) then
            if ((bt s (IntKind.wrap .i64 ((s.size : Int) - (1 : Int)))) != (62 : Int)) = true then
              k (((⟨#[]⟩ : ByteArray), ((⟨#[]⟩ : ByteArray), ())), (false, ((8 : Int), ())))
            else
              if 0 ≤ (IntKind.wrap .i64 ((s.size : Int) - (1 : Int))) ∧ (IntKind.wrap .i64 ((s.size : Int) - (1 : Int))) ≤ (s.size : Int) then
                if 0 ≤ (1 : Int) ∧ (1 : Int) ≤ (IntKind.wrap .i64 ((s.size : Int) - (1 : Int))) then
                  (addr_Parse n (s.extract (Int.toNat (1 : Int)) (Int.toNat (IntKind.wrap .i64 ((s.size : Int) - (1 : Int)))))).bind fun v =>
                  k ((v.1.1, (v.1.2.1, ())), (false, (v.2.1, ())))
                else
                  none
              else
                none
          else
            none
        else
          k (((⟨#[]⟩ : ByteArray), ((⟨#[]⟩ : ByteArray), ())), (false, ((8 : Int), ())))
      else
        none
    else
      k (((⟨#[]⟩ : ByteArray), ((⟨#[]⟩ : ByteArray), ())), (false, ((8 : Int), ())))
def addr_Path (n : Nat) (s : ByteArray) : Option ((ByteArray × (ByteArray × Unit)) × Bool × Int × Unit) := addr_Path_B n s some
theorem addr_Path_N (n : Nat) {R S : Type} (s : ByteArray) (k : ((ByteArray × (ByteArray × Unit)) × Bool × Int × Unit) → Option R) (φ : R → Option S) : addr_Path_B n s (fun a => (k a).bind φ) = (addr_Path_B n s k).bind φ := by
  unfold addr_Path_B
  first | (simp only [ite_bind, bind_bind, onL_bind, onX_bind, none_bind]) | rfl
def addr_Path_hint (n : Nat) : Hint Out := { live := fun c => [], run := fun c => none, xm := fun c q => none }
theorem addr_Path_runs (n : Nat) : RunsOk tys (callees Out (pouchref4_Path_es n)) (addr_Path_hint n) n (bodyOf Tryd.f19) 0 := ⟨trivial, ⟨⟨trivial, ⟨⟨trivial, trivial⟩, trivial⟩⟩, ⟨⟨trivial, ⟨⟨trivial, trivial⟩, trivial⟩⟩, ⟨trivial, ⟨trivial, trivial⟩⟩⟩⟩⟩
theorem addr_Path_at : Tryd.prog.funcs[19]? = some Tryd.f19 := by kernel_rfl
theorem addr_Path_ent (n : Nat) : Enters Tryd.prog 19 := enters_of (c := bodyOf Tryd.f19) addr_Path_at (by kernel_rfl) (by kernel_rfl)
theorem addr_Path_E (n : Nat) (s : ByteArray) : fnA tys (callees Out (pouchref4_Path_es n)) (addr_Path_hint n) n Tryd.f19 (encL (.pair .str .unit) (s, ())) [] (soloA fun v => some (.ret v)) (soloA fun v => some (.pan v)) = addr_Path_B n s (fun y => some (.ret (encR (.many (.pair (.pair .str (.pair .str .unit)) (.pair .bool (.pair (.int .i64) .unit)))) y))) := by kernel_rfl
theorem addr_Path_ok (n : Nat) : EntryOk Tryd.prog gl ⟨19, pcT (.pair .str .unit) (.many (.pair (.pair .str (.pair .str .unit)) (.pair .bool (.pair (.int .i64) .unit)))) (fun xs => addr_Path n xs.1), none, none⟩ :=
  pcT_ok (addr_Path_ent n) fun xs y h => ans_of_fn tys_ok (pouchref4_Path_es_ok n) mixed (hint := addr_Path_hint n) (n := n) (fn := Tryd.f19) addr_Path_at (fun c hc => by
    have : bodyOf Tryd.f19 = c := by unfold bodyOf; rw [hc]; rfl
    exact this ▸ addr_Path_runs n) (run_ret (φ := (fun y => some (Out.ret (encR (.many (.pair (.pair .str (.pair .str .unit)) (.pair .bool (.pair (.int .i64) .unit)))) y)))) ((addr_Path_E n xs.1).trans (addr_Path_N (R := ((ByteArray × (ByteArray × Unit)) × Bool × Int × Unit)) (S := Out) n xs.1 some (fun y => some (Out.ret (encR (.many (.pair (.pair .str (.pair .str .unit)) (.pair .bool (.pair (.int .i64) .unit)))) y))))) h)
def addr_Path_es (n : Nat) : List Entry := ⟨19, pcT (.pair .str .unit) (.many (.pair (.pair .str (.pair .str .unit)) (.pair .bool (.pair (.int .i64) .unit)))) (fun xs => addr_Path n xs.1), none, none⟩ :: pouchref4_Path_es n
theorem addr_Path_es_ok (n : Nat) : AllOk Tryd.prog gl (addr_Path_es n) := .cons (addr_Path_ok n) (pouchref4_Path_es_ok n)

/- pouch/pouchlaw4.AddrPaths -/
def pouchlaw4_AddrPaths_B1 (n : Nat) {R : Type} (l2 : (Sq ((ByteArray × (ByteArray × Unit)) × (ByteArray × Unit)))) (i1 : Int) (k0 : Int) (kn : (Sq ((ByteArray × (ByteArray × Unit)) × (ByteArray × Unit))) → Int → Int → Option R) (ko : ((Sq ((ByteArray × (ByteArray × Unit)) × (ByteArray × Unit))) × Int) → Option R) (kr : (Bool) → Option R) (kp : Int → Option R) : Option R :=
  if (decide (k0 < (2 : Int))) = true then
    if 0 ≤ i1 ∧ i1 < (l2.n : Int) then
      if 0 ≤ i1 ∧ i1 < (l2.n : Int) then
        if strFits (⟨#[60]⟩ : ByteArray) ((((l2.at' (Int.toNat i1))).2).1) = true then
          if strFits ((⟨#[60]⟩ : ByteArray) ++ ((((l2.at' (Int.toNat i1))).2).1)) (⟨#[62]⟩ : ByteArray) = true then
            if 0 ≤ k0 ∧ k0 < (2 : Int) then
              (pouchref4_Path n ((fun q => List.getD (α := ByteArray) [(((l2.at' (Int.toNat i1))).2).1, (((⟨#[60]⟩ : ByteArray) ++ ((((l2.at' (Int.toNat i1))).2).1)) ++ (⟨#[62]⟩ : ByteArray))] q (zeroEl .str)) (Int.toNat k0))).bind fun v1 =>
              if v1.2.2.1 = true then
                (addr_Path n ((fun q => List.getD (α := ByteArray) [(((l2.at' (Int.toNat i1))).2).1, (((⟨#[60]⟩ : ByteArray) ++ ((((l2.at' (Int.toNat i1))).2).1)) ++ (⟨#[62]⟩ : ByteArray))] q (zeroEl .str)) (Int.toNat k0))).bind fun v2 =>
                (pouchlaw4_num n v2.2.2.1).bind fun v3 =>
                if (v3 != (0 : Int)) = false then
                  if ((0 : Int) == (0 : Int)) = true then
                    if (!((v2.1.1.toList == v1.1.1.toList) && ((v2.1.2.1.toList == v1.1.2.1.toList) && true))) = false then
                      if (!(v2.2.1 == v1.2.1)) = true then
                        kr false
                      else
                        kn l2 i1 (IntKind.wrap .i64 (k0 + (1 : Int)))
                    else
                      kr false
                  else
                    kn l2 i1 (IntKind.wrap .i64 (k0 + (1 : Int)))
                else
                  kr false
              else
                (addr_Path n ((fun q => List.getD (α := ByteArray) [(((l2.at' (Int.toNat i1))).2).1, (((⟨#[60]⟩ : ByteArray) ++ ((((l2.at' (Int.toNat i1))).2).1)) ++ (⟨#[62]⟩ : ByteArray))] q (zeroEl .str)) (Int.toNat k0))).bind fun v4 =>
                (pouchlaw4_num n v4.2.2.1).bind fun v5 =>
                if (v5 != (8 : Int)) = false then
                  if ((8 : Int) == (0 : Int)) = true then
                    if (!((v4.1.1.toList == v1.1.1.toList) && ((v4.1.2.1.toList == v1.1.2.1.toList) && true))) = false then
                      if (!(v4.2.1 == v1.2.1)) = true then
                        kr false
                      else
                        kn l2 i1 (IntKind.wrap .i64 (k0 + (1 : Int)))
                    else
                      kr false
                  else
                    kn l2 i1 (IntKind.wrap .i64 (k0 + (1 : Int)))
                else
                  kr false
            else
              none
          else
            none
        else
          none
      else
        none
    else
      none
  else
    ko (l2, i1)
theorem pouchlaw4_AddrPaths_B1_N (n : Nat) {R S : Type} (l2 : (Sq ((ByteArray × (ByteArray × Unit)) × (ByteArray × Unit)))) (i1 : Int) (k0 : Int) (kn : (Sq ((ByteArray × (ByteArray × Unit)) × (ByteArray × Unit))) → Int → Int → Option R) (ko : ((Sq ((ByteArray × (ByteArray × Unit)) × (ByteArray × Unit))) × Int) → Option R) (kr : (Bool) → Option R) (kp : Int → Option R) (φ : R → Option S) : pouchlaw4_AddrPaths_B1 n l2 i1 k0 (fun l2 i1 k0 => (kn l2 i1 k0).bind φ) (fun a => (ko a).bind φ) (fun a => (kr a).bind φ) (fun a => (kp a).bind φ) = (pouchlaw4_AddrPaths_B1 n l2 i1 k0 kn ko kr kp).bind φ := by
  unfold pouchlaw4_AddrPaths_B1
  first | (simp only [ite_bind, bind_bind, onL_bind, onX_bind, none_bind]) | rfl
def pouchlaw4_AddrPaths_L1 (n : Nat) : Nat → (Sq ((ByteArray × (ByteArray × Unit)) × (ByteArray × Unit))) → Int → Int → Option (Lx ((Sq ((ByteArray × (ByteArray × Unit)) × (ByteArray × Unit))) × Int) (Bool))
  | 0, _, _, _ => none
  | m + 1, l2, i1, k0 => pouchlaw4_AddrPaths_B1 n l2 i1 k0 (fun l2 i1 k0 => pouchlaw4_AddrPaths_L1 n m l2 i1 k0) (fun a => some (.out a)) (fun a => some (.ret a)) (fun p => some (.pan p))
def pouchlaw4_AddrPaths_L1_sp : List Sl := [.dat (.sl (.pair (.pair .str (.pair .str .unit)) (.pair .str .unit))), .top, .top, .dat (.int .i64), .dat (.int .i64), .top, .top, .top, .top, .top, .top, .top, .top, .top, .top, .top, .top, .top, .top, .top, .top, .top, .top, .top, .top, .top, .top, .top, .top, .top, .top, .top, .top, .top, .top, .top, .top, .top, .top, .top, .top, .top, .top, .top, .top, .top, .top, .top, .top, .top, .top, .top, .top, .top, .top, .top, .top, .top, .top, .top, .top, .top, .top, .top, .top, .top, .top, .top, .top, .top, .top, .top, .top, .top, .top, .top, .top, .top, .top, .top]
def pouchlaw4_AddrPaths_L1_rp : List RS := []
def pouchlaw4_AddrPaths_L1_out_sp : List Sl := [.dat (.sl (.pair (.pair .str (.pair .str .unit)) (.pair .str .unit))), .top, .top, .dat (.int .i64), .top, .top, .top, .top, .top, .top, .top, .top, .top, .top, .top, .top, .top, .top, .top, .top, .top, .top, .top, .top, .top, .top, .top, .top, .top, .top, .top, .top, .top, .top, .top, .top, .top, .top, .top, .top, .top, .top, .top, .top, .top, .top, .top, .top, .top, .top, .top, .top, .top, .top, .top, .top, .top, .top, .top, .top, .top, .top, .top, .top, .top, .top, .top, .top, .top, .top, .top, .top, .top, .top, .top, .top, .top, .top, .top, .top]
def pouchlaw4_AddrPaths_L1_out_rp : List RS := []
def pouchlaw4_AddrPaths_L1_ret_sp : List Sl := [.top, .top, .dat .bool, .top, .top, .top, .top, .top, .top, .top, .top, .top, .top, .top, .top, .top, .top, .top, .top, .top, .top, .top, .top, .top, .top, .top, .top, .top, .top, .top, .top, .top, .top, .top, .top, .top, .top, .top, .top, .top, .top, .top, .top, .top, .top, .top, .top, .top, .top, .top, .top, .top, .top, .top, .top, .top, .top, .top, .top, .top, .top, .top, .top, .top, .top, .top, .top, .top, .top, .top, .top, .top, .top, .top, .top, .top, .top, .top, .top, .top]
def pouchlaw4_AddrPaths_L1_ret_rp : List RS := []
def pouchlaw4_AddrPaths_L1_K (K : XE → List AV → AHeap → Option Out) : Lx ((Sq ((ByteArray × (ByteArray × Unit)) × (ByteArray × Unit))) × Int) (Bool) → Option Out := fun x => onL x (fun a => K (.exit 2) (encF (nsOf pouchlaw4_AddrPaths_L1_out_rp ()) pouchlaw4_AddrPaths_L1_out_sp (a.1, (a.2, ()))) (encH (nsOf pouchlaw4_AddrPaths_L1_out_rp ()) pouchlaw4_AddrPaths_L1_out_rp ())) (fun a => K .ret (encF (nsOf pouchlaw4_AddrPaths_L1_ret_rp ()) pouchlaw4_AddrPaths_L1_ret_sp (a, ())) (encH (nsOf pouchlaw4_AddrPaths_L1_ret_rp ()) pouchlaw4_AddrPaths_L1_ret_rp ())) (fun _ => none)
def pouchlaw4_AddrPaths_B0 (n : Nat) {R : Type} (l1 : (Sq ((ByteArray × (ByteArray × Unit)) × (ByteArray × Unit)))) (i : Int) (kn : (Sq ((ByteArray × (ByteArray × Unit)) × (ByteArray × Unit))) → Int → Option R) (ko : (Unit) → Option R) (kr : (Bool) → Option R) (kp : Int → Option R) : Option R :=
  if (decide (i < (l1.n : Int))) = true then
    if (decide (i < (20 : Int))) = true then
      if 0 ≤ i ∧ i < (l1.n : Int) then
        (pouchlaw4_heavy n (((((l1.at' (Int.toNat i))).1).1, (((((l1.at' (Int.toNat i))).1).2).1, ())), ((((l1.at' (Int.toNat i))).2).1, ()))).bind fun v =>
        if v = true then
          kr true
        else
          (pouchlaw4_AddrPaths_L1 n n l1 i (0 : Int)).bind fun x_1 => onL x_1
            (fun a_2 =>
              kn a_2.1 (IntKind.wrap .i64 (a_2.2 + (1 : Int))))
            (fun a_3 =>
              kr a_3)
            (fun _ => none)
      else
        none
    else
      ko ()
  else
    ko ()
theorem pouchlaw4_AddrPaths_B0_N (n : Nat) {R S : Type} (l1 : (Sq ((ByteArray × (ByteArray × Unit)) × (ByteArray × Unit)))) (i : Int) (kn : (Sq ((ByteArray × (ByteArray × Unit)) × (ByteArray × Unit))) → Int → Option R) (ko : (Unit) → Option R) (kr : (Bool) → Option R) (kp : Int → Option R) (φ : R → Option S) : pouchlaw4_AddrPaths_B0 n l1 i (fun l1 i => (kn l1 i).bind φ) (fun a => (ko a).bind φ) (fun a => (kr a).bind φ) (fun a => (kp a).bind φ) = (pouchlaw4_AddrPaths_B0 n l1 i kn ko kr kp).bind φ := by
  unfold pouchlaw4_AddrPaths_B0
  first | (simp only [ite_bind, bind_bind, onL_bind, onX_bind, none_bind]) | rfl
def pouchlaw4_AddrPaths_L0 (n : Nat) : Nat → (Sq ((ByteArray × (ByteArray × Unit)) × (ByteArray × Unit))) → Int → Option (Lx (Unit) (Bool))
  | 0, _, _ => none
  | m + 1, l1, i => pouchlaw4_AddrPaths_B0 n l1 i (fun l1 i => pouchlaw4_AddrPaths_L0 n m l1 i) (fun a => some (.out a)) (fun a => some (.ret a)) (fun p => some (.pan p))
def pouchlaw4_AddrPaths_L0_sp : List Sl := [.dat (.sl (.pair (.pair .str (.pair .str .unit)) (.pair .str .unit))), .top, .top, .dat (.int .i64), .top, .top, .top, .top, .top, .top, .top, .top, .top, .top, .top, .top, .top, .top, .top, .top, .top, .top, .top, .top, .top, .top, .top, .top, .top, .top, .top, .top, .top, .top, .top, .top, .top, .top, .top, .top, .top, .top, .top, .top, .top, .top, .top, .top, .top, .top, .top, .top, .top, .top, .top, .top, .top, .top, .top, .top, .top, .top, .top, .top, .top, .top, .top, .top, .top, .top, .top, .top, .top, .top, .top, .top, .top, .top, .top, .top]
def pouchlaw4_AddrPaths_L0_rp : List RS := []
def pouchlaw4_AddrPaths_L0_out_sp : List Sl := [.top, .top, .top, .top, .top, .top, .top, .top, .top, .top, .top, .top, .top, .top, .top, .top, .top, .top, .top, .top, .top, .top, .top, .top, .top, .top, .top, .top, .top, .top, .top, .top, .top, .top, .top, .top, .top, .top, .top, .top, .top, .top, .top, .top, .top, .top, .top, .top, .top, .top, .top, .top, .top, .top, .top, .top, .top, .top, .top, .top, .top, .top, .top, .top, .top, .top, .top, .top, .top, .top, .top, .top, .top, .top, .top, .top, .top, .top, .top, .top]
def pouchlaw4_AddrPaths_L0_out_rp : List RS := []
def pouchlaw4_AddrPaths_L0_ret_sp : List Sl := [.top, .top, .dat .bool, .top, .top, .top, .top, .top, .top, .top, .top, .top, .top, .top, .top, .top, .top, .top, .top, .top, .top, .top, .top, .top, .top, .top, .top, .top, .top, .top, .top, .top, .top, .top, .top, .top, .top, .top, .top, .top, .top, .top, .top, .top, .top, .top, .top, .top, .top, .top, .top, .top, .top, .top, .top, .top, .top, .top, .top, .top, .top, .top, .top, .top, .top, .top, .top, .top, .top, .top, .top, .top, .top, .top, .top, .top, .top, .top, .top, .top]
def pouchlaw4_AddrPaths_L0_ret_rp : List RS := []
def pouchlaw4_AddrPaths_L0_K (K : XE → List AV → AHeap → Option Out) : Lx (Unit) (Bool) → Option Out := fun x => onL x (fun a => K (.exit 0) (encF (nsOf pouchlaw4_AddrPaths_L0_out_rp ()) pouchlaw4_AddrPaths_L0_out_sp ()) (encH (nsOf pouchlaw4_AddrPaths_L0_out_rp ()) pouchlaw4_AddrPaths_L0_out_rp ())) (fun a => K .ret (encF (nsOf pouchlaw4_AddrPaths_L0_ret_rp ()) pouchlaw4_AddrPaths_L0_ret_sp (a, ())) (encH (nsOf pouchlaw4_AddrPaths_L0_ret_rp ()) pouchlaw4_AddrPaths_L0_ret_rp ())) (fun _ => none)
def pouchlaw4_AddrPaths_B (n : Nat) {R : Type} (l : (Sq ((ByteArray × (ByteArray × Unit)) × (ByteArray × Unit)))) (k : Bool → Option R) : Option R :=
  (pouchlaw4_AddrPaths_L0 n n l (0 : Int)).bind fun x_1 => onL x_1
    (fun a_2 =>
      (pouchlaw4_wakes n).bind fun v6 =>
      k v6)
    (fun a_3 =>
      k a_3)
    (fun _ => none)
def pouchlaw4_AddrPaths (n : Nat) (l : (Sq ((ByteArray × (ByteArray × Unit)) × (ByteArray × Unit)))) : Option Bool := pouchlaw4_AddrPaths_B n l some
theorem pouchlaw4_AddrPaths_N (n : Nat) {R S : Type} (l : (Sq ((ByteArray × (ByteArray × Unit)) × (ByteArray × Unit)))) (k : Bool → Option R) (φ : R → Option S) : pouchlaw4_AddrPaths_B n l (fun a => (k a).bind φ) = (pouchlaw4_AddrPaths_B n l k).bind φ := by
  unfold pouchlaw4_AddrPaths_B
  first | (simp only [ite_bind, bind_bind, onL_bind, onX_bind, none_bind]) | rfl
def pouchlaw4_AddrPaths_hint (n : Nat) : Hint Out := { live := fun c => (cond (Nat.beq c 0) [(0, some (.sl (.pair (.pair .str (.pair .str .unit)) (.pair .str .unit)))), (3, none)] (cond (Nat.beq c 2) [(0, some (.sl (.pair (.pair .str (.pair .str .unit)) (.pair .str .unit)))), (3, none), (4, none)] [])), run := fun c => (cond (Nat.beq c 0) (some (runL pouchlaw4_AddrPaths_L0_sp pouchlaw4_AddrPaths_L0_rp fun σ ρ K => (pouchlaw4_AddrPaths_L0 n n σ.1 σ.2.1).bind (pouchlaw4_AddrPaths_L0_K K))) (cond (Nat.beq c 2) (some (runL pouchlaw4_AddrPaths_L1_sp pouchlaw4_AddrPaths_L1_rp fun σ ρ K => (pouchlaw4_AddrPaths_L1 n n σ.1 σ.2.1 σ.2.2.1).bind (pouchlaw4_AddrPaths_L1_K K))) none)), xm := fun c q => (cond (Nat.beq c 0 && Nat.beq (q.getD 1000000) 0 && q.isSome) (some []) (cond (Nat.beq c 2 && Nat.beq (q.getD 1000000) 2 && q.isSome) (some [(0, some (.sl (.pair (.pair .str (.pair .str .unit)) (.pair .str .unit)))), (3, none)]) (cond (Nat.beq c 3 && q.isNone) (some [(2, none)]) (cond (Nat.beq c 1 && q.isNone) (some [(2, none)]) none)))), sch := fun c => (cond (Nat.beq c 9) (some [(0, 0), (1, 0), (2, 0), (3, 0), (5, 0), (6, 0), (7, 0), (8, 0), (13, 0), (4, 1), (9, 1), (10, 0), (11, 0), (12, 2), (14, 0), (15, 2), (16, 0)]) none) }
theorem pouchlaw4_AddrPaths_L1_E (n : Nat) (K : XE → List AV → AHeap → Option Out) : ∀ (m : Nat) (l2 : (Sq ((ByteArray × (ByteArray × Unit)) × (ByteArray × Unit)))) (i1 : Int) (k0 : Int), loopI tys (callees Out (addr_Path_es n)) (pouchlaw4_AddrPaths_hint n) n (codeAt [1, 0, 1, 0, 0, 1, 0, 0, 1, 1, 0, 0] (bodyOf Tryd.f6)) 2 pouchlaw4_AddrPaths_L1_sp pouchlaw4_AddrPaths_L1_rp K m (l2, (i1, (k0, ()))) () = (pouchlaw4_AddrPaths_L1 n m l2 i1 k0).bind (pouchlaw4_AddrPaths_L1_K K)
  | 0, l2, i1, k0 => by kernel_rfl
  | m + 1, l2, i1, k0 => by
    have h1 : loopI tys (callees Out (addr_Path_es n)) (pouchlaw4_AddrPaths_hint n) n (codeAt [1, 0, 1, 0, 0, 1, 0, 0, 1, 1, 0, 0] (bodyOf Tryd.f6)) 2 pouchlaw4_AddrPaths_L1_sp pouchlaw4_AddrPaths_L1_rp K (m + 1) (l2, (i1, (k0, ()))) () = pouchlaw4_AddrPaths_B1 n l2 i1 k0 (fun (l2 : (Sq ((ByteArray × (ByteArray × Unit)) × (ByteArray × Unit)))) (i1 : Int) (k0 : Int) => loopI tys (callees Out (addr_Path_es n)) (pouchlaw4_AddrPaths_hint n) n (codeAt [1, 0, 1, 0, 0, 1, 0, 0, 1, 1, 0, 0] (bodyOf Tryd.f6)) 2 pouchlaw4_AddrPaths_L1_sp pouchlaw4_AddrPaths_L1_rp K m (l2, (i1, (k0, ()))) ()) (fun a => pouchlaw4_AddrPaths_L1_K K (.out a)) (fun a => pouchlaw4_AddrPaths_L1_K K (.ret a)) (fun p => pouchlaw4_AddrPaths_L1_K K (.pan p)) := by kernel_rfl
    have h2 : (fun (l2 : (Sq ((ByteArray × (ByteArray × Unit)) × (ByteArray × Unit)))) (i1 : Int) (k0 : Int) => loopI tys (callees Out (addr_Path_es n)) (pouchlaw4_AddrPaths_hint n) n (codeAt [1, 0, 1, 0, 0, 1, 0, 0, 1, 1, 0, 0] (bodyOf Tryd.f6)) 2 pouchlaw4_AddrPaths_L1_sp pouchlaw4_AddrPaths_L1_rp K m (l2, (i1, (k0, ()))) ()) = (fun (l2 : (Sq ((ByteArray × (ByteArray × Unit)) × (ByteArray × Unit)))) (i1 : Int) (k0 : Int) => (pouchlaw4_AddrPaths_L1 n m l2 i1 k0).bind (pouchlaw4_AddrPaths_L1_K K)) := funext fun l2 => funext fun i1 => funext fun k0 => pouchlaw4_AddrPaths_L1_E n K m l2 i1 k0
    exact h1.trans ((congrArg (fun z => pouchlaw4_AddrPaths_B1 n l2 i1 k0 z (fun a => pouchlaw4_AddrPaths_L1_K K (.out a)) (fun a => pouchlaw4_AddrPaths_L1_K K (.ret a)) (fun p => pouchlaw4_AddrPaths_L1_K K (.pan p))) h2).trans (pouchlaw4_AddrPaths_B1_N n l2 i1 k0 (fun (l2 : (Sq ((ByteArray × (ByteArray × Unit)) × (ByteArray × Unit)))) (i1 : Int) (k0 : Int) => pouchlaw4_AddrPaths_L1 n m l2 i1 k0) (fun a => some (.out a)) (fun a => some (.ret a)) (fun p => some (.pan p)) (pouchlaw4_AddrPaths_L1_K K)))
theorem pouchlaw4_AddrPaths_L1_ok (n : Nat) : RunOk tys (callees Out (addr_Path_es n)) (pouchlaw4_AddrPaths_hint n) n (codeAt [1, 0, 1, 0, 0, 1, 0, 0, 1, 1, 0, 0] (bodyOf Tryd.f6)) 2 := runOk_of (sp := pouchlaw4_AddrPaths_L1_sp) (rp := pouchlaw4_AddrPaths_L1_rp) (F := fun σ ρ K => (pouchlaw4_AddrPaths_L1 n n σ.1 σ.2.1 σ.2.2.1).bind (pouchlaw4_AddrPaths_L1_K K)) (by kernel_rfl) fun K σ ρ => pouchlaw4_AddrPaths_L1_E n K n σ.1 σ.2.1 σ.2.2.1
theorem pouchlaw4_AddrPaths_L0_E (n : Nat) (K : XE → List AV → AHeap → Option Out) : ∀ (m : Nat) (l1 : (Sq ((ByteArray × (ByteArray × Unit)) × (ByteArray × Unit)))) (i : Int), loopI tys (callees Out (addr_Path_es n)) (pouchlaw4_AddrPaths_hint n) n (codeAt [1, 0, 1, 0, 0] (bodyOf Tryd.f6)) 0 pouchlaw4_AddrPaths_L0_sp pouchlaw4_AddrPaths_L0_rp K m (l1, (i, ())) () = (pouchlaw4_AddrPaths_L0 n m l1 i).bind (pouchlaw4_AddrPaths_L0_K K)
  | 0, l1, i => by kernel_rfl
  | m + 1, l1, i => by
    have h1 : loopI tys (callees Out (addr_Path_es n)) (pouchlaw4_AddrPaths_hint n) n (codeAt [1, 0, 1, 0, 0] (bodyOf Tryd.f6)) 0 pouchlaw4_AddrPaths_L0_sp pouchlaw4_AddrPaths_L0_rp K (m + 1) (l1, (i, ())) () = pouchlaw4_AddrPaths_B0 n l1 i (fun (l1 : (Sq ((ByteArray × (ByteArray × Unit)) × (ByteArray × Unit)))) (i : Int) => loopI tys (callees Out (addr_Path_es n)) (pouchlaw4_AddrPaths_hint n) n (codeAt [1, 0, 1, 0, 0] (bodyOf Tryd.f6)) 0 pouchlaw4_AddrPaths_L0_sp pouchlaw4_AddrPaths_L0_rp K m (l1, (i, ())) ()) (fun a => pouchlaw4_AddrPaths_L0_K K (.out a)) (fun a => pouchlaw4_AddrPaths_L0_K K (.ret a)) (fun p => pouchlaw4_AddrPaths_L0_K K (.pan p)) := by kernel_rfl
    have h2 : (fun (l1 : (Sq ((ByteArray × (ByteArray × Unit)) × (ByteArray × Unit)))) (i : Int) => loopI tys (callees Out (addr_Path_es n)) (pouchlaw4_AddrPaths_hint n) n (codeAt [1, 0, 1, 0, 0] (bodyOf Tryd.f6)) 0 pouchlaw4_AddrPaths_L0_sp pouchlaw4_AddrPaths_L0_rp K m (l1, (i, ())) ()) = (fun (l1 : (Sq ((ByteArray × (ByteArray × Unit)) × (ByteArray × Unit)))) (i : Int) => (pouchlaw4_AddrPaths_L0 n m l1 i).bind (pouchlaw4_AddrPaths_L0_K K)) := funext fun l1 => funext fun i => pouchlaw4_AddrPaths_L0_E n K m l1 i
    exact h1.trans ((congrArg (fun z => pouchlaw4_AddrPaths_B0 n l1 i z (fun a => pouchlaw4_AddrPaths_L0_K K (.out a)) (fun a => pouchlaw4_AddrPaths_L0_K K (.ret a)) (fun p => pouchlaw4_AddrPaths_L0_K K (.pan p))) h2).trans (pouchlaw4_AddrPaths_B0_N n l1 i (fun (l1 : (Sq ((ByteArray × (ByteArray × Unit)) × (ByteArray × Unit)))) (i : Int) => pouchlaw4_AddrPaths_L0 n m l1 i) (fun a => some (.out a)) (fun a => some (.ret a)) (fun p => some (.pan p)) (pouchlaw4_AddrPaths_L0_K K)))
theorem pouchlaw4_AddrPaths_L0_ok (n : Nat) : RunOk tys (callees Out (addr_Path_es n)) (pouchlaw4_AddrPaths_hint n) n (codeAt [1, 0, 1, 0, 0] (bodyOf Tryd.f6)) 0 := runOk_of (sp := pouchlaw4_AddrPaths_L0_sp) (rp := pouchlaw4_AddrPaths_L0_rp) (F := fun σ ρ K => (pouchlaw4_AddrPaths_L0 n n σ.1 σ.2.1).bind (pouchlaw4_AddrPaths_L0_K K)) (by kernel_rfl) fun K σ ρ => pouchlaw4_AddrPaths_L0_E n K n σ.1 σ.2.1
theorem pouchlaw4_AddrPaths_runs (n : Nat) : RunsOk tys (callees Out (addr_Path_es n)) (pouchlaw4_AddrPaths_hint n) n (bodyOf Tryd.f6) 0 := ⟨trivial, ⟨⟨trivial, ⟨pouchlaw4_AddrPaths_L0_ok n, ⟨⟨trivial, ⟨trivial, trivial⟩⟩, ⟨⟨⟨trivial, ⟨⟨trivial, trivial⟩, trivial⟩⟩, ⟨trivial, ⟨pouchlaw4_AddrPaths_L1_ok n, ⟨⟨trivial, ⟨trivial, trivial⟩⟩, ⟨⟨trivial, ⟨trivial, ⟨trivial, ⟨⟨trivial, ⟨trivial, trivial⟩⟩, ⟨trivial, ⟨trivial, ⟨⟨trivial, trivial⟩, trivial⟩⟩⟩⟩⟩⟩⟩, trivial⟩⟩⟩⟩⟩, trivial⟩⟩⟩⟩, ⟨trivial, trivial⟩⟩⟩
theorem pouchlaw4_AddrPaths_at : Tryd.prog.funcs[6]? = some Tryd.f6 := by kernel_rfl
theorem pouchlaw4_AddrPaths_ent (n : Nat) : Enters Tryd.prog 6 := enters_of (c := bodyOf Tryd.f6) pouchlaw4_AddrPaths_at (by kernel_rfl) (by kernel_rfl)
theorem pouchlaw4_AddrPaths_E (n : Nat) (l : (Sq ((ByteArray × (ByteArray × Unit)) × (ByteArray × Unit)))) : fnA tys (callees Out (addr_Path_es n)) (pouchlaw4_AddrPaths_hint n) n Tryd.f6 (encL (.pair (.sl (.pair (.pair .str (.pair .str .unit)) (.pair .str .unit))) .unit) (l, ())) [] (soloA fun v => some (.ret v)) (soloA fun v => some (.pan v)) = pouchlaw4_AddrPaths_B n l (fun y => some (.ret (encR (.one .bool) y))) := by kernel_rfl
theorem pouchlaw4_AddrPaths_ok (n : Nat) : EntryOk Tryd.prog gl ⟨6, pcT (.pair (.sl (.pair (.pair .str (.pair .str .unit)) (.pair .str .unit))) .unit) (.one .bool) (fun xs => pouchlaw4_AddrPaths n xs.1), none, none⟩ :=
  pcT_ok (pouchlaw4_AddrPaths_ent n) fun xs y h => ans_of_fn tys_ok (addr_Path_es_ok n) mixed (hint := pouchlaw4_AddrPaths_hint n) (n := n) (fn := Tryd.f6) pouchlaw4_AddrPaths_at (fun c hc => by
    have : bodyOf Tryd.f6 = c := by unfold bodyOf; rw [hc]; rfl
    exact this ▸ pouchlaw4_AddrPaths_runs n) (run_ret (φ := (fun y => some (Out.ret (encR (.one .bool) y)))) ((pouchlaw4_AddrPaths_E n xs.1).trans (pouchlaw4_AddrPaths_N (R := Bool) (S := Out) n xs.1 some (fun y => some (Out.ret (encR (.one .bool) y))))) h)
def pouchlaw4_AddrPaths_es (n : Nat) : List Entry := ⟨6, pcT (.pair (.sl (.pair (.pair .str (.pair .str .unit)) (.pair .str .unit))) .unit) (.one .bool) (fun xs => pouchlaw4_AddrPaths n xs.1), none, none⟩ :: addr_Path_es n
theorem pouchlaw4_AddrPaths_es_ok (n : Nat) : AllOk Tryd.prog gl (pouchlaw4_AddrPaths_es n) := .cons (pouchlaw4_AddrPaths_ok n) (addr_Path_es_ok n)

/- pouch/pouchref4.Text -/
def pouchref4_Text_B (n : Nat) {R : Type} (m0 : (ByteArray × (ByteArray × Unit))) (k : ByteArray → Option R) : Option R :=
  if strFits m0.1 (⟨#[64]⟩ : ByteArray) = true then
    if strFits (m0.1 ++ (⟨#[64]⟩ : ByteArray)) m0.2.1 = true then
      k ((m0.1 ++ (⟨#[64]⟩ : ByteArray)) ++ m0.2.1)
    else
      none
  else
    none
def pouchref4_Text (n : Nat) (m0 : (ByteArray × (ByteArray × Unit))) : Option ByteArray := pouchref4_Text_B n m0 some
theorem pouchref4_Text_N (n : Nat) {R S : Type} (m0 : (ByteArray × (ByteArray × Unit))) (k : ByteArray → Option R) (φ : R → Option S) : pouchref4_Text_B n m0 (fun a => (k a).bind φ) = (pouchref4_Text_B n m0 k).bind φ := by
  unfold pouchref4_Text_B
  first | (simp only [ite_bind, bind_bind, onL_bind, onX_bind, none_bind]) | rfl
def pouchref4_Text_hint (n : Nat) : Hint Out := { live := fun c => [], run := fun c => none, xm := fun c q => none }
theorem pouchref4_Text_runs (n : Nat) : RunsOk tys (callees Out (pouchlaw4_AddrPaths_es n)) (pouchref4_Text_hint n) n (bodyOf Tryd.f23) 0 := ⟨trivial, ⟨trivial, trivial⟩⟩
theorem pouchref4_Text_at : Tryd.prog.funcs[23]? = some Tryd.f23 := by kernel_rfl
theorem pouchref4_Text_ent (n : Nat) : Enters Tryd.prog 23 := enters_of (c := bodyOf Tryd.f23) pouchref4_Text_at (by kernel_rfl) (by kernel_rfl)
theorem pouchref4_Text_E (n : Nat) (m0 : (ByteArray × (ByteArray × Unit))) : fnA tys (callees Out (pouchlaw4_AddrPaths_es n)) (pouchref4_Text_hint n) n Tryd.f23 (encL (.pair (.pair .str (.pair .str .unit)) .unit) (m0, ())) [] (soloA fun v => some (.ret v)) (soloA fun v => some (.pan v)) = pouchref4_Text_B n m0 (fun y => some (.ret (encR (.one .str) y))) := by kernel_rfl
theorem pouchref4_Text_ok (n : Nat) : EntryOk Tryd.prog gl ⟨23, pcT (.pair (.pair .str (.pair .str .unit)) .unit) (.one .str) (fun xs => pouchref4_Text n xs.1), none, none⟩ :=
  pcT_ok (pouchref4_Text_ent n) fun xs y h => ans_of_fn tys_ok (pouchlaw4_AddrPaths_es_ok n) mixed (hint := pouchref4_Text_hint n) (n := n) (fn := Tryd.f23) pouchref4_Text_at (fun c hc => by
    have : bodyOf Tryd.f23 = c := by unfold bodyOf; rw [hc]; rfl
    exact this ▸ pouchref4_Text_runs n) (run_ret (φ := (fun y => some (Out.ret (encR (.one .str) y)))) ((pouchref4_Text_E n xs.1).trans (pouchref4_Text_N (R := ByteArray) (S := Out) n xs.1 some (fun y => some (Out.ret (encR (.one .str) y))))) h)
def pouchref4_Text_es (n : Nat) : List Entry := ⟨23, pcT (.pair (.pair .str (.pair .str .unit)) .unit) (.one .str) (fun xs => pouchref4_Text n xs.1), none, none⟩ :: pouchlaw4_AddrPaths_es n
theorem pouchref4_Text_es_ok (n : Nat) : AllOk Tryd.prog gl (pouchref4_Text_es n) := .cons (pouchref4_Text_ok n) (pouchlaw4_AddrPaths_es_ok n)

/- pouch/addr.Lay -/
def addr_Lay_B (n : Nat) {R : Type} (m0 : (ByteArray × (ByteArray × Unit))) (k : ByteArray → Option R) : Option R :=
  if strFits m0.1 (⟨#[64]⟩ : ByteArray) = true then
    if strFits (m0.1 ++ (⟨#[64]⟩ : ByteArray)) m0.2.1 = true then
      k ((m0.1 ++ (⟨#[64]⟩ : ByteArray)) ++ m0.2.1)
    else
      none
  else
    none
def addr_Lay (n : Nat) (m0 : (ByteArray × (ByteArray × Unit))) : Option ByteArray := addr_Lay_B n m0 some
theorem addr_Lay_N (n : Nat) {R S : Type} (m0 : (ByteArray × (ByteArray × Unit))) (k : ByteArray → Option R) (φ : R → Option S) : addr_Lay_B n m0 (fun a => (k a).bind φ) = (addr_Lay_B n m0 k).bind φ := by
  unfold addr_Lay_B
  first | (simp only [ite_bind, bind_bind, onL_bind, onX_bind, none_bind]) | rfl
def addr_Lay_hint (n : Nat) : Hint Out := { live := fun c => [], run := fun c => none, xm := fun c q => none }
theorem addr_Lay_runs (n : Nat) : RunsOk tys (callees Out (pouchref4_Text_es n)) (addr_Lay_hint n) n (bodyOf Tryd.f37) 0 := ⟨trivial, ⟨trivial, trivial⟩⟩
theorem addr_Lay_at : Tryd.prog.funcs[37]? = some Tryd.f37 := by kernel_rfl
theorem addr_Lay_ent (n : Nat) : Enters Tryd.prog 37 := enters_of (c := bodyOf Tryd.f37) addr_Lay_at (by kernel_rfl) (by kernel_rfl)
theorem addr_Lay_E (n : Nat) (m0 : (ByteArray × (ByteArray × Unit))) : fnA tys (callees Out (pouchref4_Text_es n)) (addr_Lay_hint n) n Tryd.f37 (encL (.pair (.pair .str (.pair .str .unit)) .unit) (m0, ())) [] (soloA fun v => some (.ret v)) (soloA fun v => some (.pan v)) = addr_Lay_B n m0 (fun y => some (.ret (encR (.one .str) y))) := by kernel_rfl
theorem addr_Lay_ok (n : Nat) : EntryOk Tryd.prog gl ⟨37, pcT (.pair (.pair .str (.pair .str .unit)) .unit) (.one .str) (fun xs => addr_Lay n xs.1), none, none⟩ :=
  pcT_ok (addr_Lay_ent n) fun xs y h => ans_of_fn tys_ok (pouchref4_Text_es_ok n) mixed (hint := addr_Lay_hint n) (n := n) (fn := Tryd.f37) addr_Lay_at (fun c hc => by
    have : bodyOf Tryd.f37 = c := by unfold bodyOf; rw [hc]; rfl
    exact this ▸ addr_Lay_runs n) (run_ret (φ := (fun y => some (Out.ret (encR (.one .str) y)))) ((addr_Lay_E n xs.1).trans (addr_Lay_N (R := ByteArray) (S := Out) n xs.1 some (fun y => some (Out.ret (encR (.one .str) y))))) h)
def addr_Lay_es (n : Nat) : List Entry := ⟨37, pcT (.pair (.pair .str (.pair .str .unit)) .unit) (.one .str) (fun xs => addr_Lay n xs.1), none, none⟩ :: pouchref4_Text_es n
theorem addr_Lay_es_ok (n : Nat) : AllOk Tryd.prog gl (addr_Lay_es n) := .cons (addr_Lay_ok n) (pouchref4_Text_es_ok n)

/- pouch/addr.May -/
def addr_May_B (n : Nat) {R : Type} (m0 : (ByteArray × (ByteArray × Unit))) (k : Bool → Option R) : Option R :=
  (addr_Lay n (m0.1, (m0.2.1, ()))).bind fun v =>
  (addr_Parse n v).bind fun v1 =>
  if (v1.2.1 == (0 : Int)) = true then
    k ((v1.1.1.toList == m0.1.toList) && ((v1.1.2.1.toList == m0.2.1.toList) && true))
  else
    k false
def addr_May (n : Nat) (m0 : (ByteArray × (ByteArray × Unit))) : Option Bool := addr_May_B n m0 some
theorem addr_May_N (n : Nat) {R S : Type} (m0 : (ByteArray × (ByteArray × Unit))) (k : Bool → Option R) (φ : R → Option S) : addr_May_B n m0 (fun a => (k a).bind φ) = (addr_May_B n m0 k).bind φ := by
  unfold addr_May_B
  first | (simp only [ite_bind, bind_bind, onL_bind, onX_bind, none_bind]) | rfl
def addr_May_hint (n : Nat) : Hint Out := { live := fun c => [], run := fun c => none, xm := fun c q => none }
theorem addr_May_runs (n : Nat) : RunsOk tys (callees Out (addr_Lay_es n)) (addr_May_hint n) n (bodyOf Tryd.f35) 0 := ⟨trivial, ⟨trivial, ⟨trivial, trivial⟩⟩⟩
theorem addr_May_at : Tryd.prog.funcs[35]? = some Tryd.f35 := by kernel_rfl
theorem addr_May_ent (n : Nat) : Enters Tryd.prog 35 := enters_of (c := bodyOf Tryd.f35) addr_May_at (by kernel_rfl) (by kernel_rfl)
theorem addr_May_E (n : Nat) (m0 : (ByteArray × (ByteArray × Unit))) : fnA tys (callees Out (addr_Lay_es n)) (addr_May_hint n) n Tryd.f35 (encL (.pair (.pair .str (.pair .str .unit)) .unit) (m0, ())) [] (soloA fun v => some (.ret v)) (soloA fun v => some (.pan v)) = addr_May_B n m0 (fun y => some (.ret (encR (.one .bool) y))) := by kernel_rfl
theorem addr_May_ok (n : Nat) : EntryOk Tryd.prog gl ⟨35, pcT (.pair (.pair .str (.pair .str .unit)) .unit) (.one .bool) (fun xs => addr_May n xs.1), none, none⟩ :=
  pcT_ok (addr_May_ent n) fun xs y h => ans_of_fn tys_ok (addr_Lay_es_ok n) mixed (hint := addr_May_hint n) (n := n) (fn := Tryd.f35) addr_May_at (fun c hc => by
    have : bodyOf Tryd.f35 = c := by unfold bodyOf; rw [hc]; rfl
    exact this ▸ addr_May_runs n) (run_ret (φ := (fun y => some (Out.ret (encR (.one .bool) y)))) ((addr_May_E n xs.1).trans (addr_May_N (R := Bool) (S := Out) n xs.1 some (fun y => some (Out.ret (encR (.one .bool) y))))) h)
def addr_May_es (n : Nat) : List Entry := ⟨35, pcT (.pair (.pair .str (.pair .str .unit)) .unit) (.one .bool) (fun xs => addr_May n xs.1), none, none⟩ :: addr_Lay_es n
theorem addr_May_es_ok (n : Nat) : AllOk Tryd.prog gl (addr_May_es n) := .cons (addr_May_ok n) (addr_Lay_es_ok n)

/- pouch/addr.Text -/
def addr_Text_B (n : Nat) {R : Type} (m0 : (ByteArray × (ByteArray × Unit))) (k : (ByteArray × Int × Unit) → Option R) : Option R :=
  (addr_May n (m0.1, (m0.2.1, ()))).bind fun v =>
  if (!v) = true then
    k ((⟨#[]⟩ : ByteArray), ((1 : Int), ()))
  else
    (addr_Lay n (m0.1, (m0.2.1, ()))).bind fun v1 =>
    k (v1, ((0 : Int), ()))
def addr_Text (n : Nat) (m0 : (ByteArray × (ByteArray × Unit))) : Option (ByteArray × Int × Unit) := addr_Text_B n m0 some
theorem addr_Text_N (n : Nat) {R S : Type} (m0 : (ByteArray × (ByteArray × Unit))) (k : (ByteArray × Int × Unit) → Option R) (φ : R → Option S) : addr_Text_B n m0 (fun a => (k a).bind φ) = (addr_Text_B n m0 k).bind φ := by
  unfold addr_Text_B
  first | (simp only [ite_bind, bind_bind, onL_bind, onX_bind, none_bind]) | rfl
def addr_Text_hint (n : Nat) : Hint Out := { live := fun c => [], run := fun c => none, xm := fun c q => none }
theorem addr_Text_runs (n : Nat) : RunsOk tys (callees Out (addr_May_es n)) (addr_Text_hint n) n (bodyOf Tryd.f24) 0 := ⟨trivial, ⟨⟨trivial, ⟨⟨trivial, trivial⟩, trivial⟩⟩, ⟨trivial, trivial⟩⟩⟩
theorem addr_Text_at : Tryd.prog.funcs[24]? = some Tryd.f24 := by kernel_rfl
theorem addr_Text_ent (n : Nat) : Enters Tryd.prog 24 := enters_of (c := bodyOf Tryd.f24) addr_Text_at (by kernel_rfl) (by kernel_rfl)
theorem addr_Text_E (n : Nat) (m0 : (ByteArray × (ByteArray × Unit))) : fnA tys (callees Out (addr_May_es n)) (addr_Text_hint n) n Tryd.f24 (encL (.pair (.pair .str (.pair .str .unit)) .unit) (m0, ())) [] (soloA fun v => some (.ret v)) (soloA fun v => some (.pan v)) = addr_Text_B n m0 (fun y => some (.ret (encR (.many (.pair .str (.pair (.int .i64) .unit))) y))) := by kernel_rfl
theorem addr_Text_ok (n : Nat) : EntryOk Tryd.prog gl ⟨24, pcT (.pair (.pair .str (.pair .str .unit)) .unit) (.many (.pair .str (.pair (.int .i64) .unit))) (fun xs => addr_Text n xs.1), none, none⟩ :=
  pcT_ok (addr_Text_ent n) fun xs y h => ans_of_fn tys_ok (addr_May_es_ok n) mixed (hint := addr_Text_hint n) (n := n) (fn := Tryd.f24) addr_Text_at (fun c hc => by
    have : bodyOf Tryd.f24 = c := by unfold bodyOf; rw [hc]; rfl
    exact this ▸ addr_Text_runs n) (run_ret (φ := (fun y => some (Out.ret (encR (.many (.pair .str (.pair (.int .i64) .unit))) y)))) ((addr_Text_E n xs.1).trans (addr_Text_N (R := (ByteArray × Int × Unit)) (S := Out) n xs.1 some (fun y => some (Out.ret (encR (.many (.pair .str (.pair (.int .i64) .unit))) y))))) h)
def addr_Text_es (n : Nat) : List Entry := ⟨24, pcT (.pair (.pair .str (.pair .str .unit)) .unit) (.many (.pair .str (.pair (.int .i64) .unit))) (fun xs => addr_Text n xs.1), none, none⟩ :: addr_May_es n
theorem addr_Text_es_ok (n : Nat) : AllOk Tryd.prog gl (addr_Text_es n) := .cons (addr_Text_ok n) (addr_May_es_ok n)

/- pouch/addr.Check -/
def addr_Check_B (n : Nat) {R : Type} (m0 : (ByteArray × (ByteArray × Unit))) (k : Int → Option R) : Option R :=
  (addr_May n (m0.1, (m0.2.1, ()))).bind fun v =>
  if (!v) = true then
    k (1 : Int)
  else
    k (0 : Int)
def addr_Check (n : Nat) (m0 : (ByteArray × (ByteArray × Unit))) : Option Int := addr_Check_B n m0 some
theorem addr_Check_N (n : Nat) {R S : Type} (m0 : (ByteArray × (ByteArray × Unit))) (k : Int → Option R) (φ : R → Option S) : addr_Check_B n m0 (fun a => (k a).bind φ) = (addr_Check_B n m0 k).bind φ := by
  unfold addr_Check_B
  first | (simp only [ite_bind, bind_bind, onL_bind, onX_bind, none_bind]) | rfl
def addr_Check_hint (n : Nat) : Hint Out := { live := fun c => [], run := fun c => none, xm := fun c q => none }
theorem addr_Check_runs (n : Nat) : RunsOk tys (callees Out (addr_Text_es n)) (addr_Check_hint n) n (bodyOf Tryd.f20) 0 := ⟨trivial, ⟨⟨trivial, ⟨⟨trivial, trivial⟩, trivial⟩⟩, ⟨trivial, trivial⟩⟩⟩
theorem addr_Check_at : Tryd.prog.funcs[20]? = some Tryd.f20 := by kernel_rfl
theorem addr_Check_ent (n : Nat) : Enters Tryd.prog 20 := enters_of (c := bodyOf Tryd.f20) addr_Check_at (by kernel_rfl) (by kernel_rfl)
theorem addr_Check_E (n : Nat) (m0 : (ByteArray × (ByteArray × Unit))) : fnA tys (callees Out (addr_Text_es n)) (addr_Check_hint n) n Tryd.f20 (encL (.pair (.pair .str (.pair .str .unit)) .unit) (m0, ())) [] (soloA fun v => some (.ret v)) (soloA fun v => some (.pan v)) = addr_Check_B n m0 (fun y => some (.ret (encR (.one (.int .i64)) y))) := by kernel_rfl
theorem addr_Check_ok (n : Nat) : EntryOk Tryd.prog gl ⟨20, pcT (.pair (.pair .str (.pair .str .unit)) .unit) (.one (.int .i64)) (fun xs => addr_Check n xs.1), none, none⟩ :=
  pcT_ok (addr_Check_ent n) fun xs y h => ans_of_fn tys_ok (addr_Text_es_ok n) mixed (hint := addr_Check_hint n) (n := n) (fn := Tryd.f20) addr_Check_at (fun c hc => by
    have : bodyOf Tryd.f20 = c := by unfold bodyOf; rw [hc]; rfl
    exact this ▸ addr_Check_runs n) (run_ret (φ := (fun y => some (Out.ret (encR (.one (.int .i64)) y)))) ((addr_Check_E n xs.1).trans (addr_Check_N (R := Int) (S := Out) n xs.1 some (fun y => some (Out.ret (encR (.one (.int .i64)) y))))) h)
def addr_Check_es (n : Nat) : List Entry := ⟨20, pcT (.pair (.pair .str (.pair .str .unit)) .unit) (.one (.int .i64)) (fun xs => addr_Check n xs.1), none, none⟩ :: addr_Text_es n
theorem addr_Check_es_ok (n : Nat) : AllOk Tryd.prog gl (addr_Check_es n) := .cons (addr_Check_ok n) (addr_Text_es_ok n)

/- pouch/pouchlaw4.AddrTexts -/
def pouchlaw4_AddrTexts_B0 (n : Nat) {R : Type} (l1 : (Sq ((ByteArray × (ByteArray × Unit)) × (ByteArray × Unit)))) (i : Int) (kn : (Sq ((ByteArray × (ByteArray × Unit)) × (ByteArray × Unit))) → Int → Option R) (ko : (Unit) → Option R) (kr : (Bool) → Option R) (kp : Int → Option R) : Option R :=
  if (decide (i < (l1.n : Int))) = true then
    if (decide (i < (20 : Int))) = true then
      if 0 ≤ i ∧ i < (l1.n : Int) then
        (pouchlaw4_heavy n (((((l1.at' (Int.toNat i))).1).1, (((((l1.at' (Int.toNat i))).1).2).1, ())), ((((l1.at' (Int.toNat i))).2).1, ()))).bind fun v =>
        if v = true then
          kr true
        else
          if 0 ≤ i ∧ i < (l1.n : Int) then
            (pouchref4_May n ((((l1.at' (Int.toNat i))).1).1, (((((l1.at' (Int.toNat i))).1).2).1, ()))).bind fun v1 =>
            if v1 = true then
              if 0 ≤ i ∧ i < (l1.n : Int) then
                (pouchref4_Text n ((((l1.at' (Int.toNat i))).1).1, (((((l1.at' (Int.toNat i))).1).2).1, ()))).bind fun v2 =>
                if 0 ≤ i ∧ i < (l1.n : Int) then
                  (addr_Text n ((((l1.at' (Int.toNat i))).1).1, (((((l1.at' (Int.toNat i))).1).2).1, ()))).bind fun v3 =>
                  if 0 ≤ i ∧ i < (l1.n : Int) then
                    (addr_Check n ((((l1.at' (Int.toNat i))).1).1, (((((l1.at' (Int.toNat i))).1).2).1, ()))).bind fun v4 =>
                    (pouchlaw4_num n v4).bind fun v5 =>
                    if (v5 != (0 : Int)) = false then
                      (pouchlaw4_num n v3.2.1).bind fun v6 =>
                      if (v6 != (0 : Int)) = false then
                        if (!(v3.1.toList == v2.toList)) = true then
                          kr false
                        else
                          kn l1 (IntKind.wrap .i64 (i + (1 : Int)))
                      else
                        kr false
                    else
                      kr false
                  else
                    none
                else
                  none
              else
                none
            else
              if 0 ≤ i ∧ i < (l1.n : Int) then
                (addr_Text n ((((l1.at' (Int.toNat i))).1).1, (((((l1.at' (Int.toNat i))).1).2).1, ()))).bind fun v7 =>
                if 0 ≤ i ∧ i < (l1.n : Int) then
                  (addr_Check n ((((l1.at' (Int.toNat i))).1).1, (((((l1.at' (Int.toNat i))).1).2).1, ()))).bind fun v8 =>
                  (pouchlaw4_num n v8).bind fun v9 =>
                  if (v9 != (1 : Int)) = false then
                    (pouchlaw4_num n v7.2.1).bind fun v10 =>
                    if (v10 != (1 : Int)) = false then
                      if (!(v7.1.toList == (⟨#[]⟩ : ByteArray).toList)) = true then
                        kr false
                      else
                        kn l1 (IntKind.wrap .i64 (i + (1 : Int)))
                    else
                      kr false
                  else
                    kr false
                else
                  none
              else
                none
          else
            none
      else
        none
    else
      ko ()
  else
    ko ()
theorem pouchlaw4_AddrTexts_B0_N (n : Nat) {R S : Type} (l1 : (Sq ((ByteArray × (ByteArray × Unit)) × (ByteArray × Unit)))) (i : Int) (kn : (Sq ((ByteArray × (ByteArray × Unit)) × (ByteArray × Unit))) → Int → Option R) (ko : (Unit) → Option R) (kr : (Bool) → Option R) (kp : Int → Option R) (φ : R → Option S) : pouchlaw4_AddrTexts_B0 n l1 i (fun l1 i => (kn l1 i).bind φ) (fun a => (ko a).bind φ) (fun a => (kr a).bind φ) (fun a => (kp a).bind φ) = (pouchlaw4_AddrTexts_B0 n l1 i kn ko kr kp).bind φ := by
  unfold pouchlaw4_AddrTexts_B0
  first | (simp only [ite_bind, bind_bind, onL_bind, onX_bind, none_bind]) | rfl
def pouchlaw4_AddrTexts_L0 (n : Nat) : Nat → (Sq ((ByteArray × (ByteArray × Unit)) × (ByteArray × Unit))) → Int → Option (Lx (Unit) (Bool))
  | 0, _, _ => none
  | m + 1, l1, i => pouchlaw4_AddrTexts_B0 n l1 i (fun l1 i => pouchlaw4_AddrTexts_L0 n m l1 i) (fun a => some (.out a)) (fun a => some (.ret a)) (fun p => some (.pan p))
def pouchlaw4_AddrTexts_L0_sp : List Sl := [.dat (.sl (.pair (.pair .str (.pair .str .unit)) (.pair .str .unit))), .top, .top, .dat (.int .i64), .top, .top, .top, .top, .top, .top, .top, .top, .top, .top, .top, .top, .top, .top, .top, .top, .top, .top, .top, .top, .top, .top, .top, .top, .top, .top, .top, .top, .top, .top, .top, .top, .top, .top, .top, .top, .top, .top, .top, .top, .top, .top, .top, .top, .top, .top, .top, .top, .top, .top, .top, .top, .top, .top, .top, .top, .top, .top, .top, .top, .top]
def pouchlaw4_AddrTexts_L0_rp : List RS := []
def pouchlaw4_AddrTexts_L0_out_sp : List Sl := [.top, .top, .top, .top, .top, .top, .top, .top, .top, .top, .top, .top, .top, .top, .top, .top, .top, .top, .top, .top, .top, .top, .top, .top, .top, .top, .top, .top, .top, .top, .top, .top, .top, .top, .top, .top, .top, .top, .top, .top, .top, .top, .top, .top, .top, .top, .top, .top, .top, .top, .top, .top, .top, .top, .top, .top, .top, .top, .top, .top, .top, .top, .top, .top, .top]
def pouchlaw4_AddrTexts_L0_out_rp : List RS := []
def pouchlaw4_AddrTexts_L0_ret_sp : List Sl := [.top, .top, .dat .bool, .top, .top, .top, .top, .top, .top, .top, .top, .top, .top, .top, .top, .top, .top, .top, .top, .top, .top, .top, .top, .top, .top, .top, .top, .top, .top, .top, .top, .top, .top, .top, .top, .top, .top, .top, .top, .top, .top, .top, .top, .top, .top, .top, .top, .top, .top, .top, .top, .top, .top, .top, .top, .top, .top, .top, .top, .top, .top, .top, .top, .top, .top]
def pouchlaw4_AddrTexts_L0_ret_rp : List RS := []
def pouchlaw4_AddrTexts_L0_K (K : XE → List AV → AHeap → Option Out) : Lx (Unit) (Bool) → Option Out := fun x => onL x (fun a => K (.exit 0) (encF (nsOf pouchlaw4_AddrTexts_L0_out_rp ()) pouchlaw4_AddrTexts_L0_out_sp ()) (encH (nsOf pouchlaw4_AddrTexts_L0_out_rp ()) pouchlaw4_AddrTexts_L0_out_rp ())) (fun a => K .ret (encF (nsOf pouchlaw4_AddrTexts_L0_ret_rp ()) pouchlaw4_AddrTexts_L0_ret_sp (a, ())) (encH (nsOf pouchlaw4_AddrTexts_L0_ret_rp ()) pouchlaw4_AddrTexts_L0_ret_rp ())) (fun _ => none)
def pouchlaw4_AddrTexts_B (n : Nat) {R : Type} (l : (Sq ((ByteArray × (ByteArray × Unit)) × (ByteArray × Unit)))) (k : Bool → Option R) : Option R :=
  (pouchlaw4_AddrTexts_L0 n n l (0 : Int)).bind fun x_1 => onL x_1
    (fun a_2 =>
      (pouchlaw4_wakes n).bind fun v11 =>
      k v11)
    (fun a_3 =>
      k a_3)
    (fun _ => none)
def pouchlaw4_AddrTexts (n : Nat) (l : (Sq ((ByteArray × (ByteArray × Unit)) × (ByteArray × Unit)))) : Option Bool := pouchlaw4_AddrTexts_B n l some
theorem pouchlaw4_AddrTexts_N (n : Nat) {R S : Type} (l : (Sq ((ByteArray × (ByteArray × Unit)) × (ByteArray × Unit)))) (k : Bool → Option R) (φ : R → Option S) : pouchlaw4_AddrTexts_B n l (fun a => (k a).bind φ) = (pouchlaw4_AddrTexts_B n l k).bind φ := by
  unfold pouchlaw4_AddrTexts_B
  first | (simp only [ite_bind, bind_bind, onL_bind, onX_bind, none_bind]) | rfl
def pouchlaw4_AddrTexts_hint (n : Nat) : Hint Out := { live := fun c => (cond (Nat.beq c 0) [(0, some (.sl (.pair (.pair .str (.pair .str .unit)) (.pair .str .unit)))), (3, none)] []), run := fun c => (cond (Nat.beq c 0) (some (runL pouchlaw4_AddrTexts_L0_sp pouchlaw4_AddrTexts_L0_rp fun σ ρ K => (pouchlaw4_AddrTexts_L0 n n σ.1 σ.2.1).bind (pouchlaw4_AddrTexts_L0_K K))) none), xm := fun c q => (cond (Nat.beq c 0 && Nat.beq (q.getD 1000000) 0 && q.isSome) (some []) (cond (Nat.beq c 1 && q.isNone) (some [(2, none)]) none)) }
theorem pouchlaw4_AddrTexts_L0_E (n : Nat) (K : XE → List AV → AHeap → Option Out) : ∀ (m : Nat) (l1 : (Sq ((ByteArray × (ByteArray × Unit)) × (ByteArray × Unit)))) (i : Int), loopI tys (callees Out (addr_Check_es n)) (pouchlaw4_AddrTexts_hint n) n (codeAt [1, 0, 1, 0, 0] (bodyOf Tryd.f8)) 0 pouchlaw4_AddrTexts_L0_sp pouchlaw4_AddrTexts_L0_rp K m (l1, (i, ())) () = (pouchlaw4_AddrTexts_L0 n m l1 i).bind (pouchlaw4_AddrTexts_L0_K K)
  | 0, l1, i => by kernel_rfl
  | m + 1, l1, i => by
    have h1 : loopI tys (callees Out (addr_Check_es n)) (pouchlaw4_AddrTexts_hint n) n (codeAt [1, 0, 1, 0, 0] (bodyOf Tryd.f8)) 0 pouchlaw4_AddrTexts_L0_sp pouchlaw4_AddrTexts_L0_rp K (m + 1) (l1, (i, ())) () = pouchlaw4_AddrTexts_B0 n l1 i (fun (l1 : (Sq ((ByteArray × (ByteArray × Unit)) × (ByteArray × Unit)))) (i : Int) => loopI tys (callees Out (addr_Check_es n)) (pouchlaw4_AddrTexts_hint n) n (codeAt [1, 0, 1, 0, 0] (bodyOf Tryd.f8)) 0 pouchlaw4_AddrTexts_L0_sp pouchlaw4_AddrTexts_L0_rp K m (l1, (i, ())) ()) (fun a => pouchlaw4_AddrTexts_L0_K K (.out a)) (fun a => pouchlaw4_AddrTexts_L0_K K (.ret a)) (fun p => pouchlaw4_AddrTexts_L0_K K (.pan p)) := by kernel_rfl
    have h2 : (fun (l1 : (Sq ((ByteArray × (ByteArray × Unit)) × (ByteArray × Unit)))) (i : Int) => loopI tys (callees Out (addr_Check_es n)) (pouchlaw4_AddrTexts_hint n) n (codeAt [1, 0, 1, 0, 0] (bodyOf Tryd.f8)) 0 pouchlaw4_AddrTexts_L0_sp pouchlaw4_AddrTexts_L0_rp K m (l1, (i, ())) ()) = (fun (l1 : (Sq ((ByteArray × (ByteArray × Unit)) × (ByteArray × Unit)))) (i : Int) => (pouchlaw4_AddrTexts_L0 n m l1 i).bind (pouchlaw4_AddrTexts_L0_K K)) := funext fun l1 => funext fun i => pouchlaw4_AddrTexts_L0_E n K m l1 i
    exact h1.trans ((congrArg (fun z => pouchlaw4_AddrTexts_B0 n l1 i z (fun a => pouchlaw4_AddrTexts_L0_K K (.out a)) (fun a => pouchlaw4_AddrTexts_L0_K K (.ret a)) (fun p => pouchlaw4_AddrTexts_L0_K K (.pan p))) h2).trans (pouchlaw4_AddrTexts_B0_N n l1 i (fun (l1 : (Sq ((ByteArray × (ByteArray × Unit)) × (ByteArray × Unit)))) (i : Int) => pouchlaw4_AddrTexts_L0 n m l1 i) (fun a => some (.out a)) (fun a => some (.ret a)) (fun p => some (.pan p)) (pouchlaw4_AddrTexts_L0_K K)))
theorem pouchlaw4_AddrTexts_L0_ok (n : Nat) : RunOk tys (callees Out (addr_Check_es n)) (pouchlaw4_AddrTexts_hint n) n (codeAt [1, 0, 1, 0, 0] (bodyOf Tryd.f8)) 0 := runOk_of (sp := pouchlaw4_AddrTexts_L0_sp) (rp := pouchlaw4_AddrTexts_L0_rp) (F := fun σ ρ K => (pouchlaw4_AddrTexts_L0 n n σ.1 σ.2.1).bind (pouchlaw4_AddrTexts_L0_K K)) (by kernel_rfl) fun K σ ρ => pouchlaw4_AddrTexts_L0_E n K n σ.1 σ.2.1
theorem pouchlaw4_AddrTexts_runs (n : Nat) : RunsOk tys (callees Out (addr_Check_es n)) (pouchlaw4_AddrTexts_hint n) n (bodyOf Tryd.f8) 0 := ⟨trivial, ⟨⟨trivial, ⟨pouchlaw4_AddrTexts_L0_ok n, ⟨⟨trivial, ⟨trivial, trivial⟩⟩, ⟨⟨⟨trivial, ⟨⟨trivial, trivial⟩, trivial⟩⟩, ⟨trivial, ⟨⟨trivial, ⟨trivial, trivial⟩⟩, ⟨trivial, ⟨trivial, ⟨⟨trivial, trivial⟩, trivial⟩⟩⟩⟩⟩⟩, trivial⟩⟩⟩⟩, ⟨trivial, trivial⟩⟩⟩
theorem pouchlaw4_AddrTexts_at : Tryd.prog.funcs[8]? = some Tryd.f8 := by kernel_rfl
theorem pouchlaw4_AddrTexts_ent (n : Nat) : Enters Tryd.prog 8 := enters_of (c := bodyOf Tryd.f8) pouchlaw4_AddrTexts_at (by kernel_rfl) (by kernel_rfl)
theorem pouchlaw4_AddrTexts_E (n : Nat) (l : (Sq ((ByteArray × (ByteArray × Unit)) × (ByteArray × Unit)))) : fnA tys (callees Out (addr_Check_es n)) (pouchlaw4_AddrTexts_hint n) n Tryd.f8 (encL (.pair (.sl (.pair (.pair .str (.pair .str .unit)) (.pair .str .unit))) .unit) (l, ())) [] (soloA fun v => some (.ret v)) (soloA fun v => some (.pan v)) = pouchlaw4_AddrTexts_B n l (fun y => some (.ret (encR (.one .bool) y))) := by kernel_rfl
theorem pouchlaw4_AddrTexts_ok (n : Nat) : EntryOk Tryd.prog gl ⟨8, pcT (.pair (.sl (.pair (.pair .str (.pair .str .unit)) (.pair .str .unit))) .unit) (.one .bool) (fun xs => pouchlaw4_AddrTexts n xs.1), none, none⟩ :=
  pcT_ok (pouchlaw4_AddrTexts_ent n) fun xs y h => ans_of_fn tys_ok (addr_Check_es_ok n) mixed (hint := pouchlaw4_AddrTexts_hint n) (n := n) (fn := Tryd.f8) pouchlaw4_AddrTexts_at (fun c hc => by
    have : bodyOf Tryd.f8 = c := by unfold bodyOf; rw [hc]; rfl
    exact this ▸ pouchlaw4_AddrTexts_runs n) (run_ret (φ := (fun y => some (Out.ret (encR (.one .bool) y)))) ((pouchlaw4_AddrTexts_E n xs.1).trans (pouchlaw4_AddrTexts_N (R := Bool) (S := Out) n xs.1 some (fun y => some (Out.ret (encR (.one .bool) y))))) h)
def pouchlaw4_AddrTexts_es (n : Nat) : List Entry := ⟨8, pcT (.pair (.sl (.pair (.pair .str (.pair .str .unit)) (.pair .str .unit))) .unit) (.one .bool) (fun xs => pouchlaw4_AddrTexts n xs.1), none, none⟩ :: addr_Check_es n
theorem pouchlaw4_AddrTexts_es_ok (n : Nat) : AllOk Tryd.prog gl (pouchlaw4_AddrTexts_es n) := .cons (pouchlaw4_AddrTexts_ok n) (addr_Check_es_ok n)

/- pouch/pouchlaw0.Within -/
def pouchlaw0_Within_B (n : Nat) {R : Type} (i : Int) (n0 : Int) (k : Int → Option R) : Option R :=
  if (IntKind.wrap .u64 n0) = 0 then
    none
  else
    k (IntKind.wrap .i64 (Int.tmod (IntKind.wrap .u64 i) (IntKind.wrap .u64 n0)))
def pouchlaw0_Within (n : Nat) (i : Int) (n0 : Int) : Option Int := pouchlaw0_Within_B n i n0 some
theorem pouchlaw0_Within_N (n : Nat) {R S : Type} (i : Int) (n0 : Int) (k : Int → Option R) (φ : R → Option S) : pouchlaw0_Within_B n i n0 (fun a => (k a).bind φ) = (pouchlaw0_Within_B n i n0 k).bind φ := by
  unfold pouchlaw0_Within_B
  first | (simp only [ite_bind, bind_bind, onL_bind, onX_bind, none_bind]) | rfl
def pouchlaw0_Within_hint (n : Nat) : Hint Out := { live := fun c => [], run := fun c => none, xm := fun c q => none }
theorem pouchlaw0_Within_runs (n : Nat) : RunsOk tys (callees Out (pouchlaw4_AddrTexts_es n)) (pouchlaw0_Within_hint n) n (bodyOf Tryd.f21) 0 := ⟨trivial, ⟨trivial, trivial⟩⟩
theorem pouchlaw0_Within_at : Tryd.prog.funcs[21]? = some Tryd.f21 := by kernel_rfl
theorem pouchlaw0_Within_ent (n : Nat) : Enters Tryd.prog 21 := enters_of (c := bodyOf Tryd.f21) pouchlaw0_Within_at (by kernel_rfl) (by kernel_rfl)
theorem pouchlaw0_Within_E (n : Nat) (i : Int) (n0 : Int) : fnA tys (callees Out (pouchlaw4_AddrTexts_es n)) (pouchlaw0_Within_hint n) n Tryd.f21 (encL (.pair (.int .i64) (.pair (.int .i64) .unit)) (i, (n0, ()))) [] (soloA fun v => some (.ret v)) (soloA fun v => some (.pan v)) = pouchlaw0_Within_B n i n0 (fun y => some (.ret (encR (.one (.int .i64)) y))) := by kernel_rfl
theorem pouchlaw0_Within_ok (n : Nat) : EntryOk Tryd.prog gl ⟨21, pcT (.pair (.int .i64) (.pair (.int .i64) .unit)) (.one (.int .i64)) (fun xs => pouchlaw0_Within n xs.1 xs.2.1), none, none⟩ :=
  pcT_ok (pouchlaw0_Within_ent n) fun xs y h => ans_of_fn tys_ok (pouchlaw4_AddrTexts_es_ok n) mixed (hint := pouchlaw0_Within_hint n) (n := n) (fn := Tryd.f21) pouchlaw0_Within_at (fun c hc => by
    have : bodyOf Tryd.f21 = c := by unfold bodyOf; rw [hc]; rfl
    exact this ▸ pouchlaw0_Within_runs n) (run_ret (φ := (fun y => some (Out.ret (encR (.one (.int .i64)) y)))) ((pouchlaw0_Within_E n xs.1 xs.2.1).trans (pouchlaw0_Within_N (R := Int) (S := Out) n xs.1 xs.2.1 some (fun y => some (Out.ret (encR (.one (.int .i64)) y))))) h)
def pouchlaw0_Within_es (n : Nat) : List Entry := ⟨21, pcT (.pair (.int .i64) (.pair (.int .i64) .unit)) (.one (.int .i64)) (fun xs => pouchlaw0_Within n xs.1 xs.2.1), none, none⟩ :: pouchlaw4_AddrTexts_es n
theorem pouchlaw0_Within_es_ok (n : Nat) : AllOk Tryd.prog gl (pouchlaw0_Within_es n) := .cons (pouchlaw0_Within_ok n) (pouchlaw4_AddrTexts_es_ok n)

/- pouch/pouchlaw4.AddrEdges -/
def pouchlaw4_AddrEdges_B1 (n : Nat) {R : Type} (l2 : (Sq ((ByteArray × (ByteArray × Unit)) × (ByteArray × Unit)))) (k01 : Int) (want : Int) (label : ByteArray) (kn : (Sq ((ByteArray × (ByteArray × Unit)) × (ByteArray × Unit))) → Int → Int → ByteArray → Option R) (ko : ((Sq ((ByteArray × (ByteArray × Unit)) × (ByteArray × Unit))) × Int × Int × ByteArray) → Option R) (kr : Unit → Option R) (kp : Int → Option R) : Option R :=
  if (decide ((label.size : Int) < (IntKind.wrap .i64 ((63 : Int) + k01)))) = true then
    if strFits label (⟨#[97]⟩ : ByteArray) = true then
      kn l2 k01 want (label ++ (⟨#[97]⟩ : ByteArray))
    else
      none
  else
    ko (l2, k01, want, label)
theorem pouchlaw4_AddrEdges_B1_N (n : Nat) {R S : Type} (l2 : (Sq ((ByteArray × (ByteArray × Unit)) × (ByteArray × Unit)))) (k01 : Int) (want : Int) (label : ByteArray) (kn : (Sq ((ByteArray × (ByteArray × Unit)) × (ByteArray × Unit))) → Int → Int → ByteArray → Option R) (ko : ((Sq ((ByteArray × (ByteArray × Unit)) × (ByteArray × Unit))) × Int × Int × ByteArray) → Option R) (kr : Unit → Option R) (kp : Int → Option R) (φ : R → Option S) : pouchlaw4_AddrEdges_B1 n l2 k01 want label (fun l2 k01 want label => (kn l2 k01 want label).bind φ) (fun a => (ko a).bind φ) (fun a => (kr a).bind φ) (fun a => (kp a).bind φ) = (pouchlaw4_AddrEdges_B1 n l2 k01 want label kn ko kr kp).bind φ := by
  unfold pouchlaw4_AddrEdges_B1
  first | (simp only [ite_bind, bind_bind, onL_bind, onX_bind, none_bind]) | rfl
def pouchlaw4_AddrEdges_L1 (n : Nat) : Nat → (Sq ((ByteArray × (ByteArray × Unit)) × (ByteArray × Unit))) → Int → Int → ByteArray → Option (Lx ((Sq ((ByteArray × (ByteArray × Unit)) × (ByteArray × Unit))) × Int × Int × ByteArray) Unit)
  | 0, _, _, _, _ => none
  | m + 1, l2, k01, want, label => pouchlaw4_AddrEdges_B1 n l2 k01 want label (fun l2 k01 want label => pouchlaw4_AddrEdges_L1 n m l2 k01 want label) (fun a => some (.out a)) (fun a => some (.ret a)) (fun p => some (.pan p))
def pouchlaw4_AddrEdges_L1_sp : List Sl := [.dat (.sl (.pair (.pair .str (.pair .str .unit)) (.pair .str .unit))), .top, .top, .dat (.int .i64), .dat (.int .i64), .dat .str, .top, .top, .top, .top, .top, .top, .top, .top, .top, .top, .top, .top, .top, .top, .top, .top, .top, .top, .top, .top, .top, .top, .top, .top, .top, .top, .top, .top, .top, .top, .top, .top, .top, .top, .top, .top, .top, .top, .top, .top, .top, .top, .top, .top, .top, .top, .top, .top, .top, .top, .top, .top, .top, .top, .top, .top, .top, .top, .top, .top, .top, .top, .top, .top, .top, .top, .top, .top, .top, .top, .top, .top, .top, .top, .top, .top]
def pouchlaw4_AddrEdges_L1_rp : List RS := []
def pouchlaw4_AddrEdges_L1_out_sp : List Sl := [.dat (.sl (.pair (.pair .str (.pair .str .unit)) (.pair .str .unit))), .top, .top, .dat (.int .i64), .dat (.int .i64), .dat .str, .top, .top, .top, .top, .top, .top, .top, .top, .top, .top, .top, .top, .top, .top, .top, .top, .top, .top, .top, .top, .top, .top, .top, .top, .top, .top, .top, .top, .top, .top, .top, .top, .top, .top, .top, .top, .top, .top, .top, .top, .top, .top, .top, .top, .top, .top, .top, .top, .top, .top, .top, .top, .top, .top, .top, .top, .top, .top, .top, .top, .top, .top, .top, .top, .top, .top, .top, .top, .top, .top, .top, .top, .top, .top, .top, .top]
def pouchlaw4_AddrEdges_L1_out_rp : List RS := []
def pouchlaw4_AddrEdges_L1_K (K : XE → List AV → AHeap → Option Out) : Lx ((Sq ((ByteArray × (ByteArray × Unit)) × (ByteArray × Unit))) × Int × Int × ByteArray) Unit → Option Out := fun x => onL x (fun a => K (.exit 2) (encF (nsOf pouchlaw4_AddrEdges_L1_out_rp ()) pouchlaw4_AddrEdges_L1_out_sp (a.1, (a.2.1, (a.2.2.1, (a.2.2.2, ()))))) (encH (nsOf pouchlaw4_AddrEdges_L1_out_rp ()) pouchlaw4_AddrEdges_L1_out_rp ())) (fun _ => none) (fun _ => none)
def pouchlaw4_AddrEdges_B2 (n : Nat) {R : Type} (l4 : (Sq ((ByteArray × (ByteArray × Unit)) × (ByteArray × Unit)))) (k03 : Int) (want2 : Int) (label2 : ByteArray) (local0 : ByteArray) (kn : (Sq ((ByteArray × (ByteArray × Unit)) × (ByteArray × Unit))) → Int → Int → ByteArray → ByteArray → Option R) (ko : ((Sq ((ByteArray × (ByteArray × Unit)) × (ByteArray × Unit))) × Int × Int × ByteArray × ByteArray) → Option R) (kr : Unit → Option R) (kp : Int → Option R) : Option R :=
  if (decide ((local0.size : Int) < (IntKind.wrap .i64 ((64 : Int) + k03)))) = true then
    if strFits local0 (⟨#[98]⟩ : ByteArray) = true then
      kn l4 k03 want2 label2 (local0 ++ (⟨#[98]⟩ : ByteArray))
    else
      none
  else
    ko (l4, k03, want2, label2, local0)
theorem pouchlaw4_AddrEdges_B2_N (n : Nat) {R S : Type} (l4 : (Sq ((ByteArray × (ByteArray × Unit)) × (ByteArray × Unit)))) (k03 : Int) (want2 : Int) (label2 : ByteArray) (local0 : ByteArray) (kn : (Sq ((ByteArray × (ByteArray × Unit)) × (ByteArray × Unit))) → Int → Int → ByteArray → ByteArray → Option R) (ko : ((Sq ((ByteArray × (ByteArray × Unit)) × (ByteArray × Unit))) × Int × Int × ByteArray × ByteArray) → Option R) (kr : Unit → Option R) (kp : Int → Option R) (φ : R → Option S) : pouchlaw4_AddrEdges_B2 n l4 k03 want2 label2 local0 (fun l4 k03 want2 label2 local0 => (kn l4 k03 want2 label2 local0).bind φ) (fun a => (ko a).bind φ) (fun a => (kr a).bind φ) (fun a => (kp a).bind φ) = (pouchlaw4_AddrEdges_B2 n l4 k03 want2 label2 local0 kn ko kr kp).bind φ := by
  unfold pouchlaw4_AddrEdges_B2
  first | (simp only [ite_bind, bind_bind, onL_bind, onX_bind, none_bind]) | rfl
def pouchlaw4_AddrEdges_L2 (n : Nat) : Nat → (Sq ((ByteArray × (ByteArray × Unit)) × (ByteArray × Unit))) → Int → Int → ByteArray → ByteArray → Option (Lx ((Sq ((ByteArray × (ByteArray × Unit)) × (ByteArray × Unit))) × Int × Int × ByteArray × ByteArray) Unit)
  | 0, _, _, _, _, _ => none
  | m + 1, l4, k03, want2, label2, local0 => pouchlaw4_AddrEdges_B2 n l4 k03 want2 label2 local0 (fun l4 k03 want2 label2 local0 => pouchlaw4_AddrEdges_L2 n m l4 k03 want2 label2 local0) (fun a => some (.out a)) (fun a => some (.ret a)) (fun p => some (.pan p))
def pouchlaw4_AddrEdges_L2_sp : List Sl := [.dat (.sl (.pair (.pair .str (.pair .str .unit)) (.pair .str .unit))), .top, .top, .dat (.int .i64), .dat (.int .i64), .dat .str, .dat .str, .top, .top, .top, .top, .top, .top, .top, .top, .top, .top, .top, .top, .top, .top, .top, .top, .top, .top, .top, .top, .top, .top, .top, .top, .top, .top, .top, .top, .top, .top, .top, .top, .top, .top, .top, .top, .top, .top, .top, .top, .top, .top, .top, .top, .top, .top, .top, .top, .top, .top, .top, .top, .top, .top, .top, .top, .top, .top, .top, .top, .top, .top, .top, .top, .top, .top, .top, .top, .top, .top, .top, .top, .top, .top, .top]
def pouchlaw4_AddrEdges_L2_rp : List RS := []
def pouchlaw4_AddrEdges_L2_out_sp : List Sl := [.dat (.sl (.pair (.pair .str (.pair .str .unit)) (.pair .str .unit))), .top, .top, .dat (.int .i64), .dat (.int .i64), .dat .str, .dat .str, .top, .top, .top, .top, .top, .top, .top, .top, .top, .top, .top, .top, .top, .top, .top, .top, .top, .top, .top, .top, .top, .top, .top, .top, .top, .top, .top, .top, .top, .top, .top, .top, .top, .top, .top, .top, .top, .top, .top, .top, .top, .top, .top, .top, .top, .top, .top, .top, .top, .top, .top, .top, .top, .top, .top, .top, .top, .top, .top, .top, .top, .top, .top, .top, .top, .top, .top, .top, .top, .top, .top, .top, .top, .top, .top]
def pouchlaw4_AddrEdges_L2_out_rp : List RS := []
def pouchlaw4_AddrEdges_L2_K (K : XE → List AV → AHeap → Option Out) : Lx ((Sq ((ByteArray × (ByteArray × Unit)) × (ByteArray × Unit))) × Int × Int × ByteArray × ByteArray) Unit → Option Out := fun x => onL x (fun a => K (.exit 4) (encF (nsOf pouchlaw4_AddrEdges_L2_out_rp ()) pouchlaw4_AddrEdges_L2_out_sp (a.1, (a.2.1, (a.2.2.1, (a.2.2.2.1, (a.2.2.2.2, ())))))) (encH (nsOf pouchlaw4_AddrEdges_L2_out_rp ()) pouchlaw4_AddrEdges_L2_out_rp ())) (fun _ => none) (fun _ => none)
def pouchlaw4_AddrEdges_B3 (n : Nat) {R : Type} (l6 : (Sq ((ByteArray × (ByteArray × Unit)) × (ByteArray × Unit)))) (k05 : Int) (want4 : Int) (label4 : ByteArray) (local02 : ByteArray) (long : ByteArray) (kn : (Sq ((ByteArray × (ByteArray × Unit)) × (ByteArray × Unit))) → Int → Int → ByteArray → ByteArray → ByteArray → Option R) (ko : ((Sq ((ByteArray × (ByteArray × Unit)) × (ByteArray × Unit))) × Int × Int × ByteArray × ByteArray × ByteArray) → Option R) (kr : Unit → Option R) (kp : Int → Option R) : Option R :=
  if (decide ((long.size : Int) < (IntKind.wrap .i64 ((255 : Int) + k05)))) = true then
    if ((Int.tmod (long.size : Int) (10 : Int)) == (5 : Int)) = true then
      if (decide ((long.size : Int) < (253 : Int))) = true then
        if strFits long (⟨#[46]⟩ : ByteArray) = true then
          kn l6 k05 want4 label4 local02 (long ++ (⟨#[46]⟩ : ByteArray))
        else
          none
      else
        if strFits long (⟨#[97]⟩ : ByteArray) = true then
          kn l6 k05 want4 label4 local02 (long ++ (⟨#[97]⟩ : ByteArray))
        else
          none
    else
      if strFits long (⟨#[97]⟩ : ByteArray) = true then
        kn l6 k05 want4 label4 local02 (long ++ (⟨#[97]⟩ : ByteArray))
      else
        none
  else
    ko (l6, k05, want4, label4, local02, long)
theorem pouchlaw4_AddrEdges_B3_N (n : Nat) {R S : Type} (l6 : (Sq ((ByteArray × (ByteArray × Unit)) × (ByteArray × Unit)))) (k05 : Int) (want4 : Int) (label4 : ByteArray) (local02 : ByteArray) (long : ByteArray) (kn : (Sq ((ByteArray × (ByteArray × Unit)) × (ByteArray × Unit))) → Int → Int → ByteArray → ByteArray → ByteArray → Option R) (ko : ((Sq ((ByteArray × (ByteArray × Unit)) × (ByteArray × Unit))) × Int × Int × ByteArray × ByteArray × ByteArray) → Option R) (kr : Unit → Option R) (kp : Int → Option R) (φ : R → Option S) : pouchlaw4_AddrEdges_B3 n l6 k05 want4 label4 local02 long (fun l6 k05 want4 label4 local02 long => (kn l6 k05 want4 label4 local02 long).bind φ) (fun a => (ko a).bind φ) (fun a => (kr a).bind φ) (fun a => (kp a).bind φ) = (pouchlaw4_AddrEdges_B3 n l6 k05 want4 label4 local02 long kn ko kr kp).bind φ := by
  unfold pouchlaw4_AddrEdges_B3
  first | (simp only [ite_bind, bind_bind, onL_bind, onX_bind, none_bind]) | rfl
def pouchlaw4_AddrEdges_L3 (n : Nat) : Nat → (Sq ((ByteArray × (ByteArray × Unit)) × (ByteArray × Unit))) → Int → Int → ByteArray → ByteArray → ByteArray → Option (Lx ((Sq ((ByteArray × (ByteArray × Unit)) × (ByteArray × Unit))) × Int × Int × ByteArray × ByteArray × ByteArray) Unit)
  | 0, _, _, _, _, _, _ => none
  | m + 1, l6, k05, want4, label4, local02, long => pouchlaw4_AddrEdges_B3 n l6 k05 want4 label4 local02 long (fun l6 k05 want4 label4 local02 long => pouchlaw4_AddrEdges_L3 n m l6 k05 want4 label4 local02 long) (fun a => some (.out a)) (fun a => some (.ret a)) (fun p => some (.pan p))
def pouchlaw4_AddrEdges_L3_sp : List Sl := [.dat (.sl (.pair (.pair .str (.pair .str .unit)) (.pair .str .unit))), .top, .top, .dat (.int .i64), .dat (.int .i64), .dat .str, .dat .str, .dat .str, .top, .top, .top, .top, .top, .top, .top, .top, .top, .top, .top, .top, .top, .top, .top, .top, .top, .top, .top, .top, .top, .top, .top, .top, .top, .top, .top, .top, .top, .top, .top, .top, .top, .top, .top, .top, .top, .top, .top, .top, .top, .top, .top, .top, .top, .top, .top, .top, .top, .top, .top, .top, .top, .top, .top, .top, .top, .top, .top, .top, .top, .top, .top, .top, .top, .top, .top, .top, .top, .top, .top, .top, .top, .top]
def pouchlaw4_AddrEdges_L3_rp : List RS := []
def pouchlaw4_AddrEdges_L3_out_sp : List Sl := [.dat (.sl (.pair (.pair .str (.pair .str .unit)) (.pair .str .unit))), .top, .top, .dat (.int .i64), .dat (.int .i64), .dat .str, .dat .str, .dat .str, .top, .top, .top, .top, .top, .top, .top, .top, .top, .top, .top, .top, .top, .top, .top, .top, .top, .top, .top, .top, .top, .top, .top, .top, .top, .top, .top, .top, .top, .top, .top, .top, .top, .top, .top, .top, .top, .top, .top, .top, .top, .top, .top, .top, .top, .top, .top, .top, .top, .top, .top, .top, .top, .top, .top, .top, .top, .top, .top, .top, .top, .top, .top, .top, .top, .top, .top, .top, .top, .top, .top, .top, .top, .top]
def pouchlaw4_AddrEdges_L3_out_rp : List RS := []
def pouchlaw4_AddrEdges_L3_K (K : XE → List AV → AHeap → Option Out) : Lx ((Sq ((ByteArray × (ByteArray × Unit)) × (ByteArray × Unit))) × Int × Int × ByteArray × ByteArray × ByteArray) Unit → Option Out := fun x => onL x (fun a => K (.exit 6) (encF (nsOf pouchlaw4_AddrEdges_L3_out_rp ()) pouchlaw4_AddrEdges_L3_out_sp (a.1, (a.2.1, (a.2.2.1, (a.2.2.2.1, (a.2.2.2.2.1, (a.2.2.2.2.2, ()))))))) (encH (nsOf pouchlaw4_AddrEdges_L3_out_rp ()) pouchlaw4_AddrEdges_L3_out_rp ())) (fun _ => none) (fun _ => none)
def pouchlaw4_AddrEdges_B0 (n : Nat) {R : Type} (l1 : (Sq ((ByteArray × (ByteArray × Unit)) × (ByteArray × Unit)))) (k0 : Int) (kn : (Sq ((ByteArray × (ByteArray × Unit)) × (ByteArray × Unit))) → Int → Option R) (ko : ((Sq ((ByteArray × (ByteArray × Unit)) × (ByteArray × Unit)))) → Option R) (kr : (Bool) → Option R) (kp : Int → Option R) : Option R :=
  if (decide (k0 < (2 : Int))) = true then
    if 0 ≤ k0 ∧ k0 < (2 : Int) then
      if 0 ≤ (0 : Int) ∧ (0 : Int) ≤ (0 : Int) then
        if rowFits (Int.toNat (0 : Int)) 1 = true then
          (pouchlaw4_AddrEdges_L1 n n l1 k0 ((fun q => List.getD (α := Int) [(0 : Int), (1 : Int)] q (zeroEl (.int .i64))) (Int.toNat k0)) (strOf (Int.toNat (0 : Int)) (fun _ => (0 : Int)))).bind fun x_1 => onL x_1
            (fun a_2 =>
              (pouchlaw4_AddrEdges_L2 n n a_2.1 a_2.2.1 a_2.2.2.1 a_2.2.2.2 (⟨#[]⟩ : ByteArray)).bind fun x_3 => onL x_3
                (fun a_4 =>
                  (pouchlaw4_AddrEdges_L3 n n a_4.1 a_4.2.1 a_4.2.2.1 a_4.2.2.2.1 a_4.2.2.2.2 (⟨#[97]⟩ : ByteArray)).bind fun x_5 => onL x_5
                    (fun a_6 =>
                      (addr_Check n ((⟨#[120]⟩ : ByteArray), (a_6.2.2.2.1, ()))).bind fun v =>
                      (pouchlaw4_num n v).bind fun v1 =>
                      if (v1 != a_6.2.2.1) = false then
                        (addr_Check n (a_6.2.2.2.2.1, ((⟨#[120]⟩ : ByteArray), ()))).bind fun v2 =>
                        (pouchlaw4_num n v2).bind fun v3 =>
                        if (v3 != a_6.2.2.1) = false then
                          (addr_Check n ((⟨#[120]⟩ : ByteArray), (a_6.2.2.2.2.2, ()))).bind fun v4 =>
                          (pouchlaw4_num n v4).bind fun v5 =>
                          if (v5 != a_6.2.2.1) = true then
                            kr false
                          else
                            kn a_6.1 (IntKind.wrap .i64 (a_6.2.1 + (1 : Int)))
                        else
                          kr false
                      else
                        kr false)
                    (fun _ => none)
                    (fun _ => none))
                (fun _ => none)
                (fun _ => none))
            (fun _ => none)
            (fun _ => none)
        else
          none
      else
        none
    else
      none
  else
    ko l1
theorem pouchlaw4_AddrEdges_B0_N (n : Nat) {R S : Type} (l1 : (Sq ((ByteArray × (ByteArray × Unit)) × (ByteArray × Unit)))) (k0 : Int) (kn : (Sq ((ByteArray × (ByteArray × Unit)) × (ByteArray × Unit))) → Int → Option R) (ko : ((Sq ((ByteArray × (ByteArray × Unit)) × (ByteArray × Unit)))) → Option R) (kr : (Bool) → Option R) (kp : Int → Option R) (φ : R → Option S) : pouchlaw4_AddrEdges_B0 n l1 k0 (fun l1 k0 => (kn l1 k0).bind φ) (fun a => (ko a).bind φ) (fun a => (kr a).bind φ) (fun a => (kp a).bind φ) = (pouchlaw4_AddrEdges_B0 n l1 k0 kn ko kr kp).bind φ := by
  unfold pouchlaw4_AddrEdges_B0
  first | (simp only [ite_bind, bind_bind, onL_bind, onX_bind, none_bind]) | rfl
def pouchlaw4_AddrEdges_L0 (n : Nat) : Nat → (Sq ((ByteArray × (ByteArray × Unit)) × (ByteArray × Unit))) → Int → Option (Lx ((Sq ((ByteArray × (ByteArray × Unit)) × (ByteArray × Unit)))) (Bool))
  | 0, _, _ => none
  | m + 1, l1, k0 => pouchlaw4_AddrEdges_B0 n l1 k0 (fun l1 k0 => pouchlaw4_AddrEdges_L0 n m l1 k0) (fun a => some (.out a)) (fun a => some (.ret a)) (fun p => some (.pan p))
def pouchlaw4_AddrEdges_L0_sp : List Sl := [.dat (.sl (.pair (.pair .str (.pair .str .unit)) (.pair .str .unit))), .top, .top, .dat (.int .i64), .top, .top, .top, .top, .top, .top, .top, .top, .top, .top, .top, .top, .top, .top, .top, .top, .top, .top, .top, .top, .top, .top, .top, .top, .top, .top, .top, .top, .top, .top, .top, .top, .top, .top, .top, .top, .top, .top, .top, .top, .top, .top, .top, .top, .top, .top, .top, .top, .top, .top, .top, .top, .top, .top, .top, .top, .top, .top, .top, .top, .top, .top, .top, .top, .top, .top, .top, .top, .top, .top, .top, .top, .top, .top, .top, .top, .top, .top]
def pouchlaw4_AddrEdges_L0_rp : List RS := []
def pouchlaw4_AddrEdges_L0_out_sp : List Sl := [.dat (.sl (.pair (.pair .str (.pair .str .unit)) (.pair .str .unit))), .top, .top, .top, .top, .top, .top, .top, .top, .top, .top, .top, .top, .top, .top, .top, .top, .top, .top, .top, .top, .top, .top, .top, .top, .top, .top, .top, .top, .top, .top, .top, .top, .top, .top, .top, .top, .top, .top, .top, .top, .top, .top, .top, .top, .top, .top, .top, .top, .top, .top, .top, .top, .top, .top, .top, .top, .top, .top, .top, .top, .top, .top, .top, .top, .top, .top, .top, .top, .top, .top, .top, .top, .top, .top, .top, .top, .top, .top, .top, .top, .top]
def pouchlaw4_AddrEdges_L0_out_rp : List RS := []
def pouchlaw4_AddrEdges_L0_ret_sp : List Sl := [.top, .top, .dat .bool, .top, .top, .top, .top, .top, .top, .top, .top, .top, .top, .top, .top, .top, .top, .top, .top, .top, .top, .top, .top, .top, .top, .top, .top, .top, .top, .top, .top, .top, .top, .top, .top, .top, .top, .top, .top, .top, .top, .top, .top, .top, .top, .top, .top, .top, .top, .top, .top, .top, .top, .top, .top, .top, .top, .top, .top, .top, .top, .top, .top, .top, .top, .top, .top, .top, .top, .top, .top, .top, .top, .top, .top, .top, .top, .top, .top, .top, .top, .top]
def pouchlaw4_AddrEdges_L0_ret_rp : List RS := []
def pouchlaw4_AddrEdges_L0_K (K : XE → List AV → AHeap → Option Out) : Lx ((Sq ((ByteArray × (ByteArray × Unit)) × (ByteArray × Unit)))) (Bool) → Option Out := fun x => onL x (fun a => K (.exit 0) (encF (nsOf pouchlaw4_AddrEdges_L0_out_rp ()) pouchlaw4_AddrEdges_L0_out_sp (a, ())) (encH (nsOf pouchlaw4_AddrEdges_L0_out_rp ()) pouchlaw4_AddrEdges_L0_out_rp ())) (fun a => K .ret (encF (nsOf pouchlaw4_AddrEdges_L0_ret_rp ()) pouchlaw4_AddrEdges_L0_ret_sp (a, ())) (encH (nsOf pouchlaw4_AddrEdges_L0_ret_rp ()) pouchlaw4_AddrEdges_L0_ret_rp ())) (fun _ => none)
def pouchlaw4_AddrEdges_B (n : Nat) {R : Type} (l : (Sq ((ByteArray × (ByteArray × Unit)) × (ByteArray × Unit)))) (k : Bool → Option R) : Option R :=
  (pouchlaw4_AddrEdges_L0 n n l (0 : Int)).bind fun x_1 => onL x_1
    (fun a_2 =>
      if (decide ((a_2.n : Int) ≥ (0 : Int))) = true then
        (pouchlaw0_Within n (5 : Int) (3 : Int)).bind fun v6 =>
        if (v6 == (2 : Int)) = true then
          (pouchlaw4_wakes n).bind fun v7 =>
          k v7
        else
          k false
      else
        k false)
    (fun a_3 =>
      k a_3)
    (fun _ => none)
def pouchlaw4_AddrEdges (n : Nat) (l : (Sq ((ByteArray × (ByteArray × Unit)) × (ByteArray × Unit)))) : Option Bool := pouchlaw4_AddrEdges_B n l some
theorem pouchlaw4_AddrEdges_N (n : Nat) {R S : Type} (l : (Sq ((ByteArray × (ByteArray × Unit)) × (ByteArray × Unit)))) (k : Bool → Option R) (φ : R → Option S) : pouchlaw4_AddrEdges_B n l (fun a => (k a).bind φ) = (pouchlaw4_AddrEdges_B n l k).bind φ := by
  unfold pouchlaw4_AddrEdges_B
  first | (simp only [ite_bind, bind_bind, onL_bind, onX_bind, none_bind]) | rfl
def pouchlaw4_AddrEdges_hint (n : Nat) : Hint Out := { live := fun c => (cond (Nat.beq c 0) [(0, some (.sl (.pair (.pair .str (.pair .str .unit)) (.pair .str .unit)))), (3, none)] (cond (Nat.beq c 6) [(0, some (.sl (.pair (.pair .str (.pair .str .unit)) (.pair .str .unit)))), (3, none), (4, none), (5, none), (6, none), (7, none)] (cond (Nat.beq c 4) [(0, some (.sl (.pair (.pair .str (.pair .str .unit)) (.pair .str .unit)))), (3, none), (4, none), (5, none), (6, none)] (cond (Nat.beq c 2) [(0, some (.sl (.pair (.pair .str (.pair .str .unit)) (.pair .str .unit)))), (3, none), (4, none), (5, none)] [])))), run := fun c => (cond (Nat.beq c 0) (some (runL pouchlaw4_AddrEdges_L0_sp pouchlaw4_AddrEdges_L0_rp fun σ ρ K => (pouchlaw4_AddrEdges_L0 n n σ.1 σ.2.1).bind (pouchlaw4_AddrEdges_L0_K K))) (cond (Nat.beq c 6) (some (runL pouchlaw4_AddrEdges_L3_sp pouchlaw4_AddrEdges_L3_rp fun σ ρ K => (pouchlaw4_AddrEdges_L3 n n σ.1 σ.2.1 σ.2.2.1 σ.2.2.2.1 σ.2.2.2.2.1 σ.2.2.2.2.2.1).bind (pouchlaw4_AddrEdges_L3_K K))) (cond (Nat.beq c 4) (some (runL pouchlaw4_AddrEdges_L2_sp pouchlaw4_AddrEdges_L2_rp fun σ ρ K => (pouchlaw4_AddrEdges_L2 n n σ.1 σ.2.1 σ.2.2.1 σ.2.2.2.1 σ.2.2.2.2.1).bind (pouchlaw4_AddrEdges_L2_K K))) (cond (Nat.beq c 2) (some (runL pouchlaw4_AddrEdges_L1_sp pouchlaw4_AddrEdges_L1_rp fun σ ρ K => (pouchlaw4_AddrEdges_L1 n n σ.1 σ.2.1 σ.2.2.1 σ.2.2.2.1).bind (pouchlaw4_AddrEdges_L1_K K))) none)))), xm := fun c q => (cond (Nat.beq c 0 && Nat.beq (q.getD 1000000) 0 && q.isSome) (some [(0, some (.sl (.pair (.pair .str (.pair .str .unit)) (.pair .str .unit))))]) (cond (Nat.beq c 1 && q.isNone) (some [(2, none)]) (cond (Nat.beq c 6 && Nat.beq (q.getD 1000000) 6 && q.isSome) (some [(0, some (.sl (.pair (.pair .str (.pair .str .unit)) (.pair .str .unit)))), (3, none), (4, none), (5, none), (6, none), (7, none)]) (cond (Nat.beq c 4 && Nat.beq (q.getD 1000000) 4 && q.isSome) (some [(0, some (.sl (.pair (.pair .str (.pair .str .unit)) (.pair .str .unit)))), (3, none), (4, none), (5, none), (6, none)]) (cond (Nat.beq c 2 && Nat.beq (q.getD 1000000) 2 && q.isSome) (some [(0, some (.sl (.pair (.pair .str (.pair .str .unit)) (.pair .str .unit)))), (3, none), (4, none), (5, none)]) none))))) }
theorem pouchlaw4_AddrEdges_L1_E (n : Nat) (K : XE → List AV → AHeap → Option Out) : ∀ (m : Nat) (l2 : (Sq ((ByteArray × (ByteArray × Unit)) × (ByteArray × Unit)))) (k01 : Int) (want : Int) (label : ByteArray), loopI tys (callees Out (pouchlaw0_Within_es n)) (pouchlaw4_AddrEdges_hint n) n (codeAt [1, 0, 1, 0, 0, 1, 0, 0, 1, 1, 0, 0, 0] (bodyOf Tryd.f7)) 2 pouchlaw4_AddrEdges_L1_sp pouchlaw4_AddrEdges_L1_rp K m (l2, (k01, (want, (label, ())))) () = (pouchlaw4_AddrEdges_L1 n m l2 k01 want label).bind (pouchlaw4_AddrEdges_L1_K K)
  | 0, l2, k01, want, label => by kernel_rfl
  | m + 1, l2, k01, want, label => by
    have h1 : loopI tys (callees Out (pouchlaw0_Within_es n)) (pouchlaw4_AddrEdges_hint n) n (codeAt [1, 0, 1, 0, 0, 1, 0, 0, 1, 1, 0, 0, 0] (bodyOf Tryd.f7)) 2 pouchlaw4_AddrEdges_L1_sp pouchlaw4_AddrEdges_L1_rp K (m + 1) (l2, (k01, (want, (label, ())))) () = pouchlaw4_AddrEdges_B1 n l2 k01 want label (fun (l2 : (Sq ((ByteArray × (ByteArray × Unit)) × (ByteArray × Unit)))) (k01 : Int) (want : Int) (label : ByteArray) => loopI tys (callees Out (pouchlaw0_Within_es n)) (pouchlaw4_AddrEdges_hint n) n (codeAt [1, 0, 1, 0, 0, 1, 0, 0, 1, 1, 0, 0, 0] (bodyOf Tryd.f7)) 2 pouchlaw4_AddrEdges_L1_sp pouchlaw4_AddrEdges_L1_rp K m (l2, (k01, (want, (label, ())))) ()) (fun a => pouchlaw4_AddrEdges_L1_K K (.out a)) (fun a => pouchlaw4_AddrEdges_L1_K K (.ret a)) (fun p => pouchlaw4_AddrEdges_L1_K K (.pan p)) := by kernel_rfl
    have h2 : (fun (l2 : (Sq ((ByteArray × (ByteArray × Unit)) × (ByteArray × Unit)))) (k01 : Int) (want : Int) (label : ByteArray) => loopI tys (callees Out (pouchlaw0_Within_es n)) (pouchlaw4_AddrEdges_hint n) n (codeAt [1, 0, 1, 0, 0, 1, 0, 0, 1, 1, 0, 0, 0] (bodyOf Tryd.f7)) 2 pouchlaw4_AddrEdges_L1_sp pouchlaw4_AddrEdges_L1_rp K m (l2, (k01, (want, (label, ())))) ()) = (fun (l2 : (Sq ((ByteArray × (ByteArray × Unit)) × (ByteArray × Unit)))) (k01 : Int) (want : Int) (label : ByteArray) => (pouchlaw4_AddrEdges_L1 n m l2 k01 want label).bind (pouchlaw4_AddrEdges_L1_K K)) := funext fun l2 => funext fun k01 => funext fun want => funext fun label => pouchlaw4_AddrEdges_L1_E n K m l2 k01 want label
    exact h1.trans ((congrArg (fun z => pouchlaw4_AddrEdges_B1 n l2 k01 want label z (fun a => pouchlaw4_AddrEdges_L1_K K (.out a)) (fun a => pouchlaw4_AddrEdges_L1_K K (.ret a)) (fun p => pouchlaw4_AddrEdges_L1_K K (.pan p))) h2).trans (pouchlaw4_AddrEdges_B1_N n l2 k01 want label (fun (l2 : (Sq ((ByteArray × (ByteArray × Unit)) × (ByteArray × Unit)))) (k01 : Int) (want : Int) (label : ByteArray) => pouchlaw4_AddrEdges_L1 n m l2 k01 want label) (fun a => some (.out a)) (fun a => some (.ret a)) (fun p => some (.pan p)) (pouchlaw4_AddrEdges_L1_K K)))
theorem pouchlaw4_AddrEdges_L1_ok (n : Nat) : RunOk tys (callees Out (pouchlaw0_Within_es n)) (pouchlaw4_AddrEdges_hint n) n (codeAt [1, 0, 1, 0, 0, 1, 0, 0, 1, 1, 0, 0, 0] (bodyOf Tryd.f7)) 2 := runOk_of (sp := pouchlaw4_AddrEdges_L1_sp) (rp := pouchlaw4_AddrEdges_L1_rp) (F := fun σ ρ K => (pouchlaw4_AddrEdges_L1 n n σ.1 σ.2.1 σ.2.2.1 σ.2.2.2.1).bind (pouchlaw4_AddrEdges_L1_K K)) (by kernel_rfl) fun K σ ρ => pouchlaw4_AddrEdges_L1_E n K n σ.1 σ.2.1 σ.2.2.1 σ.2.2.2.1
theorem pouchlaw4_AddrEdges_L2_E (n : Nat) (K : XE → List AV → AHeap → Option Out) : ∀ (m : Nat) (l4 : (Sq ((ByteArray × (ByteArray × Unit)) × (ByteArray × Unit)))) (k03 : Int) (want2 : Int) (label2 : ByteArray) (local0 : ByteArray), loopI tys (callees Out (pouchlaw0_Within_es n)) (pouchlaw4_AddrEdges_hint n) n (codeAt [1, 0, 1, 0, 0, 1, 0, 0, 1, 1, 1, 1, 0, 0, 0] (bodyOf Tryd.f7)) 4 pouchlaw4_AddrEdges_L2_sp pouchlaw4_AddrEdges_L2_rp K m (l4, (k03, (want2, (label2, (local0, ()))))) () = (pouchlaw4_AddrEdges_L2 n m l4 k03 want2 label2 local0).bind (pouchlaw4_AddrEdges_L2_K K)
  | 0, l4, k03, want2, label2, local0 => by kernel_rfl
  | m + 1, l4, k03, want2, label2, local0 => by
    have h1 : loopI tys (callees Out (pouchlaw0_Within_es n)) (pouchlaw4_AddrEdges_hint n) n (codeAt [1, 0, 1, 0, 0, 1, 0, 0, 1, 1, 1, 1, 0, 0, 0] (bodyOf Tryd.f7)) 4 pouchlaw4_AddrEdges_L2_sp pouchlaw4_AddrEdges_L2_rp K (m + 1) (l4, (k03, (want2, (label2, (local0, ()))))) () = pouchlaw4_AddrEdges_B2 n l4 k03 want2 label2 local0 (fun (l4 : (Sq ((ByteArray × (ByteArray × Unit)) × (ByteArray × Unit)))) (k03 : Int) (want2 : Int) (label2 : ByteArray) (local0 : ByteArray) => loopI tys (callees Out (pouchlaw0_Within_es n)) (pouchlaw4_AddrEdges_hint n) n (codeAt [1, 0, 1, 0, 0, 1, 0, 0, 1, 1, 1, 1, 0, 0, 0] (bodyOf Tryd.f7)) 4 pouchlaw4_AddrEdges_L2_sp pouchlaw4_AddrEdges_L2_rp K m (l4, (k03, (want2, (label2, (local0, ()))))) ()) (fun a => pouchlaw4_AddrEdges_L2_K K (.out a)) (fun a => pouchlaw4_AddrEdges_L2_K K (.ret a)) (fun p => pouchlaw4_AddrEdges_L2_K K (.pan p)) := by kernel_rfl
    have h2 : (fun (l4 : (Sq ((ByteArray × (ByteArray × Unit)) × (ByteArray × Unit)))) (k03 : Int) (want2 : Int) (label2 : ByteArray) (local0 : ByteArray) => loopI tys (callees Out (pouchlaw0_Within_es n)) (pouchlaw4_AddrEdges_hint n) n (codeAt [1, 0, 1, 0, 0, 1, 0, 0, 1, 1, 1, 1, 0, 0, 0] (bodyOf Tryd.f7)) 4 pouchlaw4_AddrEdges_L2_sp pouchlaw4_AddrEdges_L2_rp K m (l4, (k03, (want2, (label2, (local0, ()))))) ()) = (fun (l4 : (Sq ((ByteArray × (ByteArray × Unit)) × (ByteArray × Unit)))) (k03 : Int) (want2 : Int) (label2 : ByteArray) (local0 : ByteArray) => (pouchlaw4_AddrEdges_L2 n m l4 k03 want2 label2 local0).bind (pouchlaw4_AddrEdges_L2_K K)) := funext fun l4 => funext fun k03 => funext fun want2 => funext fun label2 => funext fun local0 => pouchlaw4_AddrEdges_L2_E n K m l4 k03 want2 label2 local0
    exact h1.trans ((congrArg (fun z => pouchlaw4_AddrEdges_B2 n l4 k03 want2 label2 local0 z (fun a => pouchlaw4_AddrEdges_L2_K K (.out a)) (fun a => pouchlaw4_AddrEdges_L2_K K (.ret a)) (fun p => pouchlaw4_AddrEdges_L2_K K (.pan p))) h2).trans (pouchlaw4_AddrEdges_B2_N n l4 k03 want2 label2 local0 (fun (l4 : (Sq ((ByteArray × (ByteArray × Unit)) × (ByteArray × Unit)))) (k03 : Int) (want2 : Int) (label2 : ByteArray) (local0 : ByteArray) => pouchlaw4_AddrEdges_L2 n m l4 k03 want2 label2 local0) (fun a => some (.out a)) (fun a => some (.ret a)) (fun p => some (.pan p)) (pouchlaw4_AddrEdges_L2_K K)))
theorem pouchlaw4_AddrEdges_L2_ok (n : Nat) : RunOk tys (callees Out (pouchlaw0_Within_es n)) (pouchlaw4_AddrEdges_hint n) n (codeAt [1, 0, 1, 0, 0, 1, 0, 0, 1, 1, 1, 1, 0, 0, 0] (bodyOf Tryd.f7)) 4 := runOk_of (sp := pouchlaw4_AddrEdges_L2_sp) (rp := pouchlaw4_AddrEdges_L2_rp) (F := fun σ ρ K => (pouchlaw4_AddrEdges_L2 n n σ.1 σ.2.1 σ.2.2.1 σ.2.2.2.1 σ.2.2.2.2.1).bind (pouchlaw4_AddrEdges_L2_K K)) (by kernel_rfl) fun K σ ρ => pouchlaw4_AddrEdges_L2_E n K n σ.1 σ.2.1 σ.2.2.1 σ.2.2.2.1 σ.2.2.2.2.1
theorem pouchlaw4_AddrEdges_L3_E (n : Nat) (K : XE → List AV → AHeap → Option Out) : ∀ (m : Nat) (l6 : (Sq ((ByteArray × (ByteArray × Unit)) × (ByteArray × Unit)))) (k05 : Int) (want4 : Int) (label4 : ByteArray) (local02 : ByteArray) (long : ByteArray), loopI tys (callees Out (pouchlaw0_Within_es n)) (pouchlaw4_AddrEdges_hint n) n (codeAt [1, 0, 1, 0, 0, 1, 0, 0, 1, 1, 1, 1, 1, 1, 0, 0, 0] (bodyOf Tryd.f7)) 6 pouchlaw4_AddrEdges_L3_sp pouchlaw4_AddrEdges_L3_rp K m (l6, (k05, (want4, (label4, (local02, (long, ())))))) () = (pouchlaw4_AddrEdges_L3 n m l6 k05 want4 label4 local02 long).bind (pouchlaw4_AddrEdges_L3_K K)
  | 0, l6, k05, want4, label4, local02, long => by kernel_rfl
  | m + 1, l6, k05, want4, label4, local02, long => by
    have h1 : loopI tys (callees Out (pouchlaw0_Within_es n)) (pouchlaw4_AddrEdges_hint n) n (codeAt [1, 0, 1, 0, 0, 1, 0, 0, 1, 1, 1, 1, 1, 1, 0, 0, 0] (bodyOf Tryd.f7)) 6 pouchlaw4_AddrEdges_L3_sp pouchlaw4_AddrEdges_L3_rp K (m + 1) (l6, (k05, (want4, (label4, (local02, (long, ())))))) () = pouchlaw4_AddrEdges_B3 n l6 k05 want4 label4 local02 long (fun (l6 : (Sq ((ByteArray × (ByteArray × Unit)) × (ByteArray × Unit)))) (k05 : Int) (want4 : Int) (label4 : ByteArray) (local02 : ByteArray) (long : ByteArray) => loopI tys (callees Out (pouchlaw0_Within_es n)) (pouchlaw4_AddrEdges_hint n) n (codeAt [1, 0, 1, 0, 0, 1, 0, 0, 1, 1, 1, 1, 1, 1, 0, 0, 0] (bodyOf Tryd.f7)) 6 pouchlaw4_AddrEdges_L3_sp pouchlaw4_AddrEdges_L3_rp K m (l6, (k05, (want4, (label4, (local02, (long, ())))))) ()) (fun a => pouchlaw4_AddrEdges_L3_K K (.out a)) (fun a => pouchlaw4_AddrEdges_L3_K K (.ret a)) (fun p => pouchlaw4_AddrEdges_L3_K K (.pan p)) := by kernel_rfl
    have h2 : (fun (l6 : (Sq ((ByteArray × (ByteArray × Unit)) × (ByteArray × Unit)))) (k05 : Int) (want4 : Int) (label4 : ByteArray) (local02 : ByteArray) (long : ByteArray) => loopI tys (callees Out (pouchlaw0_Within_es n)) (pouchlaw4_AddrEdges_hint n) n (codeAt [1, 0, 1, 0, 0, 1, 0, 0, 1, 1, 1, 1, 1, 1, 0, 0, 0] (bodyOf Tryd.f7)) 6 pouchlaw4_AddrEdges_L3_sp pouchlaw4_AddrEdges_L3_rp K m (l6, (k05, (want4, (label4, (local02, (long, ())))))) ()) = (fun (l6 : (Sq ((ByteArray × (ByteArray × Unit)) × (ByteArray × Unit)))) (k05 : Int) (want4 : Int) (label4 : ByteArray) (local02 : ByteArray) (long : ByteArray) => (pouchlaw4_AddrEdges_L3 n m l6 k05 want4 label4 local02 long).bind (pouchlaw4_AddrEdges_L3_K K)) := funext fun l6 => funext fun k05 => funext fun want4 => funext fun label4 => funext fun local02 => funext fun long => pouchlaw4_AddrEdges_L3_E n K m l6 k05 want4 label4 local02 long
    exact h1.trans ((congrArg (fun z => pouchlaw4_AddrEdges_B3 n l6 k05 want4 label4 local02 long z (fun a => pouchlaw4_AddrEdges_L3_K K (.out a)) (fun a => pouchlaw4_AddrEdges_L3_K K (.ret a)) (fun p => pouchlaw4_AddrEdges_L3_K K (.pan p))) h2).trans (pouchlaw4_AddrEdges_B3_N n l6 k05 want4 label4 local02 long (fun (l6 : (Sq ((ByteArray × (ByteArray × Unit)) × (ByteArray × Unit)))) (k05 : Int) (want4 : Int) (label4 : ByteArray) (local02 : ByteArray) (long : ByteArray) => pouchlaw4_AddrEdges_L3 n m l6 k05 want4 label4 local02 long) (fun a => some (.out a)) (fun a => some (.ret a)) (fun p => some (.pan p)) (pouchlaw4_AddrEdges_L3_K K)))
theorem pouchlaw4_AddrEdges_L3_ok (n : Nat) : RunOk tys (callees Out (pouchlaw0_Within_es n)) (pouchlaw4_AddrEdges_hint n) n (codeAt [1, 0, 1, 0, 0, 1, 0, 0, 1, 1, 1, 1, 1, 1, 0, 0, 0] (bodyOf Tryd.f7)) 6 := runOk_of (sp := pouchlaw4_AddrEdges_L3_sp) (rp := pouchlaw4_AddrEdges_L3_rp) (F := fun σ ρ K => (pouchlaw4_AddrEdges_L3 n n σ.1 σ.2.1 σ.2.2.1 σ.2.2.2.1 σ.2.2.2.2.1 σ.2.2.2.2.2.1).bind (pouchlaw4_AddrEdges_L3_K K)) (by kernel_rfl) fun K σ ρ => pouchlaw4_AddrEdges_L3_E n K n σ.1 σ.2.1 σ.2.2.1 σ.2.2.2.1 σ.2.2.2.2.1 σ.2.2.2.2.2.1
theorem pouchlaw4_AddrEdges_L0_E (n : Nat) (K : XE → List AV → AHeap → Option Out) : ∀ (m : Nat) (l1 : (Sq ((ByteArray × (ByteArray × Unit)) × (ByteArray × Unit)))) (k0 : Int), loopI tys (callees Out (pouchlaw0_Within_es n)) (pouchlaw4_AddrEdges_hint n) n (codeAt [1, 0, 1, 0, 0] (bodyOf Tryd.f7)) 0 pouchlaw4_AddrEdges_L0_sp pouchlaw4_AddrEdges_L0_rp K m (l1, (k0, ())) () = (pouchlaw4_AddrEdges_L0 n m l1 k0).bind (pouchlaw4_AddrEdges_L0_K K)
  | 0, l1, k0 => by kernel_rfl
  | m + 1, l1, k0 => by
    have h1 : loopI tys (callees Out (pouchlaw0_Within_es n)) (pouchlaw4_AddrEdges_hint n) n (codeAt [1, 0, 1, 0, 0] (bodyOf Tryd.f7)) 0 pouchlaw4_AddrEdges_L0_sp pouchlaw4_AddrEdges_L0_rp K (m + 1) (l1, (k0, ())) () = pouchlaw4_AddrEdges_B0 n l1 k0 (fun (l1 : (Sq ((ByteArray × (ByteArray × Unit)) × (ByteArray × Unit)))) (k0 : Int) => loopI tys (callees Out (pouchlaw0_Within_es n)) (pouchlaw4_AddrEdges_hint n) n (codeAt [1, 0, 1, 0, 0] (bodyOf Tryd.f7)) 0 pouchlaw4_AddrEdges_L0_sp pouchlaw4_AddrEdges_L0_rp K m (l1, (k0, ())) ()) (fun a => pouchlaw4_AddrEdges_L0_K K (.out a)) (fun a => pouchlaw4_AddrEdges_L0_K K (.ret a)) (fun p => pouchlaw4_AddrEdges_L0_K K (.pan p)) := by kernel_rfl
    have h2 : (fun (l1 : (Sq ((ByteArray × (ByteArray × Unit)) × (ByteArray × Unit)))) (k0 : Int) => loopI tys (callees Out (pouchlaw0_Within_es n)) (pouchlaw4_AddrEdges_hint n) n (codeAt [1, 0, 1, 0, 0] (bodyOf Tryd.f7)) 0 pouchlaw4_AddrEdges_L0_sp pouchlaw4_AddrEdges_L0_rp K m (l1, (k0, ())) ()) = (fun (l1 : (Sq ((ByteArray × (ByteArray × Unit)) × (ByteArray × Unit)))) (k0 : Int) => (pouchlaw4_AddrEdges_L0 n m l1 k0).bind (pouchlaw4_AddrEdges_L0_K K)) := funext fun l1 => funext fun k0 => pouchlaw4_AddrEdges_L0_E n K m l1 k0
    exact h1.trans ((congrArg (fun z => pouchlaw4_AddrEdges_B0 n l1 k0 z (fun a => pouchlaw4_AddrEdges_L0_K K (.out a)) (fun a => pouchlaw4_AddrEdges_L0_K K (.ret a)) (fun p => pouchlaw4_AddrEdges_L0_K K (.pan p))) h2).trans (pouchlaw4_AddrEdges_B0_N n l1 k0 (fun (l1 : (Sq ((ByteArray × (ByteArray × Unit)) × (ByteArray × Unit)))) (k0 : Int) => pouchlaw4_AddrEdges_L0 n m l1 k0) (fun a => some (.out a)) (fun a => some (.ret a)) (fun p => some (.pan p)) (pouchlaw4_AddrEdges_L0_K K)))
theorem pouchlaw4_AddrEdges_L0_ok (n : Nat) : RunOk tys (callees Out (pouchlaw0_Within_es n)) (pouchlaw4_AddrEdges_hint n) n (codeAt [1, 0, 1, 0, 0] (bodyOf Tryd.f7)) 0 := runOk_of (sp := pouchlaw4_AddrEdges_L0_sp) (rp := pouchlaw4_AddrEdges_L0_rp) (F := fun σ ρ K => (pouchlaw4_AddrEdges_L0 n n σ.1 σ.2.1).bind (pouchlaw4_AddrEdges_L0_K K)) (by kernel_rfl) fun K σ ρ => pouchlaw4_AddrEdges_L0_E n K n σ.1 σ.2.1
theorem pouchlaw4_AddrEdges_runs (n : Nat) : RunsOk tys (callees Out (pouchlaw0_Within_es n)) (pouchlaw4_AddrEdges_hint n) n (bodyOf Tryd.f7) 0 := ⟨trivial, ⟨⟨trivial, ⟨pouchlaw4_AddrEdges_L0_ok n, ⟨⟨trivial, ⟨trivial, trivial⟩⟩, ⟨⟨trivial, ⟨trivial, ⟨⟨pouchlaw4_AddrEdges_L1_ok n, ⟨⟨trivial, ⟨trivial, trivial⟩⟩, trivial⟩⟩, ⟨trivial, ⟨⟨pouchlaw4_AddrEdges_L2_ok n, ⟨⟨trivial, ⟨trivial, trivial⟩⟩, trivial⟩⟩, ⟨trivial, ⟨⟨pouchlaw4_AddrEdges_L3_ok n, ⟨⟨trivial, ⟨trivial, trivial⟩⟩, ⟨trivial, ⟨trivial, trivial⟩⟩⟩⟩, ⟨trivial, ⟨⟨trivial, trivial⟩, trivial⟩⟩⟩⟩⟩⟩⟩⟩⟩, trivial⟩⟩⟩⟩, ⟨trivial, trivial⟩⟩⟩
theorem pouchlaw4_AddrEdges_at : Tryd.prog.funcs[7]? = some Tryd.f7 := by kernel_rfl
theorem pouchlaw4_AddrEdges_ent (n : Nat) : Enters Tryd.prog 7 := enters_of (c := bodyOf Tryd.f7) pouchlaw4_AddrEdges_at (by kernel_rfl) (by kernel_rfl)
theorem pouchlaw4_AddrEdges_E (n : Nat) (l : (Sq ((ByteArray × (ByteArray × Unit)) × (ByteArray × Unit)))) : fnA tys (callees Out (pouchlaw0_Within_es n)) (pouchlaw4_AddrEdges_hint n) n Tryd.f7 (encL (.pair (.sl (.pair (.pair .str (.pair .str .unit)) (.pair .str .unit))) .unit) (l, ())) [] (soloA fun v => some (.ret v)) (soloA fun v => some (.pan v)) = pouchlaw4_AddrEdges_B n l (fun y => some (.ret (encR (.one .bool) y))) := by kernel_rfl
theorem pouchlaw4_AddrEdges_ok (n : Nat) : EntryOk Tryd.prog gl ⟨7, pcT (.pair (.sl (.pair (.pair .str (.pair .str .unit)) (.pair .str .unit))) .unit) (.one .bool) (fun xs => pouchlaw4_AddrEdges n xs.1), none, none⟩ :=
  pcT_ok (pouchlaw4_AddrEdges_ent n) fun xs y h => ans_of_fn tys_ok (pouchlaw0_Within_es_ok n) mixed (hint := pouchlaw4_AddrEdges_hint n) (n := n) (fn := Tryd.f7) pouchlaw4_AddrEdges_at (fun c hc => by
    have : bodyOf Tryd.f7 = c := by unfold bodyOf; rw [hc]; rfl
    exact this ▸ pouchlaw4_AddrEdges_runs n) (run_ret (φ := (fun y => some (Out.ret (encR (.one .bool) y)))) ((pouchlaw4_AddrEdges_E n xs.1).trans (pouchlaw4_AddrEdges_N (R := Bool) (S := Out) n xs.1 some (fun y => some (Out.ret (encR (.one .bool) y))))) h)
def pouchlaw4_AddrEdges_es (n : Nat) : List Entry := ⟨7, pcT (.pair (.sl (.pair (.pair .str (.pair .str .unit)) (.pair .str .unit))) .unit) (.one .bool) (fun xs => pouchlaw4_AddrEdges n xs.1), none, none⟩ :: pouchlaw0_Within_es n
theorem pouchlaw4_AddrEdges_es_ok (n : Nat) : AllOk Tryd.prog gl (pouchlaw4_AddrEdges_es n) := .cons (pouchlaw4_AddrEdges_ok n) (pouchlaw0_Within_es_ok n)

/- pouch/pouchlaw4.AddrQuotes -/
def pouchlaw4_AddrQuotes_B0 (n : Nat) {R : Type} (l1 : (Sq ((ByteArray × (ByteArray × Unit)) × (ByteArray × Unit)))) (i : Int) (in0 : (Sq ByteArray)) (out : (Sq ByteArray)) (kn : (Sq ((ByteArray × (ByteArray × Unit)) × (ByteArray × Unit))) → Int → (Sq ByteArray) → (Sq ByteArray) → Option R) (ko : ((Sq ((ByteArray × (ByteArray × Unit)) × (ByteArray × Unit)))) → Option R) (kr : (Bool) → Option R) (kp : Int → Option R) : Option R :=
  if (decide (i < (in0.n : Int))) = true then
    if 0 ≤ i ∧ i < (in0.n : Int) then
      (addr_Parse n (in0.at' (Int.toNat i))).bind fun v =>
      (pouchlaw4_num n v.2.1).bind fun v1 =>
      if (v1 != (0 : Int)) = false then
        if 0 ≤ i ∧ i < (out.n : Int) then
          if (!(v.1.1.toList == (out.at' (Int.toNat i)).toList)) = false then
            if (!(v.1.2.1.toList == (⟨#[120]⟩ : ByteArray).toList)) = true then
              kr false
            else
              kn l1 (IntKind.wrap .i64 (i + (1 : Int))) in0 out
          else
            kr false
        else
          none
      else
        kr false
    else
      none
  else
    ko l1
theorem pouchlaw4_AddrQuotes_B0_N (n : Nat) {R S : Type} (l1 : (Sq ((ByteArray × (ByteArray × Unit)) × (ByteArray × Unit)))) (i : Int) (in0 : (Sq ByteArray)) (out : (Sq ByteArray)) (kn : (Sq ((ByteArray × (ByteArray × Unit)) × (ByteArray × Unit))) → Int → (Sq ByteArray) → (Sq ByteArray) → Option R) (ko : ((Sq ((ByteArray × (ByteArray × Unit)) × (ByteArray × Unit)))) → Option R) (kr : (Bool) → Option R) (kp : Int → Option R) (φ : R → Option S) : pouchlaw4_AddrQuotes_B0 n l1 i in0 out (fun l1 i in0 out => (kn l1 i in0 out).bind φ) (fun a => (ko a).bind φ) (fun a => (kr a).bind φ) (fun a => (kp a).bind φ) = (pouchlaw4_AddrQuotes_B0 n l1 i in0 out kn ko kr kp).bind φ := by
  unfold pouchlaw4_AddrQuotes_B0
  first | (simp only [ite_bind, bind_bind, onL_bind, onX_bind, none_bind]) | rfl
def pouchlaw4_AddrQuotes_L0 (n : Nat) : Nat → (Sq ((ByteArray × (ByteArray × Unit)) × (ByteArray × Unit))) → Int → (Sq ByteArray) → (Sq ByteArray) → Option (Lx ((Sq ((ByteArray × (ByteArray × Unit)) × (ByteArray × Unit)))) (Bool))
  | 0, _, _, _, _ => none
  | m + 1, l1, i, in0, out => pouchlaw4_AddrQuotes_B0 n l1 i in0 out (fun l1 i in0 out => pouchlaw4_AddrQuotes_L0 n m l1 i in0 out) (fun a => some (.out a)) (fun a => some (.ret a)) (fun p => some (.pan p))
def pouchlaw4_AddrQuotes_L0_sp : List Sl := [.dat (.sl (.pair (.pair .str (.pair .str .unit)) (.pair .str .unit))), .top, .top, .row 0, .row 1, .dat (.int .i64), .top, .top, .top, .top, .top, .top, .top, .top, .top, .top, .top, .top, .top, .top, .top, .top, .top, .top, .top, .top, .top, .top, .top, .top, .top, .top, .top, .top, .top, .top, .top, .top, .top, .top, .top, .top, .top, .top, .top, .top, .top, .top, .top, .top, .top, .top, .top, .top, .top, .top, .top, .top, .top, .top, .top, .top, .top, .top, .top, .top, .top, .top, .top, .top, .top, .top, .top, .top, .top, .top, .top, .top, .top, .top, .top, .top, .top, .top, .top]
def pouchlaw4_AddrQuotes_L0_rp : List RS := [.row 9 1 .str false false, .row 9 1 .str false false]
def pouchlaw4_AddrQuotes_L0_out_sp : List Sl := [.dat (.sl (.pair (.pair .str (.pair .str .unit)) (.pair .str .unit))), .top, .top, .top, .top, .top, .top, .top, .top, .top, .top, .top, .top, .top, .top, .top, .top, .top, .top, .top, .top, .top, .top, .top, .top, .top, .top, .top, .top, .top, .top, .top, .top, .top, .top, .top, .top, .top, .top, .top, .top, .top, .top, .top, .top, .top, .top, .top, .top, .top, .top, .top, .top, .top, .top, .top, .top, .top, .top, .top, .top, .top, .top, .top, .top, .top, .top, .top, .top, .top, .top, .top, .top, .top, .top, .top, .top, .top, .top, .top, .top, .top, .top, .top, .top]
def pouchlaw4_AddrQuotes_L0_out_rp : List RS := []
def pouchlaw4_AddrQuotes_L0_ret_sp : List Sl := [.top, .top, .dat .bool, .top, .top, .top, .top, .top, .top, .top, .top, .top, .top, .top, .top, .top, .top, .top, .top, .top, .top, .top, .top, .top, .top, .top, .top, .top, .top, .top, .top, .top, .top, .top, .top, .top, .top, .top, .top, .top, .top, .top, .top, .top, .top, .top, .top, .top, .top, .top, .top, .top, .top, .top, .top, .top, .top, .top, .top, .top, .top, .top, .top, .top, .top, .top, .top, .top, .top, .top, .top, .top, .top, .top, .top, .top, .top, .top, .top, .top, .top, .top, .top, .top, .top]
def pouchlaw4_AddrQuotes_L0_ret_rp : List RS := []
def pouchlaw4_AddrQuotes_L0_K (K : XE → List AV → AHeap → Option Out) : Lx ((Sq ((ByteArray × (ByteArray × Unit)) × (ByteArray × Unit)))) (Bool) → Option Out := fun x => onL x (fun a => K (.exit 0) (encF (nsOf pouchlaw4_AddrQuotes_L0_out_rp ()) pouchlaw4_AddrQuotes_L0_out_sp (a, ())) (encH (nsOf pouchlaw4_AddrQuotes_L0_out_rp ()) pouchlaw4_AddrQuotes_L0_out_rp ())) (fun a => K .ret (encF (nsOf pouchlaw4_AddrQuotes_L0_ret_rp ()) pouchlaw4_AddrQuotes_L0_ret_sp (a, ())) (encH (nsOf pouchlaw4_AddrQuotes_L0_ret_rp ()) pouchlaw4_AddrQuotes_L0_ret_rp ())) (fun _ => none)
def pouchlaw4_AddrQuotes_B1 (n : Nat) {R : Type} (l3 : (Sq ((ByteArray × (ByteArray × Unit)) × (ByteArray × Unit)))) (i1 : Int) (bad : (Sq ByteArray)) (kn : (Sq ((ByteArray × (ByteArray × Unit)) × (ByteArray × Unit))) → Int → (Sq ByteArray) → Option R) (ko : ((Sq ((ByteArray × (ByteArray × Unit)) × (ByteArray × Unit)))) → Option R) (kr : (Bool) → Option R) (kp : Int → Option R) : Option R :=
  if (decide (i1 < (bad.n : Int))) = true then
    if 0 ≤ i1 ∧ i1 < (bad.n : Int) then
      (addr_Parse n (bad.at' (Int.toNat i1))).bind fun v2 =>
      (pouchlaw4_num n v2.2.1).bind fun v3 =>
      if (v3 != (8 : Int)) = true then
        kr false
      else
        kn l3 (IntKind.wrap .i64 (i1 + (1 : Int))) bad
    else
      none
  else
    ko l3
theorem pouchlaw4_AddrQuotes_B1_N (n : Nat) {R S : Type} (l3 : (Sq ((ByteArray × (ByteArray × Unit)) × (ByteArray × Unit)))) (i1 : Int) (bad : (Sq ByteArray)) (kn : (Sq ((ByteArray × (ByteArray × Unit)) × (ByteArray × Unit))) → Int → (Sq ByteArray) → Option R) (ko : ((Sq ((ByteArray × (ByteArray × Unit)) × (ByteArray × Unit)))) → Option R) (kr : (Bool) → Option R) (kp : Int → Option R) (φ : R → Option S) : pouchlaw4_AddrQuotes_B1 n l3 i1 bad (fun l3 i1 bad => (kn l3 i1 bad).bind φ) (fun a => (ko a).bind φ) (fun a => (kr a).bind φ) (fun a => (kp a).bind φ) = (pouchlaw4_AddrQuotes_B1 n l3 i1 bad kn ko kr kp).bind φ := by
  unfold pouchlaw4_AddrQuotes_B1
  first | (simp only [ite_bind, bind_bind, onL_bind, onX_bind, none_bind]) | rfl
def pouchlaw4_AddrQuotes_L1 (n : Nat) : Nat → (Sq ((ByteArray × (ByteArray × Unit)) × (ByteArray × Unit))) → Int → (Sq ByteArray) → Option (Lx ((Sq ((ByteArray × (ByteArray × Unit)) × (ByteArray × Unit)))) (Bool))
  | 0, _, _, _ => none
  | m + 1, l3, i1, bad => pouchlaw4_AddrQuotes_B1 n l3 i1 bad (fun l3 i1 bad => pouchlaw4_AddrQuotes_L1 n m l3 i1 bad) (fun a => some (.out a)) (fun a => some (.ret a)) (fun p => some (.pan p))
def pouchlaw4_AddrQuotes_L1_sp : List Sl := [.dat (.sl (.pair (.pair .str (.pair .str .unit)) (.pair .str .unit))), .top, .top, .top, .top, .top, .top, .top, .row 0, .dat (.int .i64), .top, .top, .top, .top, .top, .top, .top, .top, .top, .top, .top, .top, .top, .top, .top, .top, .top, .top, .top, .top, .top, .top, .top, .top, .top, .top, .top, .top, .top, .top, .top, .top, .top, .top, .top, .top, .top, .top, .top, .top, .top, .top, .top, .top, .top, .top, .top, .top, .top, .top, .top, .top, .top, .top, .top, .top, .top, .top, .top, .top, .top, .top, .top, .top, .top, .top, .top, .top, .top, .top, .top, .top, .top, .top, .top]
def pouchlaw4_AddrQuotes_L1_rp : List RS := [.row 9 1 .str false false]
def pouchlaw4_AddrQuotes_L1_out_sp : List Sl := [.dat (.sl (.pair (.pair .str (.pair .str .unit)) (.pair .str .unit))), .top, .top, .top, .top, .top, .top, .top, .top, .top, .top, .top, .top, .top, .top, .top, .top, .top, .top, .top, .top, .top, .top, .top, .top, .top, .top, .top, .top, .top, .top, .top, .top, .top, .top, .top, .top, .top, .top, .top, .top, .top, .top, .top, .top, .top, .top, .top, .top, .top, .top, .top, .top, .top, .top, .top, .top, .top, .top, .top, .top, .top, .top, .top, .top, .top, .top, .top, .top, .top, .top, .top, .top, .top, .top, .top, .top, .top, .top, .top, .top, .top, .top, .top, .top]
def pouchlaw4_AddrQuotes_L1_out_rp : List RS := []
def pouchlaw4_AddrQuotes_L1_ret_sp : List Sl := [.top, .top, .dat .bool, .top, .top, .top, .top, .top, .top, .top, .top, .top, .top, .top, .top, .top, .top, .top, .top, .top, .top, .top, .top, .top, .top, .top, .top, .top, .top, .top, .top, .top, .top, .top, .top, .top, .top, .top, .top, .top, .top, .top, .top, .top, .top, .top, .top, .top, .top, .top, .top, .top, .top, .top, .top, .top, .top, .top, .top, .top, .top, .top, .top, .top, .top, .top, .top, .top, .top, .top, .top, .top, .top, .top, .top, .top, .top, .top, .top, .top, .top, .top, .top, .top, .top]
def pouchlaw4_AddrQuotes_L1_ret_rp : List RS := []
def pouchlaw4_AddrQuotes_L1_K (K : XE → List AV → AHeap → Option Out) : Lx ((Sq ((ByteArray × (ByteArray × Unit)) × (ByteArray × Unit)))) (Bool) → Option Out := fun x => onL x (fun a => K (.exit 2) (encF (nsOf pouchlaw4_AddrQuotes_L1_out_rp ()) pouchlaw4_AddrQuotes_L1_out_sp (a, ())) (encH (nsOf pouchlaw4_AddrQuotes_L1_out_rp ()) pouchlaw4_AddrQuotes_L1_out_rp ())) (fun a => K .ret (encF (nsOf pouchlaw4_AddrQuotes_L1_ret_rp ()) pouchlaw4_AddrQuotes_L1_ret_sp (a, ())) (encH (nsOf pouchlaw4_AddrQuotes_L1_ret_rp ()) pouchlaw4_AddrQuotes_L1_ret_rp ())) (fun _ => none)
def pouchlaw4_AddrQuotes_B (n : Nat) {R : Type} (l : (Sq ((ByteArray × (ByteArray × Unit)) × (ByteArray × Unit)))) (k : Bool → Option R) : Option R :=
  (pouchlaw4_AddrQuotes_L0 n n l (0 : Int) (⟨8, fun q => List.getD (α := ByteArray) [(⟨#[34, 97, 46, 98, 34, 64, 120]⟩ : ByteArray), (⟨#[34, 97, 92, 98, 34, 64, 120]⟩ : ByteArray), (⟨#[34, 97, 32, 98, 34, 64, 120]⟩ : ByteArray), (⟨#[34, 97, 92, 32, 98, 34, 64, 120]⟩ : ByteArray), (⟨#[34, 97, 92, 34, 98, 34, 64, 120]⟩ : ByteArray), (⟨#[34, 34, 64, 120]⟩ : ByteArray), (⟨#[34, 97, 46, 46, 98, 34, 64, 120]⟩ : ByteArray), (⟨#[34, 97, 64, 98, 34, 64, 120]⟩ : ByteArray)] q (zeroEl .str)⟩ : Sq ByteArray) (⟨8, fun q => List.getD (α := ByteArray) [(⟨#[97, 46, 98]⟩ : ByteArray), (⟨#[97, 98]⟩ : ByteArray), (⟨#[34, 97, 32, 98, 34]⟩ : ByteArray), (⟨#[34, 97, 32, 98, 34]⟩ : ByteArray), (⟨#[34, 97, 92, 34, 98, 34]⟩ : ByteArray), (⟨#[34, 34]⟩ : ByteArray), (⟨#[34, 97, 46, 46, 98, 34]⟩ : ByteArray), (⟨#[34, 97, 64, 98, 34]⟩ : ByteArray)] q (zeroEl .str)⟩ : Sq ByteArray)).bind fun x_1 => onL x_1
    (fun a_2 =>
      (pouchlaw4_AddrQuotes_L1 n n a_2 (0 : Int) (⟨18, fun q => List.getD (α := ByteArray) [(⟨#[97, 46, 46, 98, 64, 120]⟩ : ByteArray), (⟨#[46, 97, 64, 120]⟩ : ByteArray), (⟨#[97, 46, 64, 120]⟩ : ByteArray), (⟨#[97, 64]⟩ : ByteArray), (⟨#[64, 120]⟩ : ByteArray), (⟨#[97]⟩ : ByteArray), (⟨#[97, 32, 98, 64, 120]⟩ : ByteArray), (⟨#[97, 64, 98, 32, 99]⟩ : ByteArray), (⟨#[97, 64, 45, 98]⟩ : ByteArray), (⟨#[97, 64, 98, 45]⟩ : ByteArray), (⟨#[97, 64, 98, 46, 46, 99]⟩ : ByteArray), (⟨#[34, 97, 64, 120]⟩ : ByteArray), (⟨#[97, 34, 98, 64, 120]⟩ : ByteArray), (⟨#[97, 64, 91, 49, 46, 50, 46, 51, 93]⟩ : ByteArray), (⟨#[97, 64, 91, 49, 46, 50, 46, 51, 46, 50, 53, 54, 93]⟩ : ByteArray), (⟨#[97, 64, 91, 48, 49, 46, 50, 46, 51, 46, 52, 93]⟩ : ByteArray), (⟨#[34, 97, 34, 98, 64, 120]⟩ : ByteArray), (⟨#[34, 97, 92, 34, 64, 120]⟩ : ByteArray)] q (zeroEl .str)⟩ : Sq ByteArray)).bind fun x_3 => onL x_3
        (fun a_4 =>
          (addr_Parse n (⟨#[97, 64, 91, 49, 48, 46, 48, 46, 50, 53, 53, 46, 49, 93]⟩ : ByteArray)).bind fun v4 =>
          (pouchlaw4_num n v4.2.1).bind fun v5 =>
          if (v5 == (0 : Int)) = true then
            if (v4.1.2.1.toList == (⟨#[91, 49, 48, 46, 48, 46, 50, 53, 53, 46, 49, 93]⟩ : ByteArray).toList) = true then
              if (decide ((a_4.n : Int) ≥ (0 : Int))) = true then
                (pouchlaw4_wakes n).bind fun v6 =>
                k v6
              else
                k false
            else
              k false
          else
            k false)
        (fun a_5 =>
          k a_5)
        (fun _ => none))
    (fun a_6 =>
      k a_6)
    (fun _ => none)
def pouchlaw4_AddrQuotes (n : Nat) (l : (Sq ((ByteArray × (ByteArray × Unit)) × (ByteArray × Unit)))) : Option Bool := pouchlaw4_AddrQuotes_B n l some
theorem pouchlaw4_AddrQuotes_N (n : Nat) {R S : Type} (l : (Sq ((ByteArray × (ByteArray × Unit)) × (ByteArray × Unit)))) (k : Bool → Option R) (φ : R → Option S) : pouchlaw4_AddrQuotes_B n l (fun a => (k a).bind φ) = (pouchlaw4_AddrQuotes_B n l k).bind φ := by
  unfold pouchlaw4_AddrQuotes_B
  first | (simp only [ite_bind, bind_bind, onL_bind, onX_bind, none_bind]) | rfl
def pouchlaw4_AddrQuotes_hint (n : Nat) : Hint Out := { live := fun c => (cond (Nat.beq c 2) [(0, some (.sl (.pair (.pair .str (.pair .str .unit)) (.pair .str .unit)))), (8, some (.sl .str)), (9, none)] (cond (Nat.beq c 0) [(0, some (.sl (.pair (.pair .str (.pair .str .unit)) (.pair .str .unit)))), (3, some (.sl .str)), (4, some (.sl .str)), (5, none)] [])), run := fun c => (cond (Nat.beq c 2) (some (runL pouchlaw4_AddrQuotes_L1_sp pouchlaw4_AddrQuotes_L1_rp fun σ ρ K => (pouchlaw4_AddrQuotes_L1 n n σ.1 σ.2.1 ρ.1).bind (pouchlaw4_AddrQuotes_L1_K K))) (cond (Nat.beq c 0) (some (runL pouchlaw4_AddrQuotes_L0_sp pouchlaw4_AddrQuotes_L0_rp fun σ ρ K => (pouchlaw4_AddrQuotes_L0 n n σ.1 σ.2.1 ρ.1 ρ.2.1).bind (pouchlaw4_AddrQuotes_L0_K K))) none)), xm := fun c q => (cond (Nat.beq c 2 && Nat.beq (q.getD 1000000) 2 && q.isSome) (some [(0, some (.sl (.pair (.pair .str (.pair .str .unit)) (.pair .str .unit))))]) (cond (Nat.beq c 3 && q.isNone) (some [(2, none)]) (cond (Nat.beq c 0 && Nat.beq (q.getD 1000000) 0 && q.isSome) (some [(0, some (.sl (.pair (.pair .str (.pair .str .unit)) (.pair .str .unit))))]) (cond (Nat.beq c 1 && q.isNone) (some [(2, none)]) none)))) }
theorem pouchlaw4_AddrQuotes_L0_E (n : Nat) (K : XE → List AV → AHeap → Option Out) : ∀ (m : Nat) (l1 : (Sq ((ByteArray × (ByteArray × Unit)) × (ByteArray × Unit)))) (i : Int) (in0 : (Sq ByteArray)) (out : (Sq ByteArray)), loopI tys (callees Out (pouchlaw4_AddrEdges_es n)) (pouchlaw4_AddrQuotes_hint n) n (codeAt [1, 1, 1, 0, 1, 0, 0] (bodyOf Tryd.f4)) 0 pouchlaw4_AddrQuotes_L0_sp pouchlaw4_AddrQuotes_L0_rp K m (l1, (i, ())) (in0, (out, ())) = (pouchlaw4_AddrQuotes_L0 n m l1 i in0 out).bind (pouchlaw4_AddrQuotes_L0_K K)
  | 0, l1, i, in0, out => by kernel_rfl
  | m + 1, l1, i, in0, out => by
    have h1 : loopI tys (callees Out (pouchlaw4_AddrEdges_es n)) (pouchlaw4_AddrQuotes_hint n) n (codeAt [1, 1, 1, 0, 1, 0, 0] (bodyOf Tryd.f4)) 0 pouchlaw4_AddrQuotes_L0_sp pouchlaw4_AddrQuotes_L0_rp K (m + 1) (l1, (i, ())) (in0, (out, ())) = pouchlaw4_AddrQuotes_B0 n l1 i in0 out (fun (l1 : (Sq ((ByteArray × (ByteArray × Unit)) × (ByteArray × Unit)))) (i : Int) (in0 : (Sq ByteArray)) (out : (Sq ByteArray)) => loopI tys (callees Out (pouchlaw4_AddrEdges_es n)) (pouchlaw4_AddrQuotes_hint n) n (codeAt [1, 1, 1, 0, 1, 0, 0] (bodyOf Tryd.f4)) 0 pouchlaw4_AddrQuotes_L0_sp pouchlaw4_AddrQuotes_L0_rp K m (l1, (i, ())) (in0, (out, ()))) (fun a => pouchlaw4_AddrQuotes_L0_K K (.out a)) (fun a => pouchlaw4_AddrQuotes_L0_K K (.ret a)) (fun p => pouchlaw4_AddrQuotes_L0_K K (.pan p)) := by kernel_rfl
    have h2 : (fun (l1 : (Sq ((ByteArray × (ByteArray × Unit)) × (ByteArray × Unit)))) (i : Int) (in0 : (Sq ByteArray)) (out : (Sq ByteArray)) => loopI tys (callees Out (pouchlaw4_AddrEdges_es n)) (pouchlaw4_AddrQuotes_hint n) n (codeAt [1, 1, 1, 0, 1, 0, 0] (bodyOf Tryd.f4)) 0 pouchlaw4_AddrQuotes_L0_sp pouchlaw4_AddrQuotes_L0_rp K m (l1, (i, ())) (in0, (out, ()))) = (fun (l1 : (Sq ((ByteArray × (ByteArray × Unit)) × (ByteArray × Unit)))) (i : Int) (in0 : (Sq ByteArray)) (out : (Sq ByteArray)) => (pouchlaw4_AddrQuotes_L0 n m l1 i in0 out).bind (pouchlaw4_AddrQuotes_L0_K K)) := funext fun l1 => funext fun i => funext fun in0 => funext fun out => pouchlaw4_AddrQuotes_L0_E n K m l1 i in0 out
    exact h1.trans ((congrArg (fun z => pouchlaw4_AddrQuotes_B0 n l1 i in0 out z (fun a => pouchlaw4_AddrQuotes_L0_K K (.out a)) (fun a => pouchlaw4_AddrQuotes_L0_K K (.ret a)) (fun p => pouchlaw4_AddrQuotes_L0_K K (.pan p))) h2).trans (pouchlaw4_AddrQuotes_B0_N n l1 i in0 out (fun (l1 : (Sq ((ByteArray × (ByteArray × Unit)) × (ByteArray × Unit)))) (i : Int) (in0 : (Sq ByteArray)) (out : (Sq ByteArray)) => pouchlaw4_AddrQuotes_L0 n m l1 i in0 out) (fun a => some (.out a)) (fun a => some (.ret a)) (fun p => some (.pan p)) (pouchlaw4_AddrQuotes_L0_K K)))
theorem pouchlaw4_AddrQuotes_L0_ok (n : Nat) : RunOk tys (callees Out (pouchlaw4_AddrEdges_es n)) (pouchlaw4_AddrQuotes_hint n) n (codeAt [1, 1, 1, 0, 1, 0, 0] (bodyOf Tryd.f4)) 0 := runOk_of (sp := pouchlaw4_AddrQuotes_L0_sp) (rp := pouchlaw4_AddrQuotes_L0_rp) (F := fun σ ρ K => (pouchlaw4_AddrQuotes_L0 n n σ.1 σ.2.1 ρ.1 ρ.2.1).bind (pouchlaw4_AddrQuotes_L0_K K)) (by kernel_rfl) fun K σ ρ => pouchlaw4_AddrQuotes_L0_E n K n σ.1 σ.2.1 ρ.1 ρ.2.1
theorem pouchlaw4_AddrQuotes_L1_E (n : Nat) (K : XE → List AV → AHeap → Option Out) : ∀ (m : Nat) (l3 : (Sq ((ByteArray × (ByteArray × Unit)) × (ByteArray × Unit)))) (i1 : Int) (bad : (Sq ByteArray)), loopI tys (callees Out (pouchlaw4_AddrEdges_es n)) (pouchlaw4_AddrQuotes_hint n) n (codeAt [1, 1, 1, 1, 1, 0, 1, 0, 0] (bodyOf Tryd.f4)) 2 pouchlaw4_AddrQuotes_L1_sp pouchlaw4_AddrQuotes_L1_rp K m (l3, (i1, ())) (bad, ()) = (pouchlaw4_AddrQuotes_L1 n m l3 i1 bad).bind (pouchlaw4_AddrQuotes_L1_K K)
  | 0, l3, i1, bad => by kernel_rfl
  | m + 1, l3, i1, bad => by
    have h1 : loopI tys (callees Out (pouchlaw4_AddrEdges_es n)) (pouchlaw4_AddrQuotes_hint n) n (codeAt [1, 1, 1, 1, 1, 0, 1, 0, 0] (bodyOf Tryd.f4)) 2 pouchlaw4_AddrQuotes_L1_sp pouchlaw4_AddrQuotes_L1_rp K (m + 1) (l3, (i1, ())) (bad, ()) = pouchlaw4_AddrQuotes_B1 n l3 i1 bad (fun (l3 : (Sq ((ByteArray × (ByteArray × Unit)) × (ByteArray × Unit)))) (i1 : Int) (bad : (Sq ByteArray)) => loopI tys (callees Out (pouchlaw4_AddrEdges_es n)) (pouchlaw4_AddrQuotes_hint n) n (codeAt [1, 1, 1, 1, 1, 0, 1, 0, 0] (bodyOf Tryd.f4)) 2 pouchlaw4_AddrQuotes_L1_sp pouchlaw4_AddrQuotes_L1_rp K m (l3, (i1, ())) (bad, ())) (fun a => pouchlaw4_AddrQuotes_L1_K K (.out a)) (fun a => pouchlaw4_AddrQuotes_L1_K K (.ret a)) (fun p => pouchlaw4_AddrQuotes_L1_K K (.pan p)) := by kernel_rfl
    have h2 : (fun (l3 : (Sq ((ByteArray × (ByteArray × Unit)) × (ByteArray × Unit)))) (i1 : Int) (bad : (Sq ByteArray)) => loopI tys (callees Out (pouchlaw4_AddrEdges_es n)) (pouchlaw4_AddrQuotes_hint n) n (codeAt [1, 1, 1, 1, 1, 0, 1, 0, 0] (bodyOf Tryd.f4)) 2 pouchlaw4_AddrQuotes_L1_sp pouchlaw4_AddrQuotes_L1_rp K m (l3, (i1, ())) (bad, ())) = (fun (l3 : (Sq ((ByteArray × (ByteArray × Unit)) × (ByteArray × Unit)))) (i1 : Int) (bad : (Sq ByteArray)) => (pouchlaw4_AddrQuotes_L1 n m l3 i1 bad).bind (pouchlaw4_AddrQuotes_L1_K K)) := funext fun l3 => funext fun i1 => funext fun bad => pouchlaw4_AddrQuotes_L1_E n K m l3 i1 bad
    exact h1.trans ((congrArg (fun z => pouchlaw4_AddrQuotes_B1 n l3 i1 bad z (fun a => pouchlaw4_AddrQuotes_L1_K K (.out a)) (fun a => pouchlaw4_AddrQuotes_L1_K K (.ret a)) (fun p => pouchlaw4_AddrQuotes_L1_K K (.pan p))) h2).trans (pouchlaw4_AddrQuotes_B1_N n l3 i1 bad (fun (l3 : (Sq ((ByteArray × (ByteArray × Unit)) × (ByteArray × Unit)))) (i1 : Int) (bad : (Sq ByteArray)) => pouchlaw4_AddrQuotes_L1 n m l3 i1 bad) (fun a => some (.out a)) (fun a => some (.ret a)) (fun p => some (.pan p)) (pouchlaw4_AddrQuotes_L1_K K)))
theorem pouchlaw4_AddrQuotes_L1_ok (n : Nat) : RunOk tys (callees Out (pouchlaw4_AddrEdges_es n)) (pouchlaw4_AddrQuotes_hint n) n (codeAt [1, 1, 1, 1, 1, 0, 1, 0, 0] (bodyOf Tryd.f4)) 2 := runOk_of (sp := pouchlaw4_AddrQuotes_L1_sp) (rp := pouchlaw4_AddrQuotes_L1_rp) (F := fun σ ρ K => (pouchlaw4_AddrQuotes_L1 n n σ.1 σ.2.1 ρ.1).bind (pouchlaw4_AddrQuotes_L1_K K)) (by kernel_rfl) fun K σ ρ => pouchlaw4_AddrQuotes_L1_E n K n σ.1 σ.2.1 ρ.1
theorem pouchlaw4_AddrQuotes_runs (n : Nat) : RunsOk tys (callees Out (pouchlaw4_AddrEdges_es n)) (pouchlaw4_AddrQuotes_hint n) n (bodyOf Tryd.f4) 0 := ⟨trivial, ⟨trivial, ⟨trivial, ⟨⟨trivial, ⟨pouchlaw4_AddrQuotes_L0_ok n, ⟨⟨trivial, ⟨trivial, trivial⟩⟩, ⟨⟨trivial, ⟨trivial, ⟨⟨trivial, trivial⟩, trivial⟩⟩⟩, trivial⟩⟩⟩⟩, ⟨trivial, ⟨⟨trivial, ⟨pouchlaw4_AddrQuotes_L1_ok n, ⟨⟨trivial, ⟨trivial, trivial⟩⟩, ⟨⟨trivial, ⟨trivial, ⟨⟨trivial, trivial⟩, trivial⟩⟩⟩, trivial⟩⟩⟩⟩, ⟨trivial, ⟨trivial, trivial⟩⟩⟩⟩⟩⟩⟩⟩
theorem pouchlaw4_AddrQuotes_at : Tryd.prog.funcs[4]? = some Tryd.f4 := by kernel_rfl
theorem pouchlaw4_AddrQuotes_ent (n : Nat) : Enters Tryd.prog 4 := enters_of (c := bodyOf Tryd.f4) pouchlaw4_AddrQuotes_at (by kernel_rfl) (by kernel_rfl)
theorem pouchlaw4_AddrQuotes_E (n : Nat) (l : (Sq ((ByteArray × (ByteArray × Unit)) × (ByteArray × Unit)))) : fnA tys (callees Out (pouchlaw4_AddrEdges_es n)) (pouchlaw4_AddrQuotes_hint n) n Tryd.f4 (encL (.pair (.sl (.pair (.pair .str (.pair .str .unit)) (.pair .str .unit))) .unit) (l, ())) [] (soloA fun v => some (.ret v)) (soloA fun v => some (.pan v)) = pouchlaw4_AddrQuotes_B n l (fun y => some (.ret (encR (.one .bool) y))) := by kernel_rfl
theorem pouchlaw4_AddrQuotes_ok (n : Nat) : EntryOk Tryd.prog gl ⟨4, pcT (.pair (.sl (.pair (.pair .str (.pair .str .unit)) (.pair .str .unit))) .unit) (.one .bool) (fun xs => pouchlaw4_AddrQuotes n xs.1), none, none⟩ :=
  pcT_ok (pouchlaw4_AddrQuotes_ent n) fun xs y h => ans_of_fn tys_ok (pouchlaw4_AddrEdges_es_ok n) mixed (hint := pouchlaw4_AddrQuotes_hint n) (n := n) (fn := Tryd.f4) pouchlaw4_AddrQuotes_at (fun c hc => by
    have : bodyOf Tryd.f4 = c := by unfold bodyOf; rw [hc]; rfl
    exact this ▸ pouchlaw4_AddrQuotes_runs n) (run_ret (φ := (fun y => some (Out.ret (encR (.one .bool) y)))) ((pouchlaw4_AddrQuotes_E n xs.1).trans (pouchlaw4_AddrQuotes_N (R := Bool) (S := Out) n xs.1 some (fun y => some (Out.ret (encR (.one .bool) y))))) h)
def pouchlaw4_AddrQuotes_es (n : Nat) : List Entry := ⟨4, pcT (.pair (.sl (.pair (.pair .str (.pair .str .unit)) (.pair .str .unit))) .unit) (.one .bool) (fun xs => pouchlaw4_AddrQuotes n xs.1), none, none⟩ :: pouchlaw4_AddrEdges_es n
theorem pouchlaw4_AddrQuotes_es_ok (n : Nat) : AllOk Tryd.prog gl (pouchlaw4_AddrQuotes_es n) := .cons (pouchlaw4_AddrQuotes_ok n) (pouchlaw4_AddrEdges_es_ok n)
end Go.Proofs.YthmhobnhladhbaaDoor.AM
