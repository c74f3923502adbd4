/- Typed functions that tell what the Go functions of this seat answer, and proofs of it, by program (gen.py). -/
import Derived.Test.YtpgboapflbpieaaDoorXT
import Derived.Test.YtpgboapflbpieaaDoorXB
import Derived.Test.YtpgboapflbpieaaDoorXL
set_option linter.all false
set_option linter.unusedVariables false
set_option linter.unusedSimpArgs false
set_option maxRecDepth 1000000
set_option maxHeartbeats 0
namespace Go.Proofs.YtpgboapflbpieaaDoor.AM
open Go Go.RowKit
noncomputable section
def es_0 (n : Nat) : List Entry := []
theorem es_0_ok (n : Nat) : AllOk Tryd.prog gl (es_0 n) := .nil
/- internal/stringslite.HasPrefix -/
def il_HasPrefix_B (n : Nat) {R : Type} (s : BA) (prefix0 : BA) (k : Bool → Option R) : Option R :=
 if (decide ((s.size : Int) ≥ (prefix0.size : Int))) = true then
  if 0 ≤ (prefix0.size : Int) ∧ (prefix0.size : Int) ≤ (s.size : Int) then
   k ((s.extract (Int.toNat (0 : Int)) (Int.toNat (prefix0.size : Int))).toList == prefix0.toList)
  else
   none
 else
  k false
def il_HasPrefix (n : Nat) (s : BA) (prefix0 : BA) : Option Bool := il_HasPrefix_B n s prefix0 some
theorem il_HasPrefix_N (n : Nat) {R S : Type} (s : BA) (prefix0 : BA) (k : Bool → Option R) (φ : R → Option S) : il_HasPrefix_B n s prefix0 (fun a => (k a).bind φ) = (il_HasPrefix_B n s prefix0 k).bind φ := by
  unfold il_HasPrefix_B
  first | (simp only [dup_self, both_self, iB, bB, oL, oX, nB]) | rfl
def il_HasPrefix_hint (n : Nat) : Hint Out := { live := fun c => [], run := fun c => none, xm := fun c q => none }
theorem il_HasPrefix_runs (n : Nat) : RunsOk tys (callees Out (es_0 n)) (il_HasPrefix_hint n) n (bodyOf Tryd.f42) 0 := runs_noloop (fun _ => rfl) _ _ (by kernel_rfl)
theorem il_HasPrefix_at : Tryd.prog.funcs[42]? = some Tryd.f42 := by kernel_rfl
theorem il_HasPrefix_ent (n : Nat) : Enters Tryd.prog 42 := enters_of (c := bodyOf Tryd.f42) il_HasPrefix_at (by kernel_rfl) (by kernel_rfl)
theorem il_HasPrefix_E (n : Nat) (s : BA) (prefix0 : BA) : fnA tys (callees Out (es_0 n)) (il_HasPrefix_hint n) n Tryd.f42 (encL (.pair .str (.pair .str .unit)) (s, (prefix0, ()))) [] (soloA fun v => some (.ret v)) (soloA fun v => some (.pan v)) = il_HasPrefix_B n s prefix0 (fun y => some (.ret (encR (.one .bool) y))) := by kernel_rfl
def il_HasPrefix_en (n : Nat) : Entry := ⟨42, pcT (.pair .str (.pair .str .unit)) (.one .bool) (fun xs => il_HasPrefix n xs.1 xs.2.1), none, none⟩
theorem il_HasPrefix_ok (n : Nat) : EntryOk Tryd.prog gl (il_HasPrefix_en n) :=
  pcT_ok (il_HasPrefix_ent n) fun xs y h => ans_of_fn tys_ok (es_0_ok n) mixed (hint := il_HasPrefix_hint n) (n := n) (fn := Tryd.f42) il_HasPrefix_at (runsC (il_HasPrefix_runs n)) (run_ret (φ := (fun y => some (Out.ret (encR (.one .bool) y)))) ((il_HasPrefix_E n xs.1 xs.2.1).trans (il_HasPrefix_N (R := Bool) (S := Out) n xs.1 xs.2.1 some (fun y => some (Out.ret (encR (.one .bool) y))))) h)
def il_HasPrefix_es (n : Nat) : List Entry := il_HasPrefix_en n :: es_0 n
theorem il_HasPrefix_es_ok (n : Nat) : AllOk Tryd.prog gl (il_HasPrefix_es n) := .cons (il_HasPrefix_ok n) (es_0_ok n)
/- strings.HasPrefix -/
def st_HasPrefix_B (n : Nat) {R : Type} (s : BA) (prefix0 : BA) (k : Bool → Option R) : Option R :=
 (il_HasPrefix n s prefix0).bind fun v =>
 k v
def st_HasPrefix (n : Nat) (s : BA) (prefix0 : BA) : Option Bool := st_HasPrefix_B n s prefix0 some
theorem st_HasPrefix_N (n : Nat) {R S : Type} (s : BA) (prefix0 : BA) (k : Bool → Option R) (φ : R → Option S) : st_HasPrefix_B n s prefix0 (fun a => (k a).bind φ) = (st_HasPrefix_B n s prefix0 k).bind φ := by
  unfold st_HasPrefix_B
  first | (simp only [dup_self, both_self, iB, bB, oL, oX, nB]) | rfl
def st_HasPrefix_hint (n : Nat) : Hint Out := { live := fun c => [], run := fun c => none, xm := fun c q => none }
theorem st_HasPrefix_runs (n : Nat) : RunsOk tys (callees Out (il_HasPrefix_es n)) (st_HasPrefix_hint n) n (bodyOf Tryd.f32) 0 := runs_noloop (fun _ => rfl) _ _ (by kernel_rfl)
theorem st_HasPrefix_at : Tryd.prog.funcs[32]? = some Tryd.f32 := by kernel_rfl
theorem st_HasPrefix_ent (n : Nat) : Enters Tryd.prog 32 := enters_of (c := bodyOf Tryd.f32) st_HasPrefix_at (by kernel_rfl) (by kernel_rfl)
theorem st_HasPrefix_E (n : Nat) (s : BA) (prefix0 : BA) : fnA tys (callees Out (il_HasPrefix_es n)) (st_HasPrefix_hint n) n Tryd.f32 (encL (.pair .str (.pair .str .unit)) (s, (prefix0, ()))) [] (soloA fun v => some (.ret v)) (soloA fun v => some (.pan v)) = st_HasPrefix_B n s prefix0 (fun y => some (.ret (encR (.one .bool) y))) := by kernel_rfl
def st_HasPrefix_en (n : Nat) : Entry := ⟨32, pcT (.pair .str (.pair .str .unit)) (.one .bool) (fun xs => st_HasPrefix n xs.1 xs.2.1), none, none⟩
theorem st_HasPrefix_ok (n : Nat) : EntryOk Tryd.prog gl (st_HasPrefix_en n) :=
  pcT_ok (st_HasPrefix_ent n) fun xs y h => ans_of_fn tys_ok (il_HasPrefix_es_ok n) mixed (hint := st_HasPrefix_hint n) (n := n) (fn := Tryd.f32) st_HasPrefix_at (runsC (st_HasPrefix_runs n)) (run_ret (φ := (fun y => some (Out.ret (encR (.one .bool) y)))) ((st_HasPrefix_E n xs.1 xs.2.1).trans (st_HasPrefix_N (R := Bool) (S := Out) n xs.1 xs.2.1 some (fun y => some (Out.ret (encR (.one .bool) y))))) h)
def st_HasPrefix_es (n : Nat) : List Entry := st_HasPrefix_en n :: il_HasPrefix_es n
theorem st_HasPrefix_es_ok (n : Nat) : AllOk Tryd.prog gl (st_HasPrefix_es n) := .cons (st_HasPrefix_ok n) (il_HasPrefix_es_ok n)
/- pouch/addr.must -/
def ad_must_B (n : Nat) {R : Type} (ok : Bool) (k : (Unit) → Option R) (kp : Int → Option R) : Option R :=
 if (!ok) = true then
  kp (8 : Int)
 else
  k ()
def ad_must (n : Nat) (ok : Bool) : Option (Except Int (Unit)) := ad_must_B n ok (fun y => some (.ok y)) (fun p => some (.error p))
theorem ad_must_N (n : Nat) {R S : Type} (ok : Bool) (k : (Unit) → Option R) (kp : Int → Option R) (φ : R → Option S) : ad_must_B n ok (fun a => (k a).bind φ) (fun a => (kp a).bind φ) = (ad_must_B n ok k kp).bind φ := by
  unfold ad_must_B
  first | (simp only [dup_self, both_self, iB, bB, oL, oX, nB]) | rfl
def ad_must_hint (n : Nat) : Hint Out := { live := fun c => [], run := fun c => none, xm := fun c q => none }
theorem ad_must_runs (n : Nat) : RunsOk tys (callees Out (st_HasPrefix_es n)) (ad_must_hint n) n (bodyOf Tryd.f31) 0 := runs_noloop (fun _ => rfl) _ _ (by kernel_rfl)
theorem ad_must_at : Tryd.prog.funcs[31]? = some Tryd.f31 := by kernel_rfl
theorem ad_must_ent (n : Nat) : Enters Tryd.prog 31 := enters_of (c := bodyOf Tryd.f31) ad_must_at (by kernel_rfl) (by kernel_rfl)
theorem ad_must_E (n : Nat) (ok : Bool) : fnA tys (callees Out (st_HasPrefix_es n)) (ad_must_hint n) n Tryd.f31 (encL (.pair .bool .unit) (ok, ())) [] (soloA fun v => some (.ret v)) (soloA fun v => some (.pan v)) = ad_must_B n ok (fun y => some (.ret (encR (.many .unit) y))) (fun p => some (.pan (wrongV 57 p))) := by kernel_rfl
def ad_must_en (n : Nat) : Entry := ⟨31, pcX 57 (.pair .bool .unit) (.many .unit) (fun xs => ad_must n xs.1), none, none⟩
theorem ad_must_ok (n : Nat) : EntryOk Tryd.prog gl (ad_must_en n) :=
  pcX_ok (ad_must_ent n) (fun xs y h => ans_of_fn tys_ok (st_HasPrefix_es_ok n) mixed (hint := ad_must_hint n) (n := n) (fn := Tryd.f31) ad_must_at (runsC (ad_must_runs n)) (run_ret (φ := (fun r => onX r (fun p => some (Out.pan (wrongV 57 p))) fun y => some (Out.ret (encR (.many .unit) y)))) ((ad_must_E n xs.1).trans (ad_must_N (R := Except Int (Unit)) (S := Out) n xs.1 (fun y => some (.ok y)) (fun p => some (.error p)) (fun r => onX r (fun p => some (Out.pan (wrongV 57 p))) fun y => some (Out.ret (encR (.many .unit) y))))) h))
    (fun xs p h => ans_of_fn tys_ok (st_HasPrefix_es_ok n) mixed (hint := ad_must_hint n) (n := n) (fn := Tryd.f31) ad_must_at (runsC (ad_must_runs n)) (run_ret (φ := (fun r => onX r (fun p => some (Out.pan (wrongV 57 p))) fun y => some (Out.ret (encR (.many .unit) y)))) ((ad_must_E n xs.1).trans (ad_must_N (R := Except Int (Unit)) (S := Out) n xs.1 (fun y => some (.ok y)) (fun p => some (.error p)) (fun r => onX r (fun p => some (Out.pan (wrongV 57 p))) fun y => some (Out.ret (encR (.many .unit) y))))) h))
def ad_must_es (n : Nat) : List Entry := ad_must_en n :: st_HasPrefix_es n
theorem ad_must_es_ok (n : Nat) : AllOk Tryd.prog gl (ad_must_es n) := .cons (ad_must_ok n) (st_HasPrefix_es_ok n)
/- (*strings.Builder).String (live: ([('one', ('ptr', 0, 0, 0))], [('box', 71, 2, True, [('cn', 'nilp'), ('cn', 'nils')])])) -/
def sB_String_v0_B (n : Nat) {R : Type} (k : (BA × Unit) → Option R) : Option R :=
 if ((0 : Nat) : Int) = 0 then
  k ((⟨#[]⟩ : BA), ())
 else
  none
def sB_String_v0 (n : Nat) : Option (BA × Unit) := sB_String_v0_B n some
theorem sB_String_v0_N (n : Nat) {R S : Type} (k : (BA × Unit) → Option R) (φ : R → Option S) : sB_String_v0_B n (fun a => (k a).bind φ) = (sB_String_v0_B n k).bind φ := by
  unfold sB_String_v0_B
  first | (simp only [dup_self, both_self, iB, bB, oL, oX, nB]) | rfl
def sB_String_v0_hint (n : Nat) : Hint OutS := { live := fun c => [], run := fun c => none, xm := fun c q => none, sch := fun c => (cond (Nat.beq c 1) (some [(0, 0), (1, 0), (2, 0), (5, 0), (6, 0), (7, 0), (3, 1), (8, 1), (9, 0), (4, 3), (10, 2), (11, 0)]) none) }
theorem sB_String_v0_runs (n : Nat) : RunsOk tys (callees OutS (ad_must_es n)) (sB_String_v0_hint n) n (bodyOf Tryd.f48) 0 := runs_noloop (fun _ => rfl) _ _ (by kernel_rfl)
theorem sB_String_v0_at : Tryd.prog.funcs[48]? = some Tryd.f48 := by kernel_rfl
theorem sB_String_v0_ent (n : Nat) : Enters Tryd.prog 48 := enters_of (c := bodyOf Tryd.f48) sB_String_v0_at (by kernel_rfl) (by kernel_rfl)
def sB_String_v0_sp : List RSp := [.one (.ptr 0 0 0)]
def sB_String_v0_rp : List RS := [.box 71 2 true [.cn .nilp, .cn .nils]]
def sB_String_v0_gsp : List Sl := [.ptr 0 0 0]
def sB_String_v0_osp : List RSp := [.one (.dat .str)]
def sB_String_v0_orp : List RS := [.box 71 2 true [.cn .nilp, .cn .nils]]
def sB_String_v0_O (y : (BA × Unit)) : OutS := ⟨false, encF (nsOf sB_String_v0_orp ((), ())) sB_String_v0_gsp (), tupA (encO (nsOf sB_String_v0_orp ((), ())) sB_String_v0_osp ((y.1, ()), ())), encH (nsOf sB_String_v0_orp ((), ())) sB_String_v0_orp ((), ())⟩
theorem sB_String_v0_E (n : Nat) : fnS tys (callees OutS (ad_must_es n)) (sB_String_v0_hint n) n Tryd.f48 (encO (nsOf sB_String_v0_rp ((), ())) sB_String_v0_sp ((), ())) (encH (nsOf sB_String_v0_rp ((), ())) sB_String_v0_rp ((), ())) = sB_String_v0_B n (fun y => some (sB_String_v0_O y)) := by kernel_rfl
theorem sB_String_v0_ok (n : Nat) : EntryOk Tryd.prog gl ⟨48, noPc, none, some (csT sB_String_v0_sp sB_String_v0_rp (fun σ ρ => sB_String_v0 n) sB_String_v0_O)⟩ :=
  csT_ok (sB_String_v0_ent n) fun σ ρ y h => ansS_of_fn tys_ok (ad_must_es_ok n) mixed (hint := sB_String_v0_hint n) (n := n) (fn := Tryd.f48) sB_String_v0_at (runsC (sB_String_v0_runs n)) (run_ret (φ := fun y => some (sB_String_v0_O y)) ((sB_String_v0_E n).trans (sB_String_v0_N (R := (BA × Unit)) (S := OutS) n some (fun y => some (sB_String_v0_O y)))) h)
def sB_String_v0_es (n : Nat) : List Entry := ⟨48, noPc, none, some (csT sB_String_v0_sp sB_String_v0_rp (fun σ ρ => sB_String_v0 n) sB_String_v0_O)⟩ :: ad_must_es n
theorem sB_String_v0_es_ok (n : Nat) : AllOk Tryd.prog gl (sB_String_v0_es n) := .cons (sB_String_v0_ok n) (ad_must_es_ok n)
/- internal/abi.NoEscape -/
theorem internal_abi_NoEscape_at : Tryd.prog.funcs[67]? = some Tryd.f67 := by kernel_rfl
theorem internal_abi_NoEscape_ok : EntryOk Tryd.prog gl ⟨67, noPc, some .ident, none⟩ := noEscape_entry internal_abi_NoEscape_at (by kernel_rfl) (by kernel_rfl) (by kernel_rfl) (by kernel_rfl)
def internal_abi_NoEscape_es (n : Nat) : List Entry := ⟨67, noPc, some .ident, none⟩ :: sB_String_v0_es n
theorem internal_abi_NoEscape_es_ok (n : Nat) : AllOk Tryd.prog gl (internal_abi_NoEscape_es n) := .cons internal_abi_NoEscape_ok (sB_String_v0_es_ok n)
/- (*strings.Builder).copyCheck (live: ([('one', ('ptr', 0, 0, 0))], [('box', 71, 2, True, [('cn', 'nilp'), ('cn', 'nils')])])) -/
def sB_copyCheck_v0_B (n : Nat) {R : Type} (k : Unit → Option R) : Option R :=
 k ()
def sB_copyCheck_v0 (n : Nat) : Option Unit := sB_copyCheck_v0_B n some
theorem sB_copyCheck_v0_N (n : Nat) {R S : Type} (k : Unit → Option R) (φ : R → Option S) : sB_copyCheck_v0_B n (fun a => (k a).bind φ) = (sB_copyCheck_v0_B n k).bind φ := by
  unfold sB_copyCheck_v0_B
  first | (simp only [dup_self, both_self, iB, bB, oL, oX, nB]) | rfl
def sB_copyCheck_v0_hint (n : Nat) : Hint OutS := { live := fun c => [], run := fun c => none, xm := fun c q => none }
theorem sB_copyCheck_v0_runs (n : Nat) : RunsOk tys (callees OutS (internal_abi_NoEscape_es n)) (sB_copyCheck_v0_hint n) n (bodyOf Tryd.f58) 0 := runs_noloop (fun _ => rfl) _ _ (by kernel_rfl)
theorem sB_copyCheck_v0_at : Tryd.prog.funcs[58]? = some Tryd.f58 := by kernel_rfl
theorem sB_copyCheck_v0_ent (n : Nat) : Enters Tryd.prog 58 := enters_of (c := bodyOf Tryd.f58) sB_copyCheck_v0_at (by kernel_rfl) (by kernel_rfl)
def sB_copyCheck_v0_sp : List RSp := [.one (.ptr 0 0 0)]
def sB_copyCheck_v0_rp : List RS := [.box 71 2 true [.cn .nilp, .cn .nils]]
def sB_copyCheck_v0_gsp : List Sl := [.ptr 0 0 0]
def sB_copyCheck_v0_osp : List RSp := []
def sB_copyCheck_v0_orp : List RS := [.box 71 2 false [.ptr 0 0 0, .cn .nils]]
def sB_copyCheck_v0_O (y : Unit) : OutS := ⟨false, encF (nsOf sB_copyCheck_v0_orp ((), ())) sB_copyCheck_v0_gsp (), tupA (encO (nsOf sB_copyCheck_v0_orp ((), ())) sB_copyCheck_v0_osp ()), encH (nsOf sB_copyCheck_v0_orp ((), ())) sB_copyCheck_v0_orp ((), ())⟩
theorem sB_copyCheck_v0_E (n : Nat) : fnS tys (callees OutS (internal_abi_NoEscape_es n)) (sB_copyCheck_v0_hint n) n Tryd.f58 (encO (nsOf sB_copyCheck_v0_rp ((), ())) sB_copyCheck_v0_sp ((), ())) (encH (nsOf sB_copyCheck_v0_rp ((), ())) sB_copyCheck_v0_rp ((), ())) = sB_copyCheck_v0_B n (fun y => some (sB_copyCheck_v0_O y)) := by kernel_rfl
theorem sB_copyCheck_v0_ok (n : Nat) : EntryOk Tryd.prog gl ⟨58, noPc, none, some (csT sB_copyCheck_v0_sp sB_copyCheck_v0_rp (fun σ ρ => sB_copyCheck_v0 n) sB_copyCheck_v0_O)⟩ :=
  csT_ok (sB_copyCheck_v0_ent n) fun σ ρ y h => ansS_of_fn tys_ok (internal_abi_NoEscape_es_ok n) mixed (hint := sB_copyCheck_v0_hint n) (n := n) (fn := Tryd.f58) sB_copyCheck_v0_at (runsC (sB_copyCheck_v0_runs n)) (run_ret (φ := fun y => some (sB_copyCheck_v0_O y)) ((sB_copyCheck_v0_E n).trans (sB_copyCheck_v0_N (R := Unit) (S := OutS) n some (fun y => some (sB_copyCheck_v0_O y)))) h)
def sB_copyCheck_v0_es (n : Nat) : List Entry := ⟨58, noPc, none, some (csT sB_copyCheck_v0_sp sB_copyCheck_v0_rp (fun σ ρ => sB_copyCheck_v0 n) sB_copyCheck_v0_O)⟩ :: internal_abi_NoEscape_es n
theorem sB_copyCheck_v0_es_ok (n : Nat) : AllOk Tryd.prog gl (sB_copyCheck_v0_es n) := .cons (sB_copyCheck_v0_ok n) (internal_abi_NoEscape_es_ok n)
/- (*strings.Builder).WriteByte (live: ([('one', ('ptr', 0, 0, 0)), ('one', ('dat', ('int', 'u8')))], [('box', 71, 2, True, [('cn', 'nilp'), ('cn', 'nils')])])) -/
def sB_WriteByte_v0_B (n : Nat) {R : Type} (c : Int) (k : ((Sq Int) × Unit) → Option R) : Option R :=
 (sB_copyCheck_v0 n).bind fun v =>
 if rowFits (0 + 1) 1 = true then
  k ((⟨(0 + 1), fun q => if q < 0 then (fun _ => zeroEl (.int .u8)) q else (fun q => List.getD (α := Int) [c] q (zeroEl (.int .u8))) (q - 0)⟩ : Sq Int), ())
 else
  none
def sB_WriteByte_v0 (n : Nat) (c : Int) : Option ((Sq Int) × Unit) := sB_WriteByte_v0_B n c some
theorem sB_WriteByte_v0_N (n : Nat) {R S : Type} (c : Int) (k : ((Sq Int) × Unit) → Option R) (φ : R → Option S) : sB_WriteByte_v0_B n c (fun a => (k a).bind φ) = (sB_WriteByte_v0_B n c k).bind φ := by
  unfold sB_WriteByte_v0_B
  first | (simp only [dup_self, both_self, iB, bB, oL, oX, nB]) | rfl
def sB_WriteByte_v0_hint (n : Nat) : Hint OutS := { live := fun c => [], run := fun c => none, xm := fun c q => none }
theorem sB_WriteByte_v0_runs (n : Nat) : RunsOk tys (callees OutS (sB_copyCheck_v0_es n)) (sB_WriteByte_v0_hint n) n (bodyOf Tryd.f49) 0 := runs_noloop (fun _ => rfl) _ _ (by kernel_rfl)
theorem sB_WriteByte_v0_at : Tryd.prog.funcs[49]? = some Tryd.f49 := by kernel_rfl
theorem sB_WriteByte_v0_ent (n : Nat) : Enters Tryd.prog 49 := enters_of (c := bodyOf Tryd.f49) sB_WriteByte_v0_at (by kernel_rfl) (by kernel_rfl)
def sB_WriteByte_v0_sp : List RSp := [.one (.ptr 0 0 0), .one (.dat (.int .u8))]
def sB_WriteByte_v0_rp : List RS := [.box 71 2 true [.cn .nilp, .cn .nils]]
def sB_WriteByte_v0_gsp : List Sl := [.ptr 0 0 0, .top]
def sB_WriteByte_v0_osp : List RSp := [.one (.cn .nili)]
def sB_WriteByte_v0_orp : List RS := [.box 71 2 false [.ptr 0 0 0, .row 1], .row 5 1 (.int .u8) true false]
def sB_WriteByte_v0_O (y : ((Sq Int) × Unit)) : OutS := ⟨false, encF (nsOf sB_WriteByte_v0_orp ((), (y.1, ()))) sB_WriteByte_v0_gsp (), tupA (encO (nsOf sB_WriteByte_v0_orp ((), (y.1, ()))) sB_WriteByte_v0_osp ((), ())), encH (nsOf sB_WriteByte_v0_orp ((), (y.1, ()))) sB_WriteByte_v0_orp ((), (y.1, ()))⟩
theorem sB_WriteByte_v0_E (n : Nat) (c : Int) : fnS tys (callees OutS (sB_copyCheck_v0_es n)) (sB_WriteByte_v0_hint n) n Tryd.f49 (encO (nsOf sB_WriteByte_v0_rp ((), ())) sB_WriteByte_v0_sp ((), ((c, ()), ()))) (encH (nsOf sB_WriteByte_v0_rp ((), ())) sB_WriteByte_v0_rp ((), ())) = sB_WriteByte_v0_B n c (fun y => some (sB_WriteByte_v0_O y)) := by kernel_rfl
theorem sB_WriteByte_v0_ok (n : Nat) : EntryOk Tryd.prog gl ⟨49, noPc, none, some (csT sB_WriteByte_v0_sp sB_WriteByte_v0_rp (fun σ ρ => sB_WriteByte_v0 n σ.2.1.1) sB_WriteByte_v0_O)⟩ :=
  csT_ok (sB_WriteByte_v0_ent n) fun σ ρ y h => ansS_of_fn tys_ok (sB_copyCheck_v0_es_ok n) mixed (hint := sB_WriteByte_v0_hint n) (n := n) (fn := Tryd.f49) sB_WriteByte_v0_at (runsC (sB_WriteByte_v0_runs n)) (run_ret (φ := fun y => some (sB_WriteByte_v0_O y)) ((sB_WriteByte_v0_E n σ.2.1.1).trans (sB_WriteByte_v0_N (R := ((Sq Int) × Unit)) (S := OutS) n σ.2.1.1 some (fun y => some (sB_WriteByte_v0_O y)))) h)
def sB_WriteByte_v0_es (n : Nat) : List Entry := ⟨49, noPc, none, some (csT sB_WriteByte_v0_sp sB_WriteByte_v0_rp (fun σ ρ => sB_WriteByte_v0 n σ.2.1.1) sB_WriteByte_v0_O)⟩ :: sB_copyCheck_v0_es n
theorem sB_WriteByte_v0_es_ok (n : Nat) : AllOk Tryd.prog gl (sB_WriteByte_v0_es n) := .cons (sB_WriteByte_v0_ok n) (sB_copyCheck_v0_es_ok n)
/- (*strings.Builder).String (live: ([('one', ('ptr', 0, 0, 0))], [('box', 71, 2, False, [('ptr', 0, 0, 0), ('row', 1)]), ('row', 5, 1, ('int', 'u8'), True, False)])) -/
def sB_String_v1_B (n : Nat) {R : Type} (r1 : (Sq Int)) (k : (BA × Unit) → Option R) : Option R :=
 if (r1.n : Int) = (r1.n : Int) ∧ (r1.n : Int) ≤ 9223372036854775807 then
  k ((strOf r1.n r1.at'), ())
 else
  none
def sB_String_v1 (n : Nat) (r1 : (Sq Int)) : Option (BA × Unit) := sB_String_v1_B n r1 some
theorem sB_String_v1_N (n : Nat) {R S : Type} (r1 : (Sq Int)) (k : (BA × Unit) → Option R) (φ : R → Option S) : sB_String_v1_B n r1 (fun a => (k a).bind φ) = (sB_String_v1_B n r1 k).bind φ := by
  unfold sB_String_v1_B
  first | (simp only [dup_self, both_self, iB, bB, oL, oX, nB]) | rfl
def sB_String_v1_hint (n : Nat) : Hint OutS := { live := fun c => [], run := fun c => none, xm := fun c q => none, sch := fun c => (cond (Nat.beq c 1) (some [(0, 0), (1, 0), (2, 0), (5, 0), (6, 0), (7, 0), (3, 1), (8, 1), (9, 0), (4, 3), (10, 2), (11, 0)]) none) }
theorem sB_String_v1_runs (n : Nat) : RunsOk tys (callees OutS (sB_WriteByte_v0_es n)) (sB_String_v1_hint n) n (bodyOf Tryd.f48) 0 := runs_noloop (fun _ => rfl) _ _ (by kernel_rfl)
theorem sB_String_v1_at : Tryd.prog.funcs[48]? = some Tryd.f48 := by kernel_rfl
theorem sB_String_v1_ent (n : Nat) : Enters Tryd.prog 48 := enters_of (c := bodyOf Tryd.f48) sB_String_v1_at (by kernel_rfl) (by kernel_rfl)
def sB_String_v1_sp : List RSp := [.one (.ptr 0 0 0)]
def sB_String_v1_rp : List RS := [.box 71 2 false [.ptr 0 0 0, .row 1], .row 5 1 (.int .u8) true false]
def sB_String_v1_gsp : List Sl := [.ptr 0 0 0]
def sB_String_v1_osp : List RSp := [.one (.dat .str)]
def sB_String_v1_orp : List RS := [.box 71 2 false [.ptr 0 0 0, .top]]
def sB_String_v1_O (y : (BA × Unit)) : OutS := ⟨false, encF (nsOf sB_String_v1_orp ((), ())) sB_String_v1_gsp (), tupA (encO (nsOf sB_String_v1_orp ((), ())) sB_String_v1_osp ((y.1, ()), ())), encH (nsOf sB_String_v1_orp ((), ())) sB_String_v1_orp ((), ())⟩
theorem sB_String_v1_E (n : Nat) (r1 : (Sq Int)) : fnS tys (callees OutS (sB_WriteByte_v0_es n)) (sB_String_v1_hint n) n Tryd.f48 (encO (nsOf sB_String_v1_rp ((), (r1, ()))) sB_String_v1_sp ((), ())) (encH (nsOf sB_String_v1_rp ((), (r1, ()))) sB_String_v1_rp ((), (r1, ()))) = sB_String_v1_B n r1 (fun y => some (sB_String_v1_O y)) := by kernel_rfl
theorem sB_String_v1_ok (n : Nat) : EntryOk Tryd.prog gl ⟨48, noPc, none, some (csT sB_String_v1_sp sB_String_v1_rp (fun σ ρ => sB_String_v1 n ρ.2.1) sB_String_v1_O)⟩ :=
  csT_ok (sB_String_v1_ent n) fun σ ρ y h => ansS_of_fn tys_ok (sB_WriteByte_v0_es_ok n) mixed (hint := sB_String_v1_hint n) (n := n) (fn := Tryd.f48) sB_String_v1_at (runsC (sB_String_v1_runs n)) (run_ret (φ := fun y => some (sB_String_v1_O y)) ((sB_String_v1_E n ρ.2.1).trans (sB_String_v1_N (R := (BA × Unit)) (S := OutS) n ρ.2.1 some (fun y => some (sB_String_v1_O y)))) h)
def sB_String_v1_es (n : Nat) : List Entry := ⟨48, noPc, none, some (csT sB_String_v1_sp sB_String_v1_rp (fun σ ρ => sB_String_v1 n ρ.2.1) sB_String_v1_O)⟩ :: sB_WriteByte_v0_es n
theorem sB_String_v1_es_ok (n : Nat) : AllOk Tryd.prog gl (sB_String_v1_es n) := .cons (sB_String_v1_ok n) (sB_WriteByte_v0_es_ok n)
/- (*strings.Builder).copyCheck (live: ([('one', ('ptr', 0, 0, 0))], [('box', 71, 2, False, [('ptr', 0, 0, 0), ('row', 1)]), ('row', 5, 1, ('int', 'u8'), True, False)])) -/
def sB_copyCheck_v1_B (n : Nat) {R : Type} (r1 : (Sq Int)) (k : ((Sq Int) × Unit) → Option R) : Option R :=
 k (r1, ())
def sB_copyCheck_v1 (n : Nat) (r1 : (Sq Int)) : Option ((Sq Int) × Unit) := sB_copyCheck_v1_B n r1 some
theorem sB_copyCheck_v1_N (n : Nat) {R S : Type} (r1 : (Sq Int)) (k : ((Sq Int) × Unit) → Option R) (φ : R → Option S) : sB_copyCheck_v1_B n r1 (fun a => (k a).bind φ) = (sB_copyCheck_v1_B n r1 k).bind φ := by
  unfold sB_copyCheck_v1_B
  first | (simp only [dup_self, both_self, iB, bB, oL, oX, nB]) | rfl
def sB_copyCheck_v1_hint (n : Nat) : Hint OutS := { live := fun c => [], run := fun c => none, xm := fun c q => none }
theorem sB_copyCheck_v1_runs (n : Nat) : RunsOk tys (callees OutS (sB_String_v1_es n)) (sB_copyCheck_v1_hint n) n (bodyOf Tryd.f58) 0 := runs_noloop (fun _ => rfl) _ _ (by kernel_rfl)
theorem sB_copyCheck_v1_at : Tryd.prog.funcs[58]? = some Tryd.f58 := by kernel_rfl
theorem sB_copyCheck_v1_ent (n : Nat) : Enters Tryd.prog 58 := enters_of (c := bodyOf Tryd.f58) sB_copyCheck_v1_at (by kernel_rfl) (by kernel_rfl)
def sB_copyCheck_v1_sp : List RSp := [.one (.ptr 0 0 0)]
def sB_copyCheck_v1_rp : List RS := [.box 71 2 false [.ptr 0 0 0, .row 1], .row 5 1 (.int .u8) true false]
def sB_copyCheck_v1_gsp : List Sl := [.ptr 0 0 0]
def sB_copyCheck_v1_osp : List RSp := []
def sB_copyCheck_v1_orp : List RS := [.box 71 2 false [.ptr 0 0 0, .row 1], .row 5 1 (.int .u8) true false]
def sB_copyCheck_v1_O (y : ((Sq Int) × Unit)) : OutS := ⟨false, encF (nsOf sB_copyCheck_v1_orp ((), (y.1, ()))) sB_copyCheck_v1_gsp (), tupA (encO (nsOf sB_copyCheck_v1_orp ((), (y.1, ()))) sB_copyCheck_v1_osp ()), encH (nsOf sB_copyCheck_v1_orp ((), (y.1, ()))) sB_copyCheck_v1_orp ((), (y.1, ()))⟩
theorem sB_copyCheck_v1_E (n : Nat) (r1 : (Sq Int)) : fnS tys (callees OutS (sB_String_v1_es n)) (sB_copyCheck_v1_hint n) n Tryd.f58 (encO (nsOf sB_copyCheck_v1_rp ((), (r1, ()))) sB_copyCheck_v1_sp ((), ())) (encH (nsOf sB_copyCheck_v1_rp ((), (r1, ()))) sB_copyCheck_v1_rp ((), (r1, ()))) = sB_copyCheck_v1_B n r1 (fun y => some (sB_copyCheck_v1_O y)) := by kernel_rfl
theorem sB_copyCheck_v1_ok (n : Nat) : EntryOk Tryd.prog gl ⟨58, noPc, none, some (csT sB_copyCheck_v1_sp sB_copyCheck_v1_rp (fun σ ρ => sB_copyCheck_v1 n ρ.2.1) sB_copyCheck_v1_O)⟩ :=
  csT_ok (sB_copyCheck_v1_ent n) fun σ ρ y h => ansS_of_fn tys_ok (sB_String_v1_es_ok n) mixed (hint := sB_copyCheck_v1_hint n) (n := n) (fn := Tryd.f58) sB_copyCheck_v1_at (runsC (sB_copyCheck_v1_runs n)) (run_ret (φ := fun y => some (sB_copyCheck_v1_O y)) ((sB_copyCheck_v1_E n ρ.2.1).trans (sB_copyCheck_v1_N (R := ((Sq Int) × Unit)) (S := OutS) n ρ.2.1 some (fun y => some (sB_copyCheck_v1_O y)))) h)
def sB_copyCheck_v1_es (n : Nat) : List Entry := ⟨58, noPc, none, some (csT sB_copyCheck_v1_sp sB_copyCheck_v1_rp (fun σ ρ => sB_copyCheck_v1 n ρ.2.1) sB_copyCheck_v1_O)⟩ :: sB_String_v1_es n
theorem sB_copyCheck_v1_es_ok (n : Nat) : AllOk Tryd.prog gl (sB_copyCheck_v1_es n) := .cons (sB_copyCheck_v1_ok n) (sB_String_v1_es_ok n)
/- (*strings.Builder).WriteByte (live: ([('one', ('ptr', 0, 0, 0)), ('one', ('dat', ('int', 'u8')))], [('box', 71, 2, False, [('ptr', 0, 0, 0), ('row', 1)]), ('row', 5, 1, ('int', 'u8'), True, False)])) -/
def sB_WriteByte_v1_B (n : Nat) {R : Type} (c : Int) (r1 : (Sq Int)) (k : ((Sq Int) × Unit) → Option R) : Option R :=
 (sB_copyCheck_v1 n r1).bind fun v =>
 if rowFits (v.1.n + 1) 1 = true then
  k ((⟨(v.1.n + 1), fun q => if q < v.1.n then v.1.at' q else (fun q => List.getD (α := Int) [c] q (zeroEl (.int .u8))) (q - v.1.n)⟩ : Sq Int), ())
 else
  none
def sB_WriteByte_v1 (n : Nat) (c : Int) (r1 : (Sq Int)) : Option ((Sq Int) × Unit) := sB_WriteByte_v1_B n c r1 some
theorem sB_WriteByte_v1_N (n : Nat) {R S : Type} (c : Int) (r1 : (Sq Int)) (k : ((Sq Int) × Unit) → Option R) (φ : R → Option S) : sB_WriteByte_v1_B n c r1 (fun a => (k a).bind φ) = (sB_WriteByte_v1_B n c r1 k).bind φ := by
  unfold sB_WriteByte_v1_B
  first | (simp only [dup_self, both_self, iB, bB, oL, oX, nB]) | rfl
def sB_WriteByte_v1_hint (n : Nat) : Hint OutS := { live := fun c => [], run := fun c => none, xm := fun c q => none }
theorem sB_WriteByte_v1_runs (n : Nat) : RunsOk tys (callees OutS (sB_copyCheck_v1_es n)) (sB_WriteByte_v1_hint n) n (bodyOf Tryd.f49) 0 := runs_noloop (fun _ => rfl) _ _ (by kernel_rfl)
theorem sB_WriteByte_v1_at : Tryd.prog.funcs[49]? = some Tryd.f49 := by kernel_rfl
theorem sB_WriteByte_v1_ent (n : Nat) : Enters Tryd.prog 49 := enters_of (c := bodyOf Tryd.f49) sB_WriteByte_v1_at (by kernel_rfl) (by kernel_rfl)
def sB_WriteByte_v1_sp : List RSp := [.one (.ptr 0 0 0), .one (.dat (.int .u8))]
def sB_WriteByte_v1_rp : List RS := [.box 71 2 false [.ptr 0 0 0, .row 1], .row 5 1 (.int .u8) true false]
def sB_WriteByte_v1_gsp : List Sl := [.ptr 0 0 0, .top]
def sB_WriteByte_v1_osp : List RSp := [.one (.cn .nili)]
def sB_WriteByte_v1_orp : List RS := [.box 71 2 false [.ptr 0 0 0, .row 1], .row 5 1 (.int .u8) true false]
def sB_WriteByte_v1_O (y : ((Sq Int) × Unit)) : OutS := ⟨false, encF (nsOf sB_WriteByte_v1_orp ((), (y.1, ()))) sB_WriteByte_v1_gsp (), tupA (encO (nsOf sB_WriteByte_v1_orp ((), (y.1, ()))) sB_WriteByte_v1_osp ((), ())), encH (nsOf sB_WriteByte_v1_orp ((), (y.1, ()))) sB_WriteByte_v1_orp ((), (y.1, ()))⟩
theorem sB_WriteByte_v1_E (n : Nat) (c : Int) (r1 : (Sq Int)) : fnS tys (callees OutS (sB_copyCheck_v1_es n)) (sB_WriteByte_v1_hint n) n Tryd.f49 (encO (nsOf sB_WriteByte_v1_rp ((), (r1, ()))) sB_WriteByte_v1_sp ((), ((c, ()), ()))) (encH (nsOf sB_WriteByte_v1_rp ((), (r1, ()))) sB_WriteByte_v1_rp ((), (r1, ()))) = sB_WriteByte_v1_B n c r1 (fun y => some (sB_WriteByte_v1_O y)) := by kernel_rfl
theorem sB_WriteByte_v1_ok (n : Nat) : EntryOk Tryd.prog gl ⟨49, noPc, none, some (csT sB_WriteByte_v1_sp sB_WriteByte_v1_rp (fun σ ρ => sB_WriteByte_v1 n σ.2.1.1 ρ.2.1) sB_WriteByte_v1_O)⟩ :=
  csT_ok (sB_WriteByte_v1_ent n) fun σ ρ y h => ansS_of_fn tys_ok (sB_copyCheck_v1_es_ok n) mixed (hint := sB_WriteByte_v1_hint n) (n := n) (fn := Tryd.f49) sB_WriteByte_v1_at (runsC (sB_WriteByte_v1_runs n)) (run_ret (φ := fun y => some (sB_WriteByte_v1_O y)) ((sB_WriteByte_v1_E n σ.2.1.1 ρ.2.1).trans (sB_WriteByte_v1_N (R := ((Sq Int) × Unit)) (S := OutS) n σ.2.1.1 ρ.2.1 some (fun y => some (sB_WriteByte_v1_O y)))) h)
def sB_WriteByte_v1_es (n : Nat) : List Entry := ⟨49, noPc, none, some (csT sB_WriteByte_v1_sp sB_WriteByte_v1_rp (fun σ ρ => sB_WriteByte_v1 n σ.2.1.1 ρ.2.1) sB_WriteByte_v1_O)⟩ :: sB_copyCheck_v1_es n
theorem sB_WriteByte_v1_es_ok (n : Nat) : AllOk Tryd.prog gl (sB_WriteByte_v1_es n) := .cons (sB_WriteByte_v1_ok n) (sB_copyCheck_v1_es_ok n)
/- pouch/addr.quoted -/
def ad_quoted_B0 (n : Nat) {R : Type} (s1 : BA) (i : Int) (r1 : (Sq Int)) (kn : BA → Int → (Sq Int) → Option R) (ko : Unit → Option R) (kr : (BA × BA) → Option R) (kp : Int → Option R) : Option R :=
 (ad_must n (decide (i < (s1.size : Int)))).bind fun x_1 => onX x_1 (fun p3 =>
  kp p3) (fun v5 =>
 if 0 ≤ i ∧ i < (s1.size : Int) then
  if ((bt s1 i) == (34 : Int)) = true then
   if 0 ≤ (IntKind.wrap .i64 (i + (1 : Int))) ∧ (IntKind.wrap .i64 (i + (1 : Int))) ≤ (s1.size : Int) then
    (sB_String_v1 n r1).bind fun v6 =>
    kr (v6.1, (s1.extract (Int.toNat (IntKind.wrap .i64 (i + (1 : Int)))) (Int.toNat (s1.size : Int))))
   else
    none
  else
   if 0 ≤ i ∧ i < (s1.size : Int) then
    if ((bt s1 i) == (92 : Int)) = true then
     (ad_must n (decide ((IntKind.wrap .i64 (i + (1 : Int))) < (s1.size : Int)))).bind fun x_2 => onX x_2 (fun p4 =>
      kp p4) (fun v7 =>
     if 0 ≤ (IntKind.wrap .i64 (i + (1 : Int))) ∧ (IntKind.wrap .i64 (i + (1 : Int))) < (s1.size : Int) then
      if (decide ((bt s1 (IntKind.wrap .i64 (i + (1 : Int)))) ≥ (32 : Int))) = true then
       if 0 ≤ (IntKind.wrap .i64 (i + (1 : Int))) ∧ (IntKind.wrap .i64 (i + (1 : Int))) < (s1.size : Int) then
        (ad_must n (decide ((bt s1 (IntKind.wrap .i64 (i + (1 : Int)))) ≤ (126 : Int)))).bind fun x_3 => onX x_3 (fun p5 =>
         kp p5) (fun v8 =>
        if 0 ≤ (IntKind.wrap .i64 (i + (1 : Int))) ∧ (IntKind.wrap .i64 (i + (1 : Int))) < (s1.size : Int) then
         (sB_WriteByte_v1 n (bt s1 (IntKind.wrap .i64 (i + (1 : Int)))) r1).bind fun v9 =>
         kn s1 (IntKind.wrap .i64 ((IntKind.wrap .i64 (i + (1 : Int))) + (1 : Int))) v9.1
        else
         none)
       else
        none
      else
       (ad_must n false).bind fun x_4 => onX x_4 (fun p6 =>
        kp p6) (fun v10 =>
       if 0 ≤ (IntKind.wrap .i64 (i + (1 : Int))) ∧ (IntKind.wrap .i64 (i + (1 : Int))) < (s1.size : Int) then
        (sB_WriteByte_v1 n (bt s1 (IntKind.wrap .i64 (i + (1 : Int)))) r1).bind fun v11 =>
        kn s1 (IntKind.wrap .i64 ((IntKind.wrap .i64 (i + (1 : Int))) + (1 : Int))) v11.1
       else
        none)
     else
      none)
    else
     if 0 ≤ i ∧ i < (s1.size : Int) then
      if (decide ((bt s1 i) ≥ (32 : Int))) = true then
       if 0 ≤ i ∧ i < (s1.size : Int) then
        (ad_must n (decide ((bt s1 i) ≤ (126 : Int)))).bind fun x_5 => onX x_5 (fun p7 =>
         kp p7) (fun v12 =>
        if 0 ≤ i ∧ i < (s1.size : Int) then
         (sB_WriteByte_v1 n (bt s1 i) r1).bind fun v13 =>
         kn s1 (IntKind.wrap .i64 (i + (1 : Int))) v13.1
        else
         none)
       else
        none
      else
       (ad_must n false).bind fun x_6 => onX x_6 (fun p8 =>
        kp p8) (fun v14 =>
       if 0 ≤ i ∧ i < (s1.size : Int) then
        (sB_WriteByte_v1 n (bt s1 i) r1).bind fun v15 =>
        kn s1 (IntKind.wrap .i64 (i + (1 : Int))) v15.1
       else
        none)
     else
      none
   else
    none
 else
  none)
theorem ad_quoted_B0_N (n : Nat) {R S : Type} (s1 : BA) (i : Int) (r1 : (Sq Int)) (kn : BA → Int → (Sq Int) → Option R) (ko : Unit → Option R) (kr : (BA × BA) → Option R) (kp : Int → Option R) (φ : R → Option S) : ad_quoted_B0 n s1 i r1 (fun s1 i r1 => (kn s1 i r1).bind φ) (fun a => (ko a).bind φ) (fun a => (kr a).bind φ) (fun a => (kp a).bind φ) = (ad_quoted_B0 n s1 i r1 kn ko kr kp).bind φ := by
  unfold ad_quoted_B0
  first | (simp only [dup_self, both_self, iB, bB, oL, oX, nB]) | rfl
def ad_quoted_L0 (n : Nat) : Nat → BA → Int → (Sq Int) → Option (Lx Unit (BA × BA))
  | 0, _, _, _ => none
  | m + 1, s1, i, r1 => ad_quoted_B0 n s1 i r1 (fun s1 i r1 => ad_quoted_L0 n m s1 i r1) (fun a => some (.out a)) (fun a => some (.ret a)) (fun p => some (.pan p))
def ad_quoted_L0_sp : List Sl := .dat .str :: .top :: .top :: .top :: .ptr 0 0 0 :: .dat (.int .i64) :: tp 42 []
def ad_quoted_L0_rp : List RS := [.box 71 2 false [.ptr 0 0 0, .row 1], .row 5 1 (.int .u8) true false]
def ad_quoted_L0_ret_sp : List Sl := .top :: .top :: .dat .str :: .dat .str :: tp 44 []
def ad_quoted_L0_ret_rp : List RS := []
def ad_quoted_L0_K (K : XE → List AV → AHeap → Option Out) : Lx Unit (BA × BA) → Option Out := fun x => onL x (fun _ => none) (fun a => layK ad_quoted_L0_ret_sp ad_quoted_L0_ret_rp (a.1, (a.2, ())) () (K .ret)) (fun p => K (.panic (wrongV 57 p)) (List.replicate 48 .top) [])
def ad_quoted_B (n : Nat) {R : Type} (s : BA) (k : (BA × BA × Unit) → Option R) (kp : Int → Option R) : Option R :=
 (ad_must n (decide ((1 : Int) < (s.size : Int)))).bind fun x_1 => onX x_1 (fun p =>
  kp p) (fun v =>
 if 0 ≤ (1 : Int) ∧ (1 : Int) < (s.size : Int) then
  if ((bt s (1 : Int)) == (34 : Int)) = true then
   if 0 ≤ (IntKind.wrap .i64 ((1 : Int) + (1 : Int))) ∧ (IntKind.wrap .i64 ((1 : Int) + (1 : Int))) ≤ (s.size : Int) then
    (sB_String_v0 n).bind fun v1 =>
    k (v1.1, ((s.extract (Int.toNat (IntKind.wrap .i64 ((1 : Int) + (1 : Int)))) (Int.toNat (s.size : Int))), ()))
   else
    none
  else
   if 0 ≤ (1 : Int) ∧ (1 : Int) < (s.size : Int) then
    if ((bt s (1 : Int)) == (92 : Int)) = true then
     (ad_must n (decide ((IntKind.wrap .i64 ((1 : Int) + (1 : Int))) < (s.size : Int)))).bind fun x_2 => onX x_2 (fun p1 =>
      kp p1) (fun v2 =>
     if 0 ≤ (IntKind.wrap .i64 ((1 : Int) + (1 : Int))) ∧ (IntKind.wrap .i64 ((1 : Int) + (1 : Int))) < (s.size : Int) then
      if (decide ((bt s (IntKind.wrap .i64 ((1 : Int) + (1 : Int)))) ≥ (32 : Int))) = true then
       if 0 ≤ (IntKind.wrap .i64 ((1 : Int) + (1 : Int))) ∧ (IntKind.wrap .i64 ((1 : Int) + (1 : Int))) < (s.size : Int) then
        (ad_must n (decide ((bt s (IntKind.wrap .i64 ((1 : Int) + (1 : Int)))) ≤ (126 : Int)))).bind fun x_3 => onX x_3 (fun p2 =>
         kp p2) (fun v3 =>
        if 0 ≤ (IntKind.wrap .i64 ((1 : Int) + (1 : Int))) ∧ (IntKind.wrap .i64 ((1 : Int) + (1 : Int))) < (s.size : Int) then
         (sB_WriteByte_v0 n (bt s (IntKind.wrap .i64 ((1 : Int) + (1 : Int))))).bind fun v4 =>
         (ad_quoted_L0 n n s (IntKind.wrap .i64 ((IntKind.wrap .i64 ((1 : Int) + (1 : Int))) + (1 : Int))) v4.1).bind fun x_4 => onL x_4
          (fun _ => none)
          (fun a_5 =>
           k (a_5.1, (a_5.2, ())))
          (fun p9 =>
           kp p9)
        else
         none)
       else
        none
      else
       (ad_must n false).bind fun x_6 => onX x_6 (fun p10 =>
        kp p10) (fun v16 =>
       if 0 ≤ (IntKind.wrap .i64 ((1 : Int) + (1 : Int))) ∧ (IntKind.wrap .i64 ((1 : Int) + (1 : Int))) < (s.size : Int) then
        (sB_WriteByte_v0 n (bt s (IntKind.wrap .i64 ((1 : Int) + (1 : Int))))).bind fun v17 =>
        (ad_quoted_L0 n n s (IntKind.wrap .i64 ((IntKind.wrap .i64 ((1 : Int) + (1 : Int))) + (1 : Int))) v17.1).bind fun x_7 => onL x_7
         (fun _ => none)
         (fun a_8 =>
          k (a_8.1, (a_8.2, ())))
         (fun p11 =>
          kp p11)
       else
        none)
     else
      none)
    else
     if 0 ≤ (1 : Int) ∧ (1 : Int) < (s.size : Int) then
      if (decide ((bt s (1 : Int)) ≥ (32 : Int))) = true then
       if 0 ≤ (1 : Int) ∧ (1 : Int) < (s.size : Int) then
        (ad_must n (decide ((bt s (1 : Int)) ≤ (126 : Int)))).bind fun x_9 => onX x_9 (fun p12 =>
         kp p12) (fun v18 =>
        if 0 ≤ (1 : Int) ∧ (1 : Int) < (s.size : Int) then
         (sB_WriteByte_v0 n (bt s (1 : Int))).bind fun v19 =>
         (ad_quoted_L0 n n s (IntKind.wrap .i64 ((1 : Int) + (1 : Int))) v19.1).bind fun x_10 => onL x_10
          (fun _ => none)
          (fun a_11 =>
           k (a_11.1, (a_11.2, ())))
          (fun p13 =>
           kp p13)
        else
         none)
       else
        none
      else
       (ad_must n false).bind fun x_12 => onX x_12 (fun p14 =>
        kp p14) (fun v20 =>
       if 0 ≤ (1 : Int) ∧ (1 : Int) < (s.size : Int) then
        (sB_WriteByte_v0 n (bt s (1 : Int))).bind fun v21 =>
        (ad_quoted_L0 n n s (IntKind.wrap .i64 ((1 : Int) + (1 : Int))) v21.1).bind fun x_13 => onL x_13
         (fun _ => none)
         (fun a_14 =>
          k (a_14.1, (a_14.2, ())))
         (fun p15 =>
          kp p15)
       else
        none)
     else
      none
   else
    none
 else
  none)
def ad_quoted (n : Nat) (s : BA) : Option (Except Int (BA × BA × Unit)) := ad_quoted_B n s (fun y => some (.ok y)) (fun p => some (.error p))
theorem ad_quoted_N (n : Nat) {R S : Type} (s : BA) (k : (BA × BA × Unit) → Option R) (kp : Int → Option R) (φ : R → Option S) : ad_quoted_B n s (fun a => (k a).bind φ) (fun a => (kp a).bind φ) = (ad_quoted_B n s k kp).bind φ := by
  unfold ad_quoted_B
  first | (simp only [dup_self, both_self, iB, bB, oL, oX, nB]) | rfl
def ad_quoted_hint (n : Nat) : Hint Out := { live := fun c => (cond (Nat.beq c 0) (lv [0, 4, 5]) []), run := fun c => (cond (Nat.beq c 0) (some (runL ad_quoted_L0_sp ad_quoted_L0_rp fun σ ρ K => (ad_quoted_L0 n n σ.1 σ.2.1 ρ.2.1).bind (ad_quoted_L0_K K))) none), xm := fun c q => (cond (Nat.beq c 1 && q.isNone) (some [(2, none), (3, none)]) none), sch := fun c => (cond (Nat.beq c 6) (some [(1, 0), (2, 0), (3, 0), (4, 0), (0, 2), (5, 0), (6, 0)]) none), pl := fun c => Nat.beq c 0 }
def ad_quoted_L0_I (n : Nat) (K : XE → List AV → AHeap → Option Out) (m : Nat) (s1 : BA) (i : Int) (r1 : (Sq Int)) : Option Out := loopI tys (callees Out (sB_WriteByte_v1_es n)) (ad_quoted_hint n) n (codeAt [1, 1, 1, 0, 0] (bodyOf Tryd.f38)) 0 ad_quoted_L0_sp ad_quoted_L0_rp K m (s1, (i, ())) ((), (r1, ()))
theorem ad_quoted_L0_E (n : Nat) (K : XE → List AV → AHeap → Option Out) : ∀ (m : Nat) (s1 : BA) (i : Int) (r1 : (Sq Int)), ad_quoted_L0_I n K m s1 i r1 = (ad_quoted_L0 n m s1 i r1).bind (ad_quoted_L0_K K)
  | 0, s1, i, r1 => by kernel_rfl
  | m + 1, s1, i, r1 => by
    have h1 : ad_quoted_L0_I n K (m + 1) s1 i r1 = ad_quoted_B0 n s1 i r1 (fun s1 i r1 => ad_quoted_L0_I n K m s1 i r1) (fun a => ad_quoted_L0_K K (.out a)) (fun a => ad_quoted_L0_K K (.ret a)) (fun p => ad_quoted_L0_K K (.pan p)) := by kernel_rfl
    have h2 : (fun s1 i r1 => ad_quoted_L0_I n K m s1 i r1) = (fun s1 i r1 => (ad_quoted_L0 n m s1 i r1).bind (ad_quoted_L0_K K)) := funext fun s1 => funext fun i => funext fun r1 => ad_quoted_L0_E n K m s1 i r1
    exact h1.trans ((congrArg (fun z => ad_quoted_B0 n s1 i r1 z (fun a => ad_quoted_L0_K K (.out a)) (fun a => ad_quoted_L0_K K (.ret a)) (fun p => ad_quoted_L0_K K (.pan p))) h2).trans (ad_quoted_B0_N n s1 i r1 (fun s1 i r1 => ad_quoted_L0 n m s1 i r1) (fun a => some (.out a)) (fun a => some (.ret a)) (fun p => some (.pan p)) (ad_quoted_L0_K K)))
theorem ad_quoted_L0_ok (n : Nat) : RunOk tys (callees Out (sB_WriteByte_v1_es n)) (ad_quoted_hint n) n (codeAt [1, 1, 1, 0, 0] (bodyOf Tryd.f38)) 0 := runOk_of (sp := ad_quoted_L0_sp) (rp := ad_quoted_L0_rp) (F := fun σ ρ K => (ad_quoted_L0 n n σ.1 σ.2.1 ρ.2.1).bind (ad_quoted_L0_K K)) (by kernel_rfl) fun K σ ρ => ad_quoted_L0_E n K n σ.1 σ.2.1 ρ.2.1
theorem ad_quoted_runs (n : Nat) : RunsOk tys (callees Out (sB_WriteByte_v1_es n)) (ad_quoted_hint n) n (bodyOf Tryd.f38) 0 := ⟨trivial, ⟨trivial, ⟨trivial, ⟨ad_quoted_L0_ok n, ⟨⟨trivial, ⟨⟨trivial, ⟨⟨trivial, trivial⟩, trivial⟩⟩, ⟨⟨trivial, ⟨⟨trivial, trivial⟩, trivial⟩⟩, ⟨trivial, trivial⟩⟩⟩⟩, trivial⟩⟩⟩⟩⟩
theorem ad_quoted_at : Tryd.prog.funcs[38]? = some Tryd.f38 := by kernel_rfl
theorem ad_quoted_ent (n : Nat) : Enters Tryd.prog 38 := enters_of (c := bodyOf Tryd.f38) ad_quoted_at (by kernel_rfl) (by kernel_rfl)
theorem ad_quoted_E (n : Nat) (s : BA) : fnA tys (callees Out (sB_WriteByte_v1_es n)) (ad_quoted_hint n) n Tryd.f38 (encL (.pair .str .unit) (s, ())) [] (soloA fun v => some (.ret v)) (soloA fun v => some (.pan v)) = ad_quoted_B n s (fun y => some (.ret (encR (.many (.pair .str (.pair .str .unit))) y))) (fun p => some (.pan (wrongV 57 p))) := by kernel_rfl
def ad_quoted_en (n : Nat) : Entry := ⟨38, pcX 57 (.pair .str .unit) (.many (.pair .str (.pair .str .unit))) (fun xs => ad_quoted n xs.1), none, none⟩
theorem ad_quoted_ok (n : Nat) : EntryOk Tryd.prog gl (ad_quoted_en n) :=
  pcX_ok (ad_quoted_ent n) (fun xs y h => ans_of_fn tys_ok (sB_WriteByte_v1_es_ok n) mixed (hint := ad_quoted_hint n) (n := n) (fn := Tryd.f38) ad_quoted_at (runsC (ad_quoted_runs n)) (run_ret (φ := (fun r => onX r (fun p => some (Out.pan (wrongV 57 p))) fun y => some (Out.ret (encR (.many (.pair .str (.pair .str .unit))) y)))) ((ad_quoted_E n xs.1).trans (ad_quoted_N (R := Except Int (BA × BA × Unit)) (S := Out) n xs.1 (fun y => some (.ok y)) (fun p => some (.error p)) (fun r => onX r (fun p => some (Out.pan (wrongV 57 p))) fun y => some (Out.ret (encR (.many (.pair .str (.pair .str .unit))) y))))) h))
    (fun xs p h => ans_of_fn tys_ok (sB_WriteByte_v1_es_ok n) mixed (hint := ad_quoted_hint n) (n := n) (fn := Tryd.f38) ad_quoted_at (runsC (ad_quoted_runs n)) (run_ret (φ := (fun r => onX r (fun p => some (Out.pan (wrongV 57 p))) fun y => some (Out.ret (encR (.many (.pair .str (.pair .str .unit))) y)))) ((ad_quoted_E n xs.1).trans (ad_quoted_N (R := Except Int (BA × BA × Unit)) (S := Out) n xs.1 (fun y => some (.ok y)) (fun p => some (.error p)) (fun r => onX r (fun p => some (Out.pan (wrongV 57 p))) fun y => some (Out.ret (encR (.many (.pair .str (.pair .str .unit))) y))))) h))
def ad_quoted_es (n : Nat) : List Entry := ad_quoted_en n :: sB_WriteByte_v1_es n
theorem ad_quoted_es_ok (n : Nat) : AllOk Tryd.prog gl (ad_quoted_es n) := .cons (ad_quoted_ok n) (sB_WriteByte_v1_es_ok n)
/- pouch/addr.sign -/
def ad_sign_B (n : Nat) {R : Type} (c : Int) (k : Bool → Option R) : Option R :=
 if (decide (c ≥ (97 : Int))) = true then
  if (decide (c ≤ (122 : Int))) = false then
   if (decide (c ≥ (48 : Int))) = true then
    k (decide (c ≤ (57 : Int)))
   else
    k false
  else
   k true
 else
  if (decide (c ≥ (48 : Int))) = true then
   k (decide (c ≤ (57 : Int)))
  else
   k false
def ad_sign (n : Nat) (c : Int) : Option Bool := ad_sign_B n c some
theorem ad_sign_N (n : Nat) {R S : Type} (c : Int) (k : Bool → Option R) (φ : R → Option S) : ad_sign_B n c (fun a => (k a).bind φ) = (ad_sign_B n c k).bind φ := by
  unfold ad_sign_B
  first | (simp only [dup_self, both_self, iB, bB, oL, oX, nB]) | rfl
def ad_sign_hint (n : Nat) : Hint Out := { live := fun c => [], run := fun c => none, xm := fun c q => none }
theorem ad_sign_runs (n : Nat) : RunsOk tys (callees Out (ad_quoted_es n)) (ad_sign_hint n) n (bodyOf Tryd.f57) 0 := runs_noloop (fun _ => rfl) _ _ (by kernel_rfl)
theorem ad_sign_at : Tryd.prog.funcs[57]? = some Tryd.f57 := by kernel_rfl
theorem ad_sign_ent (n : Nat) : Enters Tryd.prog 57 := enters_of (c := bodyOf Tryd.f57) ad_sign_at (by kernel_rfl) (by kernel_rfl)
theorem ad_sign_E (n : Nat) (c : Int) : fnA tys (callees Out (ad_quoted_es n)) (ad_sign_hint n) n Tryd.f57 (encL (.pair (.int .u8) .unit) (c, ())) [] (soloA fun v => some (.ret v)) (soloA fun v => some (.pan v)) = ad_sign_B n c (fun y => some (.ret (encR (.one .bool) y))) := by kernel_rfl
def ad_sign_en (n : Nat) : Entry := ⟨57, pcT (.pair (.int .u8) .unit) (.one .bool) (fun xs => ad_sign n xs.1), none, none⟩
theorem ad_sign_ok (n : Nat) : EntryOk Tryd.prog gl (ad_sign_en n) :=
  pcT_ok (ad_sign_ent n) fun xs y h => ans_of_fn tys_ok (ad_quoted_es_ok n) mixed (hint := ad_sign_hint n) (n := n) (fn := Tryd.f57) ad_sign_at (runsC (ad_sign_runs n)) (run_ret (φ := (fun y => some (Out.ret (encR (.one .bool) y)))) ((ad_sign_E n xs.1).trans (ad_sign_N (R := Bool) (S := Out) n xs.1 some (fun y => some (Out.ret (encR (.one .bool) y))))) h)
def ad_sign_es (n : Nat) : List Entry := ad_sign_en n :: ad_quoted_es n
theorem ad_sign_es_ok (n : Nat) : AllOk Tryd.prog gl (ad_sign_es n) := .cons (ad_sign_ok n) (ad_quoted_es_ok n)
/- internal/bytealg.IndexByteString -/
theorem ib_IndexByteString_at : Tryd.prog.funcs[59]? = some Tryd.f59 := by kernel_rfl
theorem ib_IndexByteString_ok : EntryOk Tryd.prog gl ⟨59, noPc, some (.flat xIndexByte), none⟩ := indexByte_entry ib_IndexByteString_at (by kernel_rfl) (by kernel_rfl) (by kernel_rfl) (by kernel_rfl)
def ib_IndexByteString_es (n : Nat) : List Entry := ⟨59, noPc, some (.flat xIndexByte), none⟩ :: ad_sign_es n
theorem ib_IndexByteString_es_ok (n : Nat) : AllOk Tryd.prog gl (ib_IndexByteString_es n) := .cons ib_IndexByteString_ok (ad_sign_es_ok n)
/- internal/stringslite.IndexByte -/
def il_IndexByte_B (n : Nat) {R : Type} (s : BA) (c : Int) (k : Int → Option R) : Option R :=
 k (Lib.indexByte s.data.toList (Nat.toUInt8 (Int.toNat c)))
def il_IndexByte (n : Nat) (s : BA) (c : Int) : Option Int := il_IndexByte_B n s c some
theorem il_IndexByte_N (n : Nat) {R S : Type} (s : BA) (c : Int) (k : Int → Option R) (φ : R → Option S) : il_IndexByte_B n s c (fun a => (k a).bind φ) = (il_IndexByte_B n s c k).bind φ := by
  unfold il_IndexByte_B
  first | (simp only [dup_self, both_self, iB, bB, oL, oX, nB]) | rfl
def il_IndexByte_hint (n : Nat) : Hint Out := { live := fun c => [], run := fun c => none, xm := fun c q => none }
theorem il_IndexByte_runs (n : Nat) : RunsOk tys (callees Out (ib_IndexByteString_es n)) (il_IndexByte_hint n) n (bodyOf Tryd.f50) 0 := runs_noloop (fun _ => rfl) _ _ (by kernel_rfl)
theorem il_IndexByte_at : Tryd.prog.funcs[50]? = some Tryd.f50 := by kernel_rfl
theorem il_IndexByte_ent (n : Nat) : Enters Tryd.prog 50 := enters_of (c := bodyOf Tryd.f50) il_IndexByte_at (by kernel_rfl) (by kernel_rfl)
theorem il_IndexByte_E (n : Nat) (s : BA) (c : Int) : fnA tys (callees Out (ib_IndexByteString_es n)) (il_IndexByte_hint n) n Tryd.f50 (encL (.pair .str (.pair (.int .u8) .unit)) (s, (c, ()))) [] (soloA fun v => some (.ret v)) (soloA fun v => some (.pan v)) = il_IndexByte_B n s c (fun y => some (.ret (encR (.one (.int .i64)) y))) := by kernel_rfl
def il_IndexByte_en (n : Nat) : Entry := ⟨50, pcT (.pair .str (.pair (.int .u8) .unit)) (.one (.int .i64)) (fun xs => il_IndexByte n xs.1 xs.2.1), none, none⟩
theorem il_IndexByte_ok (n : Nat) : EntryOk Tryd.prog gl (il_IndexByte_en n) :=
  pcT_ok (il_IndexByte_ent n) fun xs y h => ans_of_fn tys_ok (ib_IndexByteString_es_ok n) mixed (hint := il_IndexByte_hint n) (n := n) (fn := Tryd.f50) il_IndexByte_at (runsC (il_IndexByte_runs n)) (run_ret (φ := (fun y => some (Out.ret (encR (.one (.int .i64)) y)))) ((il_IndexByte_E n xs.1 xs.2.1).trans (il_IndexByte_N (R := Int) (S := Out) n xs.1 xs.2.1 some (fun y => some (Out.ret (encR (.one (.int .i64)) y))))) h)
def il_IndexByte_es (n : Nat) : List Entry := il_IndexByte_en n :: ib_IndexByteString_es n
theorem il_IndexByte_es_ok (n : Nat) : AllOk Tryd.prog gl (il_IndexByte_es n) := .cons (il_IndexByte_ok n) (ib_IndexByteString_es_ok n)
/- strings.IndexByte -/
def st_IndexByte_B (n : Nat) {R : Type} (s : BA) (c : Int) (k : Int → Option R) : Option R :=
 (il_IndexByte n s c).bind fun v =>
 k v
def st_IndexByte (n : Nat) (s : BA) (c : Int) : Option Int := st_IndexByte_B n s c some
theorem st_IndexByte_N (n : Nat) {R S : Type} (s : BA) (c : Int) (k : Int → Option R) (φ : R → Option S) : st_IndexByte_B n s c (fun a => (k a).bind φ) = (st_IndexByte_B n s c k).bind φ := by
  unfold st_IndexByte_B
  first | (simp only [dup_self, both_self, iB, bB, oL, oX, nB]) | rfl
def st_IndexByte_hint (n : Nat) : Hint Out := { live := fun c => [], run := fun c => none, xm := fun c q => none }
theorem st_IndexByte_runs (n : Nat) : RunsOk tys (callees Out (il_IndexByte_es n)) (st_IndexByte_hint n) n (bodyOf Tryd.f40) 0 := runs_noloop (fun _ => rfl) _ _ (by kernel_rfl)
theorem st_IndexByte_at : Tryd.prog.funcs[40]? = some Tryd.f40 := by kernel_rfl
theorem st_IndexByte_ent (n : Nat) : Enters Tryd.prog 40 := enters_of (c := bodyOf Tryd.f40) st_IndexByte_at (by kernel_rfl) (by kernel_rfl)
theorem st_IndexByte_E (n : Nat) (s : BA) (c : Int) : fnA tys (callees Out (il_IndexByte_es n)) (st_IndexByte_hint n) n Tryd.f40 (encL (.pair .str (.pair (.int .u8) .unit)) (s, (c, ()))) [] (soloA fun v => some (.ret v)) (soloA fun v => some (.pan v)) = st_IndexByte_B n s c (fun y => some (.ret (encR (.one (.int .i64)) y))) := by kernel_rfl
def st_IndexByte_en (n : Nat) : Entry := ⟨40, pcT (.pair .str (.pair (.int .u8) .unit)) (.one (.int .i64)) (fun xs => st_IndexByte n xs.1 xs.2.1), none, none⟩
theorem st_IndexByte_ok (n : Nat) : EntryOk Tryd.prog gl (st_IndexByte_en n) :=
  pcT_ok (st_IndexByte_ent n) fun xs y h => ans_of_fn tys_ok (il_IndexByte_es_ok n) mixed (hint := st_IndexByte_hint n) (n := n) (fn := Tryd.f40) st_IndexByte_at (runsC (st_IndexByte_runs n)) (run_ret (φ := (fun y => some (Out.ret (encR (.one (.int .i64)) y)))) ((st_IndexByte_E n xs.1 xs.2.1).trans (st_IndexByte_N (R := Int) (S := Out) n xs.1 xs.2.1 some (fun y => some (Out.ret (encR (.one (.int .i64)) y))))) h)
def st_IndexByte_es (n : Nat) : List Entry := st_IndexByte_en n :: il_IndexByte_es n
theorem st_IndexByte_es_ok (n : Nat) : AllOk Tryd.prog gl (st_IndexByte_es n) := .cons (st_IndexByte_ok n) (il_IndexByte_es_ok n)
/- pouch/addr.atom -/
def ad_atom_B (n : Nat) {R : Type} (c : Int) (k : Bool → Option R) : Option R :=
 (ad_sign n c).bind fun v =>
 if v = false then
  if (decide (c ≥ (65 : Int))) = true then
   if (decide (c ≤ (90 : Int))) = false then
    (st_IndexByte n (⟨#[33, 35, 36, 37, 38, 39, 42, 43, 45, 47, 61, 63, 94, 95, 96, 123, 124, 125, 126]⟩ : BA) c).bind fun v1 =>
    k (decide (v1 ≥ (0 : Int)))
   else
    k true
  else
   (st_IndexByte n (⟨#[33, 35, 36, 37, 38, 39, 42, 43, 45, 47, 61, 63, 94, 95, 96, 123, 124, 125, 126]⟩ : BA) c).bind fun v2 =>
   k (decide (v2 ≥ (0 : Int)))
 else
  k true
def ad_atom (n : Nat) (c : Int) : Option Bool := ad_atom_B n c some
theorem ad_atom_N (n : Nat) {R S : Type} (c : Int) (k : Bool → Option R) (φ : R → Option S) : ad_atom_B n c (fun a => (k a).bind φ) = (ad_atom_B n c k).bind φ := by
  unfold ad_atom_B
  first | (simp only [dup_self, both_self, iB, bB, oL, oX, nB]) | rfl
def ad_atom_hint (n : Nat) : Hint Out := { live := fun c => [], run := fun c => none, xm := fun c q => none }
theorem ad_atom_runs (n : Nat) : RunsOk tys (callees Out (st_IndexByte_es n)) (ad_atom_hint n) n (bodyOf Tryd.f51) 0 := runs_noloop (fun _ => rfl) _ _ (by kernel_rfl)
theorem ad_atom_at : Tryd.prog.funcs[51]? = some Tryd.f51 := by kernel_rfl
theorem ad_atom_ent (n : Nat) : Enters Tryd.prog 51 := enters_of (c := bodyOf Tryd.f51) ad_atom_at (by kernel_rfl) (by kernel_rfl)
theorem ad_atom_E (n : Nat) (c : Int) : fnA tys (callees Out (st_IndexByte_es n)) (ad_atom_hint n) n Tryd.f51 (encL (.pair (.int .u8) .unit) (c, ())) [] (soloA fun v => some (.ret v)) (soloA fun v => some (.pan v)) = ad_atom_B n c (fun y => some (.ret (encR (.one .bool) y))) := by kernel_rfl
def ad_atom_en (n : Nat) : Entry := ⟨51, pcT (.pair (.int .u8) .unit) (.one .bool) (fun xs => ad_atom n xs.1), none, none⟩
theorem ad_atom_ok (n : Nat) : EntryOk Tryd.prog gl (ad_atom_en n) :=
  pcT_ok (ad_atom_ent n) fun xs y h => ans_of_fn tys_ok (st_IndexByte_es_ok n) mixed (hint := ad_atom_hint n) (n := n) (fn := Tryd.f51) ad_atom_at (runsC (ad_atom_runs n)) (run_ret (φ := (fun y => some (Out.ret (encR (.one .bool) y)))) ((ad_atom_E n xs.1).trans (ad_atom_N (R := Bool) (S := Out) n xs.1 some (fun y => some (Out.ret (encR (.one .bool) y))))) h)
def ad_atom_es (n : Nat) : List Entry := ad_atom_en n :: st_IndexByte_es n
theorem ad_atom_es_ok (n : Nat) : AllOk Tryd.prog gl (ad_atom_es n) := .cons (ad_atom_ok n) (st_IndexByte_es_ok n)
/- pouch/addr.plain -/
def ad_plain_B0 (n : Nat) {R : Type} (s1 : BA) (word : Int) (t6 : Int) (t7 : Int) (kn : BA → Int → Int → Int → Option R) (ko : (Int) → Option R) (kr : (Bool) → Option R) (kp : Int → Option R) : Option R :=
 if (decide (t7 < t6)) = true then
  if 0 ≤ t7 ∧ t7 < (s1.size : Int) then
   if ((bt s1 t7) == (46 : Int)) = true then
    if (word == (0 : Int)) = false then
     if 0 ≤ t7 ∧ t7 < (s1.size : Int) then
      if ((bt s1 t7) != (46 : Int)) = true then
       if 0 ≤ t7 ∧ t7 < (s1.size : Int) then
        (ad_atom n (bt s1 t7)).bind fun v =>
        if (!v) = true then
         kr false
        else
         if 0 ≤ t7 ∧ t7 < (s1.size : Int) then
          if ((bt s1 t7) == (46 : Int)) = true then
           kn s1 (0 : Int) t6 (IntKind.wrap .i64 (t7 + (1 : Int)))
          else
           kn s1 (IntKind.wrap .i64 (word + (1 : Int))) t6 (IntKind.wrap .i64 (t7 + (1 : Int)))
         else
          none
       else
        none
      else
       if 0 ≤ t7 ∧ t7 < (s1.size : Int) then
        if ((bt s1 t7) == (46 : Int)) = true then
         kn s1 (0 : Int) t6 (IntKind.wrap .i64 (t7 + (1 : Int)))
        else
         kn s1 (IntKind.wrap .i64 (word + (1 : Int))) t6 (IntKind.wrap .i64 (t7 + (1 : Int)))
       else
        none
     else
      none
    else
     kr false
   else
    if 0 ≤ t7 ∧ t7 < (s1.size : Int) then
     if ((bt s1 t7) != (46 : Int)) = true then
      if 0 ≤ t7 ∧ t7 < (s1.size : Int) then
       (ad_atom n (bt s1 t7)).bind fun v1 =>
       if (!v1) = true then
        kr false
       else
        if 0 ≤ t7 ∧ t7 < (s1.size : Int) then
         if ((bt s1 t7) == (46 : Int)) = true then
          kn s1 (0 : Int) t6 (IntKind.wrap .i64 (t7 + (1 : Int)))
         else
          kn s1 (IntKind.wrap .i64 (word + (1 : Int))) t6 (IntKind.wrap .i64 (t7 + (1 : Int)))
        else
         none
      else
       none
     else
      if 0 ≤ t7 ∧ t7 < (s1.size : Int) then
       if ((bt s1 t7) == (46 : Int)) = true then
        kn s1 (0 : Int) t6 (IntKind.wrap .i64 (t7 + (1 : Int)))
       else
        kn s1 (IntKind.wrap .i64 (word + (1 : Int))) t6 (IntKind.wrap .i64 (t7 + (1 : Int)))
      else
       none
    else
     none
  else
   none
 else
  ko word
theorem ad_plain_B0_N (n : Nat) {R S : Type} (s1 : BA) (word : Int) (t6 : Int) (t7 : Int) (kn : BA → Int → Int → Int → Option R) (ko : (Int) → Option R) (kr : (Bool) → Option R) (kp : Int → Option R) (φ : R → Option S) : ad_plain_B0 n s1 word t6 t7 (fun s1 word t6 t7 => (kn s1 word t6 t7).bind φ) (fun a => (ko a).bind φ) (fun a => (kr a).bind φ) (fun a => (kp a).bind φ) = (ad_plain_B0 n s1 word t6 t7 kn ko kr kp).bind φ := by
  unfold ad_plain_B0
  first | (simp only [dup_self, both_self, iB, bB, oL, oX, nB]) | rfl
def ad_plain_L0 (n : Nat) : Nat → BA → Int → Int → Int → Option (Lx (Int) (Bool))
  | 0, _, _, _, _ => none
  | m + 1, s1, word, t6, t7 => ad_plain_B0 n s1 word t6 t7 (fun s1 word t6 t7 => ad_plain_L0 n m s1 word t6 t7) (fun a => some (.out a)) (fun a => some (.ret a)) (fun p => some (.pan p))
def ad_plain_L0_sp : List Sl := .dat .str :: .top :: .top :: .dat (.int .i64) :: .top :: .top :: .dat (.int .i64) :: .dat (.int .i64) :: tp 32 []
def ad_plain_L0_rp : List RS := []
def ad_plain_L0_out_sp : List Sl := .top :: .top :: .top :: .dat (.int .i64) :: tp 36 []
def ad_plain_L0_out_rp : List RS := []
def ad_plain_L0_ret_sp : List Sl := .top :: .top :: .dat .bool :: tp 37 []
def ad_plain_L0_ret_rp : List RS := []
def ad_plain_L0_K (K : XE → List AV → AHeap → Option Out) : Lx (Int) (Bool) → Option Out := fun x => onL x (fun a => layK ad_plain_L0_out_sp ad_plain_L0_out_rp (a, ()) () (K (.exit 0))) (fun a => layK ad_plain_L0_ret_sp ad_plain_L0_ret_rp (a, ()) () (K .ret)) (fun _ => none)
def ad_plain_B (n : Nat) {R : Type} (s : BA) (k : Bool → Option R) : Option R :=
 (ad_plain_L0 n n s (0 : Int) (s.size : Int) (0 : Int)).bind fun x_1 => onL x_1
  (fun a_2 =>
   k (decide (a_2 > (0 : Int))))
  (fun a_3 =>
   k a_3)
  (fun _ => none)
def ad_plain (n : Nat) (s : BA) : Option Bool := ad_plain_B n s some
theorem ad_plain_N (n : Nat) {R S : Type} (s : BA) (k : Bool → Option R) (φ : R → Option S) : ad_plain_B n s (fun a => (k a).bind φ) = (ad_plain_B n s k).bind φ := by
  unfold ad_plain_B
  first | (simp only [dup_self, both_self, iB, bB, oL, oX, nB]) | rfl
def ad_plain_hint (n : Nat) : Hint Out := { live := fun c => (cond (Nat.beq c 0) (lv [0, 3, 6, 7]) []), run := fun c => (cond (Nat.beq c 0) (some (runL ad_plain_L0_sp ad_plain_L0_rp fun σ ρ K => (ad_plain_L0 n n σ.1 σ.2.1 σ.2.2.1 σ.2.2.2.1).bind (ad_plain_L0_K K))) none), xm := fun c q => (cond (Nat.beq c 0 && Nat.beq (q.getD 1000000) 0 && q.isSome) (some [(3, none)]) (cond (Nat.beq c 1 && q.isNone) (some [(2, none)]) none)) }
def ad_plain_L0_I (n : Nat) (K : XE → List AV → AHeap → Option Out) (m : Nat) (s1 : BA) (word : Int) (t6 : Int) (t7 : Int) : Option Out := loopI tys (callees Out (ad_atom_es n)) (ad_plain_hint n) n (codeAt [1, 1, 0, 1, 0, 0] (bodyOf Tryd.f41)) 0 ad_plain_L0_sp ad_plain_L0_rp K m (s1, (word, (t6, (t7, ())))) ()
theorem ad_plain_L0_E (n : Nat) (K : XE → List AV → AHeap → Option Out) : ∀ (m : Nat) (s1 : BA) (word : Int) (t6 : Int) (t7 : Int), ad_plain_L0_I n K m s1 word t6 t7 = (ad_plain_L0 n m s1 word t6 t7).bind (ad_plain_L0_K K)
  | 0, s1, word, t6, t7 => by kernel_rfl
  | m + 1, s1, word, t6, t7 => by
    have h1 : ad_plain_L0_I n K (m + 1) s1 word t6 t7 = ad_plain_B0 n s1 word t6 t7 (fun s1 word t6 t7 => ad_plain_L0_I n K m s1 word t6 t7) (fun a => ad_plain_L0_K K (.out a)) (fun a => ad_plain_L0_K K (.ret a)) (fun p => ad_plain_L0_K K (.pan p)) := by kernel_rfl
    have h2 : (fun s1 word t6 t7 => ad_plain_L0_I n K m s1 word t6 t7) = (fun s1 word t6 t7 => (ad_plain_L0 n m s1 word t6 t7).bind (ad_plain_L0_K K)) := funext fun s1 => funext fun word => funext fun t6 => funext fun t7 => ad_plain_L0_E n K m s1 word t6 t7
    exact h1.trans ((congrArg (fun z => ad_plain_B0 n s1 word t6 t7 z (fun a => ad_plain_L0_K K (.out a)) (fun a => ad_plain_L0_K K (.ret a)) (fun p => ad_plain_L0_K K (.pan p))) h2).trans (ad_plain_B0_N n s1 word t6 t7 (fun s1 word t6 t7 => ad_plain_L0 n m s1 word t6 t7) (fun a => some (.out a)) (fun a => some (.ret a)) (fun p => some (.pan p)) (ad_plain_L0_K K)))
theorem ad_plain_L0_ok (n : Nat) : RunOk tys (callees Out (ad_atom_es n)) (ad_plain_hint n) n (codeAt [1, 1, 0, 1, 0, 0] (bodyOf Tryd.f41)) 0 := runOk_of (sp := ad_plain_L0_sp) (rp := ad_plain_L0_rp) (F := fun σ ρ K => (ad_plain_L0 n n σ.1 σ.2.1 σ.2.2.1 σ.2.2.2.1).bind (ad_plain_L0_K K)) (by kernel_rfl) fun K σ ρ => ad_plain_L0_E n K n σ.1 σ.2.1 σ.2.2.1 σ.2.2.2.1
theorem ad_plain_runs (n : Nat) : RunsOk tys (callees Out (ad_atom_es n)) (ad_plain_hint n) n (bodyOf Tryd.f41) 0 := ⟨trivial, ⟨trivial, ⟨⟨trivial, ⟨ad_plain_L0_ok n, ⟨trivial, ⟨⟨trivial, trivial⟩, ⟨⟨trivial, ⟨⟨trivial, ⟨⟨trivial, trivial⟩, trivial⟩⟩, ⟨trivial, ⟨trivial, ⟨trivial, trivial⟩⟩⟩⟩⟩, trivial⟩⟩⟩⟩⟩, ⟨trivial, trivial⟩⟩⟩⟩
theorem ad_plain_at : Tryd.prog.funcs[41]? = some Tryd.f41 := by kernel_rfl
theorem ad_plain_ent (n : Nat) : Enters Tryd.prog 41 := enters_of (c := bodyOf Tryd.f41) ad_plain_at (by kernel_rfl) (by kernel_rfl)
theorem ad_plain_E (n : Nat) (s : BA) : fnA tys (callees Out (ad_atom_es n)) (ad_plain_hint n) n Tryd.f41 (encL (.pair .str .unit) (s, ())) [] (soloA fun v => some (.ret v)) (soloA fun v => some (.pan v)) = ad_plain_B n s (fun y => some (.ret (encR (.one .bool) y))) := by kernel_rfl
def ad_plain_en (n : Nat) : Entry := ⟨41, pcT (.pair .str .unit) (.one .bool) (fun xs => ad_plain n xs.1), none, none⟩
theorem ad_plain_ok (n : Nat) : EntryOk Tryd.prog gl (ad_plain_en n) :=
  pcT_ok (ad_plain_ent n) fun xs y h => ans_of_fn tys_ok (ad_atom_es_ok n) mixed (hint := ad_plain_hint n) (n := n) (fn := Tryd.f41) ad_plain_at (runsC (ad_plain_runs n)) (run_ret (φ := (fun y => some (Out.ret (encR (.one .bool) y)))) ((ad_plain_E n xs.1).trans (ad_plain_N (R := Bool) (S := Out) n xs.1 some (fun y => some (Out.ret (encR (.one .bool) y))))) h)
def ad_plain_es (n : Nat) : List Entry := ad_plain_en n :: ad_atom_es n
theorem ad_plain_es_ok (n : Nat) : AllOk Tryd.prog gl (ad_plain_es n) := .cons (ad_plain_ok n) (ad_atom_es_ok n)
/- pouch/addr.quote -/
def ad_quote_B0 (n : Nat) {R : Type} (s1 : BA) (t10 : Int) (t11 : Int) (r1 : (Sq Int)) (kn : BA → Int → Int → (Sq Int) → Option R) (ko : ((Sq Int)) → Option R) (kr : Unit → Option R) (kp : Int → Option R) : Option R :=
 if (decide (t11 < t10)) = true then
  if 0 ≤ t11 ∧ t11 < (s1.size : Int) then
   if ((bt s1 t11) == (34 : Int)) = false then
    if 0 ≤ t11 ∧ t11 < (s1.size : Int) then
     if ((bt s1 t11) == (92 : Int)) = true then
      (sB_WriteByte_v1 n (92 : Int) r1).bind fun v2 =>
      if 0 ≤ t11 ∧ t11 < (s1.size : Int) then
       (sB_WriteByte_v1 n (bt s1 t11) v2.1).bind fun v3 =>
       kn s1 t10 (IntKind.wrap .i64 (t11 + (1 : Int))) v3.1
      else
       none
     else
      if 0 ≤ t11 ∧ t11 < (s1.size : Int) then
       (sB_WriteByte_v1 n (bt s1 t11) r1).bind fun v4 =>
       kn s1 t10 (IntKind.wrap .i64 (t11 + (1 : Int))) v4.1
      else
       none
    else
     none
   else
    (sB_WriteByte_v1 n (92 : Int) r1).bind fun v5 =>
    if 0 ≤ t11 ∧ t11 < (s1.size : Int) then
     (sB_WriteByte_v1 n (bt s1 t11) v5.1).bind fun v6 =>
     kn s1 t10 (IntKind.wrap .i64 (t11 + (1 : Int))) v6.1
    else
     none
  else
   none
 else
  ko r1
theorem ad_quote_B0_N (n : Nat) {R S : Type} (s1 : BA) (t10 : Int) (t11 : Int) (r1 : (Sq Int)) (kn : BA → Int → Int → (Sq Int) → Option R) (ko : ((Sq Int)) → Option R) (kr : Unit → Option R) (kp : Int → Option R) (φ : R → Option S) : ad_quote_B0 n s1 t10 t11 r1 (fun s1 t10 t11 r1 => (kn s1 t10 t11 r1).bind φ) (fun a => (ko a).bind φ) (fun a => (kr a).bind φ) (fun a => (kp a).bind φ) = (ad_quote_B0 n s1 t10 t11 r1 kn ko kr kp).bind φ := by
  unfold ad_quote_B0
  first | (simp only [dup_self, both_self, iB, bB, oL, oX, nB]) | rfl
def ad_quote_L0 (n : Nat) : Nat → BA → Int → Int → (Sq Int) → Option (Lx ((Sq Int)) Unit)
  | 0, _, _, _, _ => none
  | m + 1, s1, t10, t11, r1 => ad_quote_B0 n s1 t10 t11 r1 (fun s1 t10 t11 r1 => ad_quote_L0 n m s1 t10 t11 r1) (fun a => some (.out a)) (fun a => some (.ret a)) (fun p => some (.pan p))
def ad_quote_L0_sp : List Sl := .dat .str :: .top :: .top :: .ptr 0 0 0 :: tp 6 (.dat (.int .i64) :: .dat (.int .i64) :: tp 20 [])
def ad_quote_L0_rp : List RS := [.box 71 2 false [.ptr 0 0 0, .row 1], .row 5 1 (.int .u8) true false]
def ad_quote_L0_out_sp : List Sl := .top :: .top :: .top :: .ptr 0 0 0 :: tp 28 []
def ad_quote_L0_out_rp : List RS := [.box 71 2 false [.ptr 0 0 0, .row 1], .row 5 1 (.int .u8) true false]
def ad_quote_L0_K (K : XE → List AV → AHeap → Option Out) : Lx ((Sq Int)) Unit → Option Out := fun x => onL x (fun a => layK ad_quote_L0_out_sp ad_quote_L0_out_rp () ((), (a, ())) (K (.exit 0))) (fun _ => none) (fun _ => none)
def ad_quote_B (n : Nat) {R : Type} (s : BA) (k : BA → Option R) : Option R :=
 (ad_plain n s).bind fun v =>
 if v = true then
  k s
 else
  (sB_WriteByte_v0 n (34 : Int)).bind fun v1 =>
  (ad_quote_L0 n n s (s.size : Int) (0 : Int) v1.1).bind fun x_1 => onL x_1
   (fun a_2 =>
    (sB_String_v1 n a_2).bind fun v7 =>
    if strFits v7.1 (⟨#[34]⟩ : BA) = true then
     k (v7.1 ++ (⟨#[34]⟩ : BA))
    else
     none)
   (fun _ => none)
   (fun _ => none)
def ad_quote (n : Nat) (s : BA) : Option BA := ad_quote_B n s some
theorem ad_quote_N (n : Nat) {R S : Type} (s : BA) (k : BA → Option R) (φ : R → Option S) : ad_quote_B n s (fun a => (k a).bind φ) = (ad_quote_B n s k).bind φ := by
  unfold ad_quote_B
  first | (simp only [dup_self, both_self, iB, bB, oL, oX, nB]) | rfl
def ad_quote_hint (n : Nat) : Hint Out := { live := fun c => (cond (Nat.beq c 0) (lv [0, 3, 10, 11]) []), run := fun c => (cond (Nat.beq c 0) (some (runL ad_quote_L0_sp ad_quote_L0_rp fun σ ρ K => (ad_quote_L0 n n σ.1 σ.2.1 σ.2.2.1 ρ.2.1).bind (ad_quote_L0_K K))) none), xm := fun c q => (cond (Nat.beq c 0 && Nat.beq (q.getD 1000000) 0 && q.isSome) (some [(3, none)]) none) }
def ad_quote_L0_I (n : Nat) (K : XE → List AV → AHeap → Option Out) (m : Nat) (s1 : BA) (t10 : Int) (t11 : Int) (r1 : (Sq Int)) : Option Out := loopI tys (callees Out (ad_plain_es n)) (ad_quote_hint n) n (codeAt [1, 1, 1, 1, 0, 1, 0, 0] (bodyOf Tryd.f39)) 0 ad_quote_L0_sp ad_quote_L0_rp K m (s1, (t10, (t11, ()))) ((), (r1, ()))
theorem ad_quote_L0_E (n : Nat) (K : XE → List AV → AHeap → Option Out) : ∀ (m : Nat) (s1 : BA) (t10 : Int) (t11 : Int) (r1 : (Sq Int)), ad_quote_L0_I n K m s1 t10 t11 r1 = (ad_quote_L0 n m s1 t10 t11 r1).bind (ad_quote_L0_K K)
  | 0, s1, t10, t11, r1 => by kernel_rfl
  | m + 1, s1, t10, t11, r1 => by
    have h1 : ad_quote_L0_I n K (m + 1) s1 t10 t11 r1 = ad_quote_B0 n s1 t10 t11 r1 (fun s1 t10 t11 r1 => ad_quote_L0_I n K m s1 t10 t11 r1) (fun a => ad_quote_L0_K K (.out a)) (fun a => ad_quote_L0_K K (.ret a)) (fun p => ad_quote_L0_K K (.pan p)) := by kernel_rfl
    have h2 : (fun s1 t10 t11 r1 => ad_quote_L0_I n K m s1 t10 t11 r1) = (fun s1 t10 t11 r1 => (ad_quote_L0 n m s1 t10 t11 r1).bind (ad_quote_L0_K K)) := funext fun s1 => funext fun t10 => funext fun t11 => funext fun r1 => ad_quote_L0_E n K m s1 t10 t11 r1
    exact h1.trans ((congrArg (fun z => ad_quote_B0 n s1 t10 t11 r1 z (fun a => ad_quote_L0_K K (.out a)) (fun a => ad_quote_L0_K K (.ret a)) (fun p => ad_quote_L0_K K (.pan p))) h2).trans (ad_quote_B0_N n s1 t10 t11 r1 (fun s1 t10 t11 r1 => ad_quote_L0 n m s1 t10 t11 r1) (fun a => some (.out a)) (fun a => some (.ret a)) (fun p => some (.pan p)) (ad_quote_L0_K K)))
theorem ad_quote_L0_ok (n : Nat) : RunOk tys (callees Out (ad_plain_es n)) (ad_quote_hint n) n (codeAt [1, 1, 1, 1, 0, 1, 0, 0] (bodyOf Tryd.f39)) 0 := runOk_of (sp := ad_quote_L0_sp) (rp := ad_quote_L0_rp) (F := fun σ ρ K => (ad_quote_L0 n n σ.1 σ.2.1 σ.2.2.1 ρ.2.1).bind (ad_quote_L0_K K)) (by kernel_rfl) fun K σ ρ => ad_quote_L0_E n K n σ.1 σ.2.1 σ.2.2.1 ρ.2.1
theorem ad_quote_runs (n : Nat) : RunsOk tys (callees Out (ad_plain_es n)) (ad_quote_hint n) n (bodyOf Tryd.f39) 0 := ⟨trivial, ⟨⟨trivial, ⟨⟨trivial, trivial⟩, trivial⟩⟩, ⟨trivial, ⟨trivial, ⟨⟨trivial, ⟨ad_quote_L0_ok n, ⟨trivial, ⟨⟨trivial, trivial⟩, ⟨⟨trivial, ⟨⟨trivial, ⟨trivial, trivial⟩⟩, trivial⟩⟩, trivial⟩⟩⟩⟩⟩, ⟨trivial, trivial⟩⟩⟩⟩⟩⟩
theorem ad_quote_at : Tryd.prog.funcs[39]? = some Tryd.f39 := by kernel_rfl
theorem ad_quote_ent (n : Nat) : Enters Tryd.prog 39 := enters_of (c := bodyOf Tryd.f39) ad_quote_at (by kernel_rfl) (by kernel_rfl)
theorem ad_quote_E (n : Nat) (s : BA) : fnA tys (callees Out (ad_plain_es n)) (ad_quote_hint n) n Tryd.f39 (encL (.pair .str .unit) (s, ())) [] (soloA fun v => some (.ret v)) (soloA fun v => some (.pan v)) = ad_quote_B n s (fun y => some (.ret (encR (.one .str) y))) := by kernel_rfl
def ad_quote_en (n : Nat) : Entry := ⟨39, pcT (.pair .str .unit) (.one .str) (fun xs => ad_quote n xs.1), none, none⟩
theorem ad_quote_ok (n : Nat) : EntryOk Tryd.prog gl (ad_quote_en n) :=
  pcT_ok (ad_quote_ent n) fun xs y h => ans_of_fn tys_ok (ad_plain_es_ok n) mixed (hint := ad_quote_hint n) (n := n) (fn := Tryd.f39) ad_quote_at (runsC (ad_quote_runs n)) (run_ret (φ := (fun y => some (Out.ret (encR (.one .str) y)))) ((ad_quote_E n xs.1).trans (ad_quote_N (R := BA) (S := Out) n xs.1 some (fun y => some (Out.ret (encR (.one .str) y))))) h)
def ad_quote_es (n : Nat) : List Entry := ad_quote_en n :: ad_plain_es n
theorem ad_quote_es_ok (n : Nat) : AllOk Tryd.prog gl (ad_quote_es n) := .cons (ad_quote_ok n) (ad_plain_es_ok n)
/- pouch/addr.local -/
def ad_local_B (n : Nat) {R : Type} (s : BA) (k : (BA × BA × Unit) → Option R) (kp : Int → Option R) : Option R :=
 (st_HasPrefix n s (⟨#[34]⟩ : BA)).bind fun v =>
 if v = true then
  (ad_quoted n s).bind fun x_1 => onX x_1 (fun p =>
   kp p) (fun v1 =>
  (ad_quote n v1.1).bind fun v2 =>
  k (v2, (v1.2.1, ())))
 else
  (st_IndexByte n s (64 : Int)).bind fun v3 =>
  if (decide (v3 ≥ (0 : Int))) = true then
   if 0 ≤ v3 ∧ v3 ≤ (s.size : Int) then
    (ad_plain n (s.extract (Int.toNat (0 : Int)) (Int.toNat v3))).bind fun v4 =>
    (ad_must n v4).bind fun x_2 => onX x_2 (fun p1 =>
     kp p1) (fun v5 =>
    if 0 ≤ v3 ∧ v3 ≤ (s.size : Int) then
     if 0 ≤ v3 ∧ v3 ≤ (s.size : Int) then
      k ((s.extract (Int.toNat (0 : Int)) (Int.toNat v3)), ((s.extract (Int.toNat v3) (Int.toNat (s.size : Int))), ()))
     else
      none
    else
     none)
   else
    none
  else
   (ad_must n false).bind fun x_3 => onX x_3 (fun p2 =>
    kp p2) (fun v6 =>
   if 0 ≤ v3 ∧ v3 ≤ (s.size : Int) then
    if 0 ≤ v3 ∧ v3 ≤ (s.size : Int) then
     k ((s.extract (Int.toNat (0 : Int)) (Int.toNat v3)), ((s.extract (Int.toNat v3) (Int.toNat (s.size : Int))), ()))
    else
     none
   else
    none)
def ad_local (n : Nat) (s : BA) : Option (Except Int (BA × BA × Unit)) := ad_local_B n s (fun y => some (.ok y)) (fun p => some (.error p))
theorem ad_local_N (n : Nat) {R S : Type} (s : BA) (k : (BA × BA × Unit) → Option R) (kp : Int → Option R) (φ : R → Option S) : ad_local_B n s (fun a => (k a).bind φ) (fun a => (kp a).bind φ) = (ad_local_B n s k kp).bind φ := by
  unfold ad_local_B
  first | (simp only [dup_self, both_self, iB, bB, oL, oX, nB]) | rfl
def ad_local_hint (n : Nat) : Hint Out := { live := fun c => [], run := fun c => none, xm := fun c q => none }
theorem ad_local_runs (n : Nat) : RunsOk tys (callees Out (ad_quote_es n)) (ad_local_hint n) n (bodyOf Tryd.f30) 0 := runs_noloop (fun _ => rfl) _ _ (by kernel_rfl)
theorem ad_local_at : Tryd.prog.funcs[30]? = some Tryd.f30 := by kernel_rfl
theorem ad_local_ent (n : Nat) : Enters Tryd.prog 30 := enters_of (c := bodyOf Tryd.f30) ad_local_at (by kernel_rfl) (by kernel_rfl)
theorem ad_local_E (n : Nat) (s : BA) : fnA tys (callees Out (ad_quote_es n)) (ad_local_hint n) n Tryd.f30 (encL (.pair .str .unit) (s, ())) [] (soloA fun v => some (.ret v)) (soloA fun v => some (.pan v)) = ad_local_B n s (fun y => some (.ret (encR (.many (.pair .str (.pair .str .unit))) y))) (fun p => some (.pan (wrongV 57 p))) := by kernel_rfl
def ad_local_en (n : Nat) : Entry := ⟨30, pcX 57 (.pair .str .unit) (.many (.pair .str (.pair .str .unit))) (fun xs => ad_local n xs.1), none, none⟩
theorem ad_local_ok (n : Nat) : EntryOk Tryd.prog gl (ad_local_en n) :=
  pcX_ok (ad_local_ent n) (fun xs y h => ans_of_fn tys_ok (ad_quote_es_ok n) mixed (hint := ad_local_hint n) (n := n) (fn := Tryd.f30) ad_local_at (runsC (ad_local_runs n)) (run_ret (φ := (fun r => onX r (fun p => some (Out.pan (wrongV 57 p))) fun y => some (Out.ret (encR (.many (.pair .str (.pair .str .unit))) y)))) ((ad_local_E n xs.1).trans (ad_local_N (R := Except Int (BA × BA × Unit)) (S := Out) n xs.1 (fun y => some (.ok y)) (fun p => some (.error p)) (fun r => onX r (fun p => some (Out.pan (wrongV 57 p))) fun y => some (Out.ret (encR (.many (.pair .str (.pair .str .unit))) y))))) h))
    (fun xs p h => ans_of_fn tys_ok (ad_quote_es_ok n) mixed (hint := ad_local_hint n) (n := n) (fn := Tryd.f30) ad_local_at (runsC (ad_local_runs n)) (run_ret (φ := (fun r => onX r (fun p => some (Out.pan (wrongV 57 p))) fun y => some (Out.ret (encR (.many (.pair .str (.pair .str .unit))) y)))) ((ad_local_E n xs.1).trans (ad_local_N (R := Except Int (BA × BA × Unit)) (S := Out) n xs.1 (fun y => some (.ok y)) (fun p => some (.error p)) (fun r => onX r (fun p => some (Out.pan (wrongV 57 p))) fun y => some (Out.ret (encR (.many (.pair .str (.pair .str .unit))) y))))) h))
def ad_local_es (n : Nat) : List Entry := ad_local_en n :: ad_quote_es n
theorem ad_local_es_ok (n : Nat) : AllOk Tryd.prog gl (ad_local_es n) := .cons (ad_local_ok n) (ad_quote_es_ok n)
/- pouch/addr.small -/
def ad_small_B0 (n : Nat) {R : Type} (t9 : Int) (t10 : Int) (b : (Sq Int)) (kn : Int → Int → (Sq Int) → Option R) (ko : ((Sq Int)) → Option R) (kr : Unit → Option R) (kp : Int → Option R) : Option R :=
 if (decide (t10 < t9)) = true then
  if 0 ≤ t10 ∧ t10 < (b.n : Int) then
   if (decide ((b.at' (Int.toNat t10)) ≥ (65 : Int))) = true then
    if (decide ((b.at' (Int.toNat t10)) ≤ (90 : Int))) = true then
     if 0 ≤ t10 ∧ t10 < (b.n : Int) then
      kn t9 (IntKind.wrap .i64 (t10 + (1 : Int))) (⟨b.n, fun q => if q = (Int.toNat t10) ∧ q < b.n then (IntKind.wrap .u8 ((IntKind.wrap .u8 ((b.at' (Int.toNat t10)) + (97 : Int))) - (65 : Int))) else b.at' q⟩ : Sq Int)
     else
      none
    else
     kn t9 (IntKind.wrap .i64 (t10 + (1 : Int))) b
   else
    kn t9 (IntKind.wrap .i64 (t10 + (1 : Int))) b
  else
   none
 else
  ko b
theorem ad_small_B0_N (n : Nat) {R S : Type} (t9 : Int) (t10 : Int) (b : (Sq Int)) (kn : Int → Int → (Sq Int) → Option R) (ko : ((Sq Int)) → Option R) (kr : Unit → Option R) (kp : Int → Option R) (φ : R → Option S) : ad_small_B0 n t9 t10 b (fun t9 t10 b => (kn t9 t10 b).bind φ) (fun a => (ko a).bind φ) (fun a => (kr a).bind φ) (fun a => (kp a).bind φ) = (ad_small_B0 n t9 t10 b kn ko kr kp).bind φ := by
  unfold ad_small_B0
  first | (simp only [dup_self, both_self, iB, bB, oL, oX, nB]) | rfl
def ad_small_L0 (n : Nat) : Nat → Int → Int → (Sq Int) → Option (Lx ((Sq Int)) Unit)
  | 0, _, _, _ => none
  | m + 1, t9, t10, b => ad_small_B0 n t9 t10 b (fun t9 t10 b => ad_small_L0 n m t9 t10 b) (fun a => some (.out a)) (fun a => some (.ret a)) (fun p => some (.pan p))
def ad_small_L0_sp : List Sl := .top :: .top :: .top :: .row 0 :: tp 4 (.row 0 :: .dat (.int .i64) :: .dat (.int .i64) :: tp 19 [])
def ad_small_L0_rp : List RS := [.row 5 1 (.int .u8) false true]
def ad_small_L0_out_sp : List Sl := .top :: .top :: .top :: .row 0 :: tp 26 []
def ad_small_L0_out_rp : List RS := [.row 5 1 (.int .u8) false true]
def ad_small_L0_K (K : XE → List AV → AHeap → Option Out) : Lx ((Sq Int)) Unit → Option Out := fun x => onL x (fun a => layK ad_small_L0_out_sp ad_small_L0_out_rp () (a, ()) (K (.exit 0))) (fun _ => none) (fun _ => none)
def ad_small_B (n : Nat) {R : Type} (s : BA) (k : BA → Option R) : Option R :=
 (ad_small_L0 n n (s.size : Int) (0 : Int) (⟨s.size, fun q => bt s q⟩ : Sq Int)).bind fun x_1 => onL x_1
  (fun a_2 =>
   k (strOf a_2.n a_2.at'))
  (fun _ => none)
  (fun _ => none)
def ad_small (n : Nat) (s : BA) : Option BA := ad_small_B n s some
theorem ad_small_N (n : Nat) {R S : Type} (s : BA) (k : BA → Option R) (φ : R → Option S) : ad_small_B n s (fun a => (k a).bind φ) = (ad_small_B n s k).bind φ := by
  unfold ad_small_B
  first | (simp only [dup_self, both_self, iB, bB, oL, oX, nB]) | rfl
def ad_small_hint (n : Nat) : Hint Out := { live := fun c => (cond (Nat.beq c 0) [(3, some (.sl (.int .u8))), (8, some (.sl (.int .u8))), (9, none), (10, none)] []), run := fun c => (cond (Nat.beq c 0) (some (runL ad_small_L0_sp ad_small_L0_rp fun σ ρ K => (ad_small_L0 n n σ.1 σ.2.1 ρ.1).bind (ad_small_L0_K K))) none), xm := fun c q => (cond (Nat.beq c 0 && Nat.beq (q.getD 1000000) 0 && q.isSome) (some [(3, some (.sl (.int .u8)))]) none) }
def ad_small_L0_I (n : Nat) (K : XE → List AV → AHeap → Option Out) (m : Nat) (t9 : Int) (t10 : Int) (b : (Sq Int)) : Option Out := loopI tys (callees Out (ad_local_es n)) (ad_small_hint n) n (codeAt [1, 1, 0, 1, 0, 0] (bodyOf Tryd.f33)) 0 ad_small_L0_sp ad_small_L0_rp K m (t9, (t10, ())) (b, ())
theorem ad_small_L0_E (n : Nat) (K : XE → List AV → AHeap → Option Out) : ∀ (m : Nat) (t9 : Int) (t10 : Int) (b : (Sq Int)), ad_small_L0_I n K m t9 t10 b = (ad_small_L0 n m t9 t10 b).bind (ad_small_L0_K K)
  | 0, t9, t10, b => by kernel_rfl
  | m + 1, t9, t10, b => by
    have h1 : ad_small_L0_I n K (m + 1) t9 t10 b = ad_small_B0 n t9 t10 b (fun t9 t10 b => ad_small_L0_I n K m t9 t10 b) (fun a => ad_small_L0_K K (.out a)) (fun a => ad_small_L0_K K (.ret a)) (fun p => ad_small_L0_K K (.pan p)) := by kernel_rfl
    have h2 : (fun t9 t10 b => ad_small_L0_I n K m t9 t10 b) = (fun t9 t10 b => (ad_small_L0 n m t9 t10 b).bind (ad_small_L0_K K)) := funext fun t9 => funext fun t10 => funext fun b => ad_small_L0_E n K m t9 t10 b
    exact h1.trans ((congrArg (fun z => ad_small_B0 n t9 t10 b z (fun a => ad_small_L0_K K (.out a)) (fun a => ad_small_L0_K K (.ret a)) (fun p => ad_small_L0_K K (.pan p))) h2).trans (ad_small_B0_N n t9 t10 b (fun t9 t10 b => ad_small_L0 n m t9 t10 b) (fun a => some (.out a)) (fun a => some (.ret a)) (fun p => some (.pan p)) (ad_small_L0_K K)))
theorem ad_small_L0_ok (n : Nat) : RunOk tys (callees Out (ad_local_es n)) (ad_small_hint n) n (codeAt [1, 1, 0, 1, 0, 0] (bodyOf Tryd.f33)) 0 := runOk_of (sp := ad_small_L0_sp) (rp := ad_small_L0_rp) (F := fun σ ρ K => (ad_small_L0 n n σ.1 σ.2.1 ρ.1).bind (ad_small_L0_K K)) (by kernel_rfl) fun K σ ρ => ad_small_L0_E n K n σ.1 σ.2.1 ρ.1
theorem ad_small_runs (n : Nat) : RunsOk tys (callees Out (ad_local_es n)) (ad_small_hint n) n (bodyOf Tryd.f33) 0 := ⟨trivial, ⟨trivial, ⟨⟨trivial, ⟨ad_small_L0_ok n, ⟨trivial, ⟨⟨trivial, trivial⟩, ⟨⟨trivial, ⟨trivial, ⟨trivial, trivial⟩⟩⟩, trivial⟩⟩⟩⟩⟩, ⟨trivial, trivial⟩⟩⟩⟩
theorem ad_small_at : Tryd.prog.funcs[33]? = some Tryd.f33 := by kernel_rfl
theorem ad_small_ent (n : Nat) : Enters Tryd.prog 33 := enters_of (c := bodyOf Tryd.f33) ad_small_at (by kernel_rfl) (by kernel_rfl)
theorem ad_small_E (n : Nat) (s : BA) : fnA tys (callees Out (ad_local_es n)) (ad_small_hint n) n Tryd.f33 (encL (.pair .str .unit) (s, ())) [] (soloA fun v => some (.ret v)) (soloA fun v => some (.pan v)) = ad_small_B n s (fun y => some (.ret (encR (.one .str) y))) := by kernel_rfl
def ad_small_en (n : Nat) : Entry := ⟨33, pcT (.pair .str .unit) (.one .str) (fun xs => ad_small n xs.1), none, none⟩
theorem ad_small_ok (n : Nat) : EntryOk Tryd.prog gl (ad_small_en n) :=
  pcT_ok (ad_small_ent n) fun xs y h => ans_of_fn tys_ok (ad_local_es_ok n) mixed (hint := ad_small_hint n) (n := n) (fn := Tryd.f33) ad_small_at (runsC (ad_small_runs n)) (run_ret (φ := (fun y => some (Out.ret (encR (.one .str) y)))) ((ad_small_E n xs.1).trans (ad_small_N (R := BA) (S := Out) n xs.1 some (fun y => some (Out.ret (encR (.one .str) y))))) h)
def ad_small_es (n : Nat) : List Entry := ad_small_en n :: ad_local_es n
theorem ad_small_es_ok (n : Nat) : AllOk Tryd.prog gl (ad_small_es n) := .cons (ad_small_ok n) (ad_local_es_ok n)
/- pouch/addr.IsLiteral -/
def ad_IsLiteral_B (n : Nat) {R : Type} (s : BA) (k : Bool → Option R) : Option R :=
 (st_HasPrefix n s (⟨#[91]⟩ : BA)).bind fun v =>
 k v
def ad_IsLiteral (n : Nat) (s : BA) : Option Bool := ad_IsLiteral_B n s some
theorem ad_IsLiteral_N (n : Nat) {R S : Type} (s : BA) (k : Bool → Option R) (φ : R → Option S) : ad_IsLiteral_B n s (fun a => (k a).bind φ) = (ad_IsLiteral_B n s k).bind φ := by
  unfold ad_IsLiteral_B
  first | (simp only [dup_self, both_self, iB, bB, oL, oX, nB]) | rfl
def ad_IsLiteral_hint (n : Nat) : Hint Out := { live := fun c => [], run := fun c => none, xm := fun c q => none }
theorem ad_IsLiteral_runs (n : Nat) : RunsOk tys (callees Out (ad_small_es n)) (ad_IsLiteral_hint n) n (bodyOf Tryd.f43) 0 := runs_noloop (fun _ => rfl) _ _ (by kernel_rfl)
theorem ad_IsLiteral_at : Tryd.prog.funcs[43]? = some Tryd.f43 := by kernel_rfl
theorem ad_IsLiteral_ent (n : Nat) : Enters Tryd.prog 43 := enters_of (c := bodyOf Tryd.f43) ad_IsLiteral_at (by kernel_rfl) (by kernel_rfl)
theorem ad_IsLiteral_E (n : Nat) (s : BA) : fnA tys (callees Out (ad_small_es n)) (ad_IsLiteral_hint n) n Tryd.f43 (encL (.pair .str .unit) (s, ())) [] (soloA fun v => some (.ret v)) (soloA fun v => some (.pan v)) = ad_IsLiteral_B n s (fun y => some (.ret (encR (.one .bool) y))) := by kernel_rfl
def ad_IsLiteral_en (n : Nat) : Entry := ⟨43, pcT (.pair .str .unit) (.one .bool) (fun xs => ad_IsLiteral n xs.1), none, none⟩
theorem ad_IsLiteral_ok (n : Nat) : EntryOk Tryd.prog gl (ad_IsLiteral_en n) :=
  pcT_ok (ad_IsLiteral_ent n) fun xs y h => ans_of_fn tys_ok (ad_small_es_ok n) mixed (hint := ad_IsLiteral_hint n) (n := n) (fn := Tryd.f43) ad_IsLiteral_at (runsC (ad_IsLiteral_runs n)) (run_ret (φ := (fun y => some (Out.ret (encR (.one .bool) y)))) ((ad_IsLiteral_E n xs.1).trans (ad_IsLiteral_N (R := Bool) (S := Out) n xs.1 some (fun y => some (Out.ret (encR (.one .bool) y))))) h)
def ad_IsLiteral_es (n : Nat) : List Entry := ad_IsLiteral_en n :: ad_small_es n
theorem ad_IsLiteral_es_ok (n : Nat) : AllOk Tryd.prog gl (ad_IsLiteral_es n) := .cons (ad_IsLiteral_ok n) (ad_small_es_ok n)
/- internal/stringslite.HasSuffix -/
def il_HasSuffix_B (n : Nat) {R : Type} (s : BA) (suffix : BA) (k : Bool → Option R) : Option R :=
 if (decide ((s.size : Int) ≥ (suffix.size : Int))) = true then
  if 0 ≤ (IntKind.wrap .i64 ((s.size : Int) - (suffix.size : Int))) ∧ (IntKind.wrap .i64 ((s.size : Int) - (suffix.size : Int))) ≤ (s.size : Int) then
   k ((s.extract (Int.toNat (IntKind.wrap .i64 ((s.size : Int) - (suffix.size : Int)))) (Int.toNat (s.size : Int))).toList == suffix.toList)
  else
   none
 else
  k false
def il_HasSuffix (n : Nat) (s : BA) (suffix : BA) : Option Bool := il_HasSuffix_B n s suffix some
theorem il_HasSuffix_N (n : Nat) {R S : Type} (s : BA) (suffix : BA) (k : Bool → Option R) (φ : R → Option S) : il_HasSuffix_B n s suffix (fun a => (k a).bind φ) = (il_HasSuffix_B n s suffix k).bind φ := by
  unfold il_HasSuffix_B
  first | (simp only [dup_self, both_self, iB, bB, oL, oX, nB]) | rfl
def il_HasSuffix_hint (n : Nat) : Hint Out := { live := fun c => [], run := fun c => none, xm := fun c q => none }
theorem il_HasSuffix_runs (n : Nat) : RunsOk tys (callees Out (ad_IsLiteral_es n)) (il_HasSuffix_hint n) n (bodyOf Tryd.f52) 0 := runs_noloop (fun _ => rfl) _ _ (by kernel_rfl)
theorem il_HasSuffix_at : Tryd.prog.funcs[52]? = some Tryd.f52 := by kernel_rfl
theorem il_HasSuffix_ent (n : Nat) : Enters Tryd.prog 52 := enters_of (c := bodyOf Tryd.f52) il_HasSuffix_at (by kernel_rfl) (by kernel_rfl)
theorem il_HasSuffix_E (n : Nat) (s : BA) (suffix : BA) : fnA tys (callees Out (ad_IsLiteral_es n)) (il_HasSuffix_hint n) n Tryd.f52 (encL (.pair .str (.pair .str .unit)) (s, (suffix, ()))) [] (soloA fun v => some (.ret v)) (soloA fun v => some (.pan v)) = il_HasSuffix_B n s suffix (fun y => some (.ret (encR (.one .bool) y))) := by kernel_rfl
def il_HasSuffix_en (n : Nat) : Entry := ⟨52, pcT (.pair .str (.pair .str .unit)) (.one .bool) (fun xs => il_HasSuffix n xs.1 xs.2.1), none, none⟩
theorem il_HasSuffix_ok (n : Nat) : EntryOk Tryd.prog gl (il_HasSuffix_en n) :=
  pcT_ok (il_HasSuffix_ent n) fun xs y h => ans_of_fn tys_ok (ad_IsLiteral_es_ok n) mixed (hint := il_HasSuffix_hint n) (n := n) (fn := Tryd.f52) il_HasSuffix_at (runsC (il_HasSuffix_runs n)) (run_ret (φ := (fun y => some (Out.ret (encR (.one .bool) y)))) ((il_HasSuffix_E n xs.1 xs.2.1).trans (il_HasSuffix_N (R := Bool) (S := Out) n xs.1 xs.2.1 some (fun y => some (Out.ret (encR (.one .bool) y))))) h)
def il_HasSuffix_es (n : Nat) : List Entry := il_HasSuffix_en n :: ad_IsLiteral_es n
theorem il_HasSuffix_es_ok (n : Nat) : AllOk Tryd.prog gl (il_HasSuffix_es n) := .cons (il_HasSuffix_ok n) (ad_IsLiteral_es_ok n)
/- strings.HasSuffix -/
def st_HasSuffix_B (n : Nat) {R : Type} (s : BA) (suffix : BA) (k : Bool → Option R) : Option R :=
 (il_HasSuffix n s suffix).bind fun v =>
 k v
def st_HasSuffix (n : Nat) (s : BA) (suffix : BA) : Option Bool := st_HasSuffix_B n s suffix some
theorem st_HasSuffix_N (n : Nat) {R S : Type} (s : BA) (suffix : BA) (k : Bool → Option R) (φ : R → Option S) : st_HasSuffix_B n s suffix (fun a => (k a).bind φ) = (st_HasSuffix_B n s suffix k).bind φ := by
  unfold st_HasSuffix_B
  first | (simp only [dup_self, both_self, iB, bB, oL, oX, nB]) | rfl
def st_HasSuffix_hint (n : Nat) : Hint Out := { live := fun c => [], run := fun c => none, xm := fun c q => none }
theorem st_HasSuffix_runs (n : Nat) : RunsOk tys (callees Out (il_HasSuffix_es n)) (st_HasSuffix_hint n) n (bodyOf Tryd.f44) 0 := runs_noloop (fun _ => rfl) _ _ (by kernel_rfl)
theorem st_HasSuffix_at : Tryd.prog.funcs[44]? = some Tryd.f44 := by kernel_rfl
theorem st_HasSuffix_ent (n : Nat) : Enters Tryd.prog 44 := enters_of (c := bodyOf Tryd.f44) st_HasSuffix_at (by kernel_rfl) (by kernel_rfl)
theorem st_HasSuffix_E (n : Nat) (s : BA) (suffix : BA) : fnA tys (callees Out (il_HasSuffix_es n)) (st_HasSuffix_hint n) n Tryd.f44 (encL (.pair .str (.pair .str .unit)) (s, (suffix, ()))) [] (soloA fun v => some (.ret v)) (soloA fun v => some (.pan v)) = st_HasSuffix_B n s suffix (fun y => some (.ret (encR (.one .bool) y))) := by kernel_rfl
def st_HasSuffix_en (n : Nat) : Entry := ⟨44, pcT (.pair .str (.pair .str .unit)) (.one .bool) (fun xs => st_HasSuffix n xs.1 xs.2.1), none, none⟩
theorem st_HasSuffix_ok (n : Nat) : EntryOk Tryd.prog gl (st_HasSuffix_en n) :=
  pcT_ok (st_HasSuffix_ent n) fun xs y h => ans_of_fn tys_ok (il_HasSuffix_es_ok n) mixed (hint := st_HasSuffix_hint n) (n := n) (fn := Tryd.f44) st_HasSuffix_at (runsC (st_HasSuffix_runs n)) (run_ret (φ := (fun y => some (Out.ret (encR (.one .bool) y)))) ((st_HasSuffix_E n xs.1 xs.2.1).trans (st_HasSuffix_N (R := Bool) (S := Out) n xs.1 xs.2.1 some (fun y => some (Out.ret (encR (.one .bool) y))))) h)
def st_HasSuffix_es (n : Nat) : List Entry := st_HasSuffix_en n :: il_HasSuffix_es n
theorem st_HasSuffix_es_ok (n : Nat) : AllOk Tryd.prog gl (st_HasSuffix_es n) := .cons (st_HasSuffix_ok n) (il_HasSuffix_es_ok n)
/- internal/bytealg.CountString -/
theorem ib_CountString_at : Tryd.prog.funcs[79]? = some Tryd.f79 := by kernel_rfl
theorem ib_CountString_ok : EntryOk Tryd.prog gl ⟨79, noPc, some (.flat xCount), none⟩ := count_entry ib_CountString_at (by kernel_rfl) (by kernel_rfl) (by kernel_rfl) (by kernel_rfl)
def ib_CountString_es (n : Nat) : List Entry := ⟨79, noPc, some (.flat xCount), none⟩ :: st_HasSuffix_es n
theorem ib_CountString_es_ok (n : Nat) : AllOk Tryd.prog gl (ib_CountString_es n) := .cons ib_CountString_ok (st_HasSuffix_es_ok n)
/- internal/stringslite.Index -/
def il_Index_B (n : Nat) {R : Type} (s : BA) (substr : BA) (k : Int → Option R) : Option R :=
 if ((substr.size : Int) == (0 : Int)) = false then
  if (substr.toList == s.toList) = true then
   k (0 : Int)
  else
   if ((substr.size : Int) == (1 : Int)) = true then
    if 0 ≤ (0 : Int) ∧ (0 : Int) < (substr.size : Int) then
     (il_IndexByte n s (bt substr (0 : Int))).bind fun v =>
     k v
    else
     none
   else
    if (decide ((substr.size : Int) ≥ (s.size : Int))) = true then
     k (-1 : Int)
    else
     none
 else
  k (0 : Int)
def il_Index (n : Nat) (s : BA) (substr : BA) : Option Int := il_Index_B n s substr some
theorem il_Index_N (n : Nat) {R S : Type} (s : BA) (substr : BA) (k : Int → Option R) (φ : R → Option S) : il_Index_B n s substr (fun a => (k a).bind φ) = (il_Index_B n s substr k).bind φ := by
  unfold il_Index_B
  first | (simp only [dup_self, both_self, iB, bB, oL, oX, nB]) | rfl
def il_Index_hint (n : Nat) : Hint Out := { live := fun c => [], run := fun c => none, xm := fun c q => none }
theorem il_Index_runs (n : Nat) : RunsOk tys (callees Out (ib_CountString_es n)) (il_Index_hint n) n (bodyOf Tryd.f77) 0 := ⟨trivial, ⟨trivial, ⟨⟨trivial, ⟨⟨trivial, trivial⟩, ⟨trivial, ⟨⟨trivial, trivial⟩, ⟨trivial, ⟨⟨trivial, trivial⟩, ⟨trivial, ⟨⟨trivial, trivial⟩, trivial⟩⟩⟩⟩⟩⟩⟩⟩, ⟨trivial, ⟨trivial, ⟨trivial, ⟨trivial, ⟨trivial, ⟨⟨runOk_none (by kernel_rfl), ⟨⟨trivial, ⟨trivial, trivial⟩⟩, ⟨⟨trivial, ⟨⟨trivial, ⟨⟨trivial, ⟨⟨trivial, trivial⟩, trivial⟩⟩, trivial⟩⟩, trivial⟩⟩, ⟨⟨trivial, ⟨⟨trivial, trivial⟩, trivial⟩⟩, ⟨trivial, ⟨trivial, ⟨trivial, ⟨⟨trivial, ⟨⟨trivial, ⟨⟨trivial, trivial⟩, trivial⟩⟩, ⟨trivial, trivial⟩⟩⟩, ⟨trivial, ⟨⟨trivial, ⟨⟨trivial, ⟨⟨trivial, trivial⟩, trivial⟩⟩, ⟨trivial, trivial⟩⟩⟩, trivial⟩⟩⟩⟩⟩⟩⟩⟩⟩⟩, ⟨trivial, trivial⟩⟩⟩⟩⟩⟩⟩⟩⟩⟩
theorem il_Index_at : Tryd.prog.funcs[77]? = some Tryd.f77 := by kernel_rfl
theorem il_Index_ent (n : Nat) : Enters Tryd.prog 77 := enters_of (c := bodyOf Tryd.f77) il_Index_at (by kernel_rfl) (by kernel_rfl)
theorem il_Index_E (n : Nat) (s : BA) (substr : BA) : fnA tys (callees Out (ib_CountString_es n)) (il_Index_hint n) n Tryd.f77 (encL (.pair .str (.pair .str .unit)) (s, (substr, ()))) [] (soloA fun v => some (.ret v)) (soloA fun v => some (.pan v)) = il_Index_B n s substr (fun y => some (.ret (encR (.one (.int .i64)) y))) := by kernel_rfl
def il_Index_en (n : Nat) : Entry := ⟨77, pcT (.pair .str (.pair .str .unit)) (.one (.int .i64)) (fun xs => il_Index n xs.1 xs.2.1), none, none⟩
theorem il_Index_ok (n : Nat) : EntryOk Tryd.prog gl (il_Index_en n) :=
  pcT_ok (il_Index_ent n) fun xs y h => ans_of_fn tys_ok (ib_CountString_es_ok n) mixed (hint := il_Index_hint n) (n := n) (fn := Tryd.f77) il_Index_at (runsC (il_Index_runs n)) (run_ret (φ := (fun y => some (Out.ret (encR (.one (.int .i64)) y)))) ((il_Index_E n xs.1 xs.2.1).trans (il_Index_N (R := Int) (S := Out) n xs.1 xs.2.1 some (fun y => some (Out.ret (encR (.one (.int .i64)) y))))) h)
def il_Index_es (n : Nat) : List Entry := il_Index_en n :: ib_CountString_es n
theorem il_Index_es_ok (n : Nat) : AllOk Tryd.prog gl (il_Index_es n) := .cons (il_Index_ok n) (ib_CountString_es_ok n)
/- strings.Index -/
def st_Index_B (n : Nat) {R : Type} (s : BA) (substr : BA) (k : Int → Option R) : Option R :=
 (il_Index n s substr).bind fun v =>
 k v
def st_Index (n : Nat) (s : BA) (substr : BA) : Option Int := st_Index_B n s substr some
theorem st_Index_N (n : Nat) {R S : Type} (s : BA) (substr : BA) (k : Int → Option R) (φ : R → Option S) : st_Index_B n s substr (fun a => (k a).bind φ) = (st_Index_B n s substr k).bind φ := by
  unfold st_Index_B
  first | (simp only [dup_self, both_self, iB, bB, oL, oX, nB]) | rfl
def st_Index_hint (n : Nat) : Hint Out := { live := fun c => [], run := fun c => none, xm := fun c q => none }
theorem st_Index_runs (n : Nat) : RunsOk tys (callees Out (il_Index_es n)) (st_Index_hint n) n (bodyOf Tryd.f66) 0 := runs_noloop (fun _ => rfl) _ _ (by kernel_rfl)
theorem st_Index_at : Tryd.prog.funcs[66]? = some Tryd.f66 := by kernel_rfl
theorem st_Index_ent (n : Nat) : Enters Tryd.prog 66 := enters_of (c := bodyOf Tryd.f66) st_Index_at (by kernel_rfl) (by kernel_rfl)
theorem st_Index_E (n : Nat) (s : BA) (substr : BA) : fnA tys (callees Out (il_Index_es n)) (st_Index_hint n) n Tryd.f66 (encL (.pair .str (.pair .str .unit)) (s, (substr, ()))) [] (soloA fun v => some (.ret v)) (soloA fun v => some (.pan v)) = st_Index_B n s substr (fun y => some (.ret (encR (.one (.int .i64)) y))) := by kernel_rfl
def st_Index_en (n : Nat) : Entry := ⟨66, pcT (.pair .str (.pair .str .unit)) (.one (.int .i64)) (fun xs => st_Index n xs.1 xs.2.1), none, none⟩
theorem st_Index_ok (n : Nat) : EntryOk Tryd.prog gl (st_Index_en n) :=
  pcT_ok (st_Index_ent n) fun xs y h => ans_of_fn tys_ok (il_Index_es_ok n) mixed (hint := st_Index_hint n) (n := n) (fn := Tryd.f66) st_Index_at (runsC (st_Index_runs n)) (run_ret (φ := (fun y => some (Out.ret (encR (.one (.int .i64)) y)))) ((st_Index_E n xs.1 xs.2.1).trans (st_Index_N (R := Int) (S := Out) n xs.1 xs.2.1 some (fun y => some (Out.ret (encR (.one (.int .i64)) y))))) h)
def st_Index_es (n : Nat) : List Entry := st_Index_en n :: il_Index_es n
theorem st_Index_es_ok (n : Nat) : AllOk Tryd.prog gl (st_Index_es n) := .cons (st_Index_ok n) (il_Index_es_ok n)
/- strings.Count -/
def st_Count_B0 (n : Nat) {R : Type} (s1 : BA) (substr1 : BA) (n0 : Int) (kn : BA → BA → Int → Option R) (ko : Unit → Option R) (kr : (Int) → Option R) (kp : Int → Option R) : Option R :=
 (st_Index n s1 substr1).bind fun v =>
 if (v == (-1 : Int)) = true then
  kr n0
 else
  if 0 ≤ (IntKind.wrap .i64 (v + (substr1.size : Int))) ∧ (IntKind.wrap .i64 (v + (substr1.size : Int))) ≤ (s1.size : Int) then
   kn (s1.extract (Int.toNat (IntKind.wrap .i64 (v + (substr1.size : Int)))) (Int.toNat (s1.size : Int))) substr1 (IntKind.wrap .i64 (n0 + (1 : Int)))
  else
   none
theorem st_Count_B0_N (n : Nat) {R S : Type} (s1 : BA) (substr1 : BA) (n0 : Int) (kn : BA → BA → Int → Option R) (ko : Unit → Option R) (kr : (Int) → Option R) (kp : Int → Option R) (φ : R → Option S) : st_Count_B0 n s1 substr1 n0 (fun s1 substr1 n0 => (kn s1 substr1 n0).bind φ) (fun a => (ko a).bind φ) (fun a => (kr a).bind φ) (fun a => (kp a).bind φ) = (st_Count_B0 n s1 substr1 n0 kn ko kr kp).bind φ := by
  unfold st_Count_B0
  first | (simp only [dup_self, both_self, iB, bB, oL, oX, nB]) | rfl
def st_Count_L0 (n : Nat) : Nat → BA → BA → Int → Option (Lx Unit (Int))
  | 0, _, _, _ => none
  | m + 1, s1, substr1, n0 => st_Count_B0 n s1 substr1 n0 (fun s1 substr1 n0 => st_Count_L0 n m s1 substr1 n0) (fun a => some (.out a)) (fun a => some (.ret a)) (fun p => some (.pan p))
def st_Count_L0_sp : List Sl := .dat .str :: .dat .str :: .top :: .top :: .top :: .dat (.int .i64) :: tp 28 []
def st_Count_L0_rp : List RS := []
def st_Count_L0_ret_sp : List Sl := tp 4 (.dat (.int .i64) :: tp 29 [])
def st_Count_L0_ret_rp : List RS := []
def st_Count_L0_K (K : XE → List AV → AHeap → Option Out) : Lx Unit (Int) → Option Out := fun x => onL x (fun _ => none) (fun a => layK st_Count_L0_ret_sp st_Count_L0_ret_rp (a, ()) () (K .ret)) (fun _ => none)
def st_Count_B (n : Nat) {R : Type} (s : BA) (substr : BA) (k : Int → Option R) : Option R :=
 if ((substr.size : Int) == (0 : Int)) = true then
  none
 else
  if ((substr.size : Int) == (1 : Int)) = true then
   if 0 ≤ (0 : Int) ∧ (0 : Int) < (substr.size : Int) then
    k ((Lib.countByte s.data.toList (Nat.toUInt8 (Int.toNat (bt substr (0 : Int)))) : Nat) : Int)
   else
    none
  else
   (st_Count_L0 n n s substr (0 : Int)).bind fun x_1 => onL x_1
    (fun _ => none)
    (fun a_2 =>
     k a_2)
    (fun _ => none)
def st_Count (n : Nat) (s : BA) (substr : BA) : Option Int := st_Count_B n s substr some
theorem st_Count_N (n : Nat) {R S : Type} (s : BA) (substr : BA) (k : Int → Option R) (φ : R → Option S) : st_Count_B n s substr (fun a => (k a).bind φ) = (st_Count_B n s substr k).bind φ := by
  unfold st_Count_B
  first | (simp only [dup_self, both_self, iB, bB, oL, oX, nB]) | rfl
def st_Count_hint (n : Nat) : Hint Out := { live := fun c => (cond (Nat.beq c 0) (lv [0, 1, 5]) []), run := fun c => (cond (Nat.beq c 0) (some (runL st_Count_L0_sp st_Count_L0_rp fun σ ρ K => (st_Count_L0 n n σ.1 σ.2.1 σ.2.2.1).bind (st_Count_L0_K K))) none), xm := fun c q => (cond (Nat.beq c 1 && q.isNone) (some [(4, none)]) none) }
def st_Count_L0_I (n : Nat) (K : XE → List AV → AHeap → Option Out) (m : Nat) (s1 : BA) (substr1 : BA) (n0 : Int) : Option Out := loopI tys (callees Out (st_Index_es n)) (st_Count_hint n) n (codeAt [1, 1, 1, 1, 0, 0] (bodyOf Tryd.f69)) 0 st_Count_L0_sp st_Count_L0_rp K m (s1, (substr1, (n0, ()))) ()
theorem st_Count_L0_E (n : Nat) (K : XE → List AV → AHeap → Option Out) : ∀ (m : Nat) (s1 : BA) (substr1 : BA) (n0 : Int), st_Count_L0_I n K m s1 substr1 n0 = (st_Count_L0 n m s1 substr1 n0).bind (st_Count_L0_K K)
  | 0, s1, substr1, n0 => by kernel_rfl
  | m + 1, s1, substr1, n0 => by
    have h1 : st_Count_L0_I n K (m + 1) s1 substr1 n0 = st_Count_B0 n s1 substr1 n0 (fun s1 substr1 n0 => st_Count_L0_I n K m s1 substr1 n0) (fun a => st_Count_L0_K K (.out a)) (fun a => st_Count_L0_K K (.ret a)) (fun p => st_Count_L0_K K (.pan p)) := by kernel_rfl
    have h2 : (fun s1 substr1 n0 => st_Count_L0_I n K m s1 substr1 n0) = (fun s1 substr1 n0 => (st_Count_L0 n m s1 substr1 n0).bind (st_Count_L0_K K)) := funext fun s1 => funext fun substr1 => funext fun n0 => st_Count_L0_E n K m s1 substr1 n0
    exact h1.trans ((congrArg (fun z => st_Count_B0 n s1 substr1 n0 z (fun a => st_Count_L0_K K (.out a)) (fun a => st_Count_L0_K K (.ret a)) (fun p => st_Count_L0_K K (.pan p))) h2).trans (st_Count_B0_N n s1 substr1 n0 (fun s1 substr1 n0 => st_Count_L0 n m s1 substr1 n0) (fun a => some (.out a)) (fun a => some (.ret a)) (fun p => some (.pan p)) (st_Count_L0_K K)))
theorem st_Count_L0_ok (n : Nat) : RunOk tys (callees Out (st_Index_es n)) (st_Count_hint n) n (codeAt [1, 1, 1, 1, 0, 0] (bodyOf Tryd.f69)) 0 := runOk_of (sp := st_Count_L0_sp) (rp := st_Count_L0_rp) (F := fun σ ρ K => (st_Count_L0 n n σ.1 σ.2.1 σ.2.2.1).bind (st_Count_L0_K K)) (by kernel_rfl) fun K σ ρ => st_Count_L0_E n K n σ.1 σ.2.1 σ.2.2.1
theorem st_Count_runs (n : Nat) : RunsOk tys (callees Out (st_Index_es n)) (st_Count_hint n) n (bodyOf Tryd.f69) 0 := ⟨trivial, ⟨⟨trivial, ⟨⟨trivial, trivial⟩, trivial⟩⟩, ⟨⟨trivial, ⟨⟨trivial, trivial⟩, trivial⟩⟩, ⟨trivial, ⟨st_Count_L0_ok n, ⟨trivial, ⟨⟨trivial, ⟨⟨trivial, trivial⟩, trivial⟩⟩, ⟨trivial, trivial⟩⟩⟩⟩⟩⟩⟩⟩
theorem st_Count_at : Tryd.prog.funcs[69]? = some Tryd.f69 := by kernel_rfl
theorem st_Count_ent (n : Nat) : Enters Tryd.prog 69 := enters_of (c := bodyOf Tryd.f69) st_Count_at (by kernel_rfl) (by kernel_rfl)
theorem st_Count_E (n : Nat) (s : BA) (substr : BA) : fnA tys (callees Out (st_Index_es n)) (st_Count_hint n) n Tryd.f69 (encL (.pair .str (.pair .str .unit)) (s, (substr, ()))) [] (soloA fun v => some (.ret v)) (soloA fun v => some (.pan v)) = st_Count_B n s substr (fun y => some (.ret (encR (.one (.int .i64)) y))) := by kernel_rfl
def st_Count_en (n : Nat) : Entry := ⟨69, pcT (.pair .str (.pair .str .unit)) (.one (.int .i64)) (fun xs => st_Count n xs.1 xs.2.1), none, none⟩
theorem st_Count_ok (n : Nat) : EntryOk Tryd.prog gl (st_Count_en n) :=
  pcT_ok (st_Count_ent n) fun xs y h => ans_of_fn tys_ok (st_Index_es_ok n) mixed (hint := st_Count_hint n) (n := n) (fn := Tryd.f69) st_Count_at (runsC (st_Count_runs n)) (run_ret (φ := (fun y => some (Out.ret (encR (.one (.int .i64)) y)))) ((st_Count_E n xs.1 xs.2.1).trans (st_Count_N (R := Int) (S := Out) n xs.1 xs.2.1 some (fun y => some (Out.ret (encR (.one (.int .i64)) y))))) h)
def st_Count_es (n : Nat) : List Entry := st_Count_en n :: st_Index_es n
theorem st_Count_es_ok (n : Nat) : AllOk Tryd.prog gl (st_Count_es n) := .cons (st_Count_ok n) (st_Index_es_ok n)
/- strings.genSplit -/
def st_genSplit_B0 (n : Nat) {R : Type} (s1 : BA) (sep1 : BA) (sepSave1 : Int) (n01 : Int) (i : Int) (a : (Sq BA)) (kn : BA → BA → Int → Int → Int → (Sq BA) → Option R) (ko : (BA × Int × (Sq BA)) → Option R) (kr : Unit → Option R) (kp : Int → Option R) : Option R :=
 if (decide (i < n01)) = true then
  (st_Index n s1 sep1).bind fun v1 =>
  if (decide (v1 < (0 : Int))) = true then
   ko (s1, i, a)
  else
   if 0 ≤ (IntKind.wrap .i64 (v1 + sepSave1)) ∧ (IntKind.wrap .i64 (v1 + sepSave1)) ≤ (s1.size : Int) then
    if 0 ≤ i ∧ i < (a.n : Int) then
     if 0 ≤ (IntKind.wrap .i64 (v1 + (sep1.size : Int))) ∧ (IntKind.wrap .i64 (v1 + (sep1.size : Int))) ≤ (s1.size : Int) then
      kn (s1.extract (Int.toNat (IntKind.wrap .i64 (v1 + (sep1.size : Int)))) (Int.toNat (s1.size : Int))) sep1 sepSave1 n01 (IntKind.wrap .i64 (i + (1 : Int))) (⟨a.n, fun q => if q = (Int.toNat i) ∧ q < a.n then (s1.extract (Int.toNat (0 : Int)) (Int.toNat (IntKind.wrap .i64 (v1 + sepSave1)))) else a.at' q⟩ : Sq BA)
     else
      none
    else
     none
   else
    none
 else
  ko (s1, i, a)
theorem st_genSplit_B0_N (n : Nat) {R S : Type} (s1 : BA) (sep1 : BA) (sepSave1 : Int) (n01 : Int) (i : Int) (a : (Sq BA)) (kn : BA → BA → Int → Int → Int → (Sq BA) → Option R) (ko : (BA × Int × (Sq BA)) → Option R) (kr : Unit → Option R) (kp : Int → Option R) (φ : R → Option S) : st_genSplit_B0 n s1 sep1 sepSave1 n01 i a (fun s1 sep1 sepSave1 n01 i a => (kn s1 sep1 sepSave1 n01 i a).bind φ) (fun a => (ko a).bind φ) (fun a => (kr a).bind φ) (fun a => (kp a).bind φ) = (st_genSplit_B0 n s1 sep1 sepSave1 n01 i a kn ko kr kp).bind φ := by
  unfold st_genSplit_B0
  first | (simp only [dup_self, both_self, iB, bB, oL, oX, nB]) | rfl
def st_genSplit_L0 (n : Nat) : Nat → BA → BA → Int → Int → Int → (Sq BA) → Option (Lx (BA × Int × (Sq BA)) Unit)
  | 0, _, _, _, _, _, _ => none
  | m + 1, s1, sep1, sepSave1, n01, i, a => st_genSplit_B0 n s1 sep1 sepSave1 n01 i a (fun s1 sep1 sepSave1 n01 i a => st_genSplit_L0 n m s1 sep1 sepSave1 n01 i a) (fun a => some (.out a)) (fun a => some (.ret a)) (fun p => some (.pan p))
def st_genSplit_L0_sp : List Sl := .dat .str :: .dat .str :: .dat (.int .i64) :: .dat (.int .i64) :: tp 5 (.row 0 :: .dat (.int .i64) :: tp 55 [])
def st_genSplit_L0_rp : List RS := [.row 9 1 .str false false]
def st_genSplit_L0_out_sp : List Sl := .dat .str :: tp 8 (.row 0 :: .dat (.int .i64) :: tp 55 [])
def st_genSplit_L0_out_rp : List RS := [.row 9 1 .str false false]
def st_genSplit_L0_K (K : XE → List AV → AHeap → Option Out) : Lx (BA × Int × (Sq BA)) Unit → Option Out := fun x => onL x (fun a => layK st_genSplit_L0_out_sp st_genSplit_L0_out_rp (a.1, (a.2.1, ())) (a.2.2, ()) (K (.exit 0))) (fun _ => none) (fun _ => none)
def st_genSplit_B (n : Nat) {R : Type} (s : BA) (sep : BA) (sepSave : Int) (n0 : Int) (k : (Sq BA) → Option R) : Option R :=
 if (n0 == (0 : Int)) = true then
  k (⟨0, fun _ => zeroEl .str⟩ : Sq BA)
 else
  if (sep.toList == (⟨#[]⟩ : BA).toList) = true then
   none
  else
   if (decide (n0 < (0 : Int))) = true then
    (st_Count n s sep).bind fun v =>
    if 0 ≤ (if (IntKind.wrap .i64 ((s.size : Int) + (1 : Int))) < (IntKind.wrap .i64 (v + (1 : Int))) then (IntKind.wrap .i64 ((s.size : Int) + (1 : Int))) else (IntKind.wrap .i64 (v + (1 : Int)))) ∧ (if (IntKind.wrap .i64 ((s.size : Int) + (1 : Int))) < (IntKind.wrap .i64 (v + (1 : Int))) then (IntKind.wrap .i64 ((s.size : Int) + (1 : Int))) else (IntKind.wrap .i64 (v + (1 : Int)))) ≤ (if (IntKind.wrap .i64 ((s.size : Int) + (1 : Int))) < (IntKind.wrap .i64 (v + (1 : Int))) then (IntKind.wrap .i64 ((s.size : Int) + (1 : Int))) else (IntKind.wrap .i64 (v + (1 : Int)))) then
     if rowFits (Int.toNat (if (IntKind.wrap .i64 ((s.size : Int) + (1 : Int))) < (IntKind.wrap .i64 (v + (1 : Int))) then (IntKind.wrap .i64 ((s.size : Int) + (1 : Int))) else (IntKind.wrap .i64 (v + (1 : Int))))) 16 = true then
      (st_genSplit_L0 n n s sep sepSave (IntKind.wrap .i64 ((if (IntKind.wrap .i64 ((s.size : Int) + (1 : Int))) < (IntKind.wrap .i64 (v + (1 : Int))) then (IntKind.wrap .i64 ((s.size : Int) + (1 : Int))) else (IntKind.wrap .i64 (v + (1 : Int)))) - (1 : Int))) (0 : Int) (⟨(Int.toNat (if (IntKind.wrap .i64 ((s.size : Int) + (1 : Int))) < (IntKind.wrap .i64 (v + (1 : Int))) then (IntKind.wrap .i64 ((s.size : Int) + (1 : Int))) else (IntKind.wrap .i64 (v + (1 : Int))))), fun _ => (⟨#[]⟩ : BA)⟩ : Sq BA)).bind fun x_1 => onL x_1
       (fun a_2 =>
        if 0 ≤ a_2.2.1 ∧ a_2.2.1 < (a_2.2.2.n : Int) then
         if 0 ≤ (IntKind.wrap .i64 (a_2.2.1 + (1 : Int))) ∧ (IntKind.wrap .i64 (a_2.2.1 + (1 : Int))) ≤ (a_2.2.2.n : Int) then
          k (⟨((Int.toNat (IntKind.wrap .i64 (a_2.2.1 + (1 : Int)))) - (Int.toNat (0 : Int))), fun i => (fun q => if q = (Int.toNat a_2.2.1) ∧ q < a_2.2.2.n then a_2.1 else a_2.2.2.at' q) ((Int.toNat (0 : Int)) + i)⟩ : Sq BA)
         else
          none
        else
         none)
       (fun _ => none)
       (fun _ => none)
     else
      none
    else
     none
   else
    if 0 ≤ (if (IntKind.wrap .i64 ((s.size : Int) + (1 : Int))) < n0 then (IntKind.wrap .i64 ((s.size : Int) + (1 : Int))) else n0) ∧ (if (IntKind.wrap .i64 ((s.size : Int) + (1 : Int))) < n0 then (IntKind.wrap .i64 ((s.size : Int) + (1 : Int))) else n0) ≤ (if (IntKind.wrap .i64 ((s.size : Int) + (1 : Int))) < n0 then (IntKind.wrap .i64 ((s.size : Int) + (1 : Int))) else n0) then
     if rowFits (Int.toNat (if (IntKind.wrap .i64 ((s.size : Int) + (1 : Int))) < n0 then (IntKind.wrap .i64 ((s.size : Int) + (1 : Int))) else n0)) 16 = true then
      (st_genSplit_L0 n n s sep sepSave (IntKind.wrap .i64 ((if (IntKind.wrap .i64 ((s.size : Int) + (1 : Int))) < n0 then (IntKind.wrap .i64 ((s.size : Int) + (1 : Int))) else n0) - (1 : Int))) (0 : Int) (⟨(Int.toNat (if (IntKind.wrap .i64 ((s.size : Int) + (1 : Int))) < n0 then (IntKind.wrap .i64 ((s.size : Int) + (1 : Int))) else n0)), fun _ => (⟨#[]⟩ : BA)⟩ : Sq BA)).bind fun x_3 => onL x_3
       (fun a_4 =>
        if 0 ≤ a_4.2.1 ∧ a_4.2.1 < (a_4.2.2.n : Int) then
         if 0 ≤ (IntKind.wrap .i64 (a_4.2.1 + (1 : Int))) ∧ (IntKind.wrap .i64 (a_4.2.1 + (1 : Int))) ≤ (a_4.2.2.n : Int) then
          k (⟨((Int.toNat (IntKind.wrap .i64 (a_4.2.1 + (1 : Int)))) - (Int.toNat (0 : Int))), fun i => (fun q => if q = (Int.toNat a_4.2.1) ∧ q < a_4.2.2.n then a_4.1 else a_4.2.2.at' q) ((Int.toNat (0 : Int)) + i)⟩ : Sq BA)
         else
          none
        else
         none)
       (fun _ => none)
       (fun _ => none)
     else
      none
    else
     none
def st_genSplit (n : Nat) (s : BA) (sep : BA) (sepSave : Int) (n0 : Int) : Option (Sq BA) := st_genSplit_B n s sep sepSave n0 some
theorem st_genSplit_N (n : Nat) {R S : Type} (s : BA) (sep : BA) (sepSave : Int) (n0 : Int) (k : (Sq BA) → Option R) (φ : R → Option S) : st_genSplit_B n s sep sepSave n0 (fun a => (k a).bind φ) = (st_genSplit_B n s sep sepSave n0 k).bind φ := by
  unfold st_genSplit_B
  first | (simp only [dup_self, both_self, iB, bB, oL, oX, nB]) | rfl
def st_genSplit_hint (n : Nat) : Hint Out := { live := fun c => (cond (Nat.beq c 0) [(0, none), (1, none), (2, none), (3, none), (9, some (.sl .str)), (10, none)] []), run := fun c => (cond (Nat.beq c 0) (some (runL st_genSplit_L0_sp st_genSplit_L0_rp fun σ ρ K => (st_genSplit_L0 n n σ.1 σ.2.1 σ.2.2.1 σ.2.2.2.1 σ.2.2.2.2.1 ρ.1).bind (st_genSplit_L0_K K))) none), xm := fun c q => (cond (Nat.beq c 0 && Nat.beq (q.getD 1000000) 0 && q.isSome) (some [(0, none), (9, some (.sl .str)), (10, none)]) (cond (Nat.beq c 1 && Nat.beq (q.getD 1000000) 0 && q.isSome) (some [(0, none), (9, some (.sl .str)), (10, none)]) none)) }
def st_genSplit_L0_I (n : Nat) (K : XE → List AV → AHeap → Option Out) (m : Nat) (s1 : BA) (sep1 : BA) (sepSave1 : Int) (n01 : Int) (i : Int) (a : (Sq BA)) : Option Out := loopI tys (callees Out (st_Count_es n)) (st_genSplit_hint n) n (codeAt [1, 1, 1, 1, 1, 1, 1, 1, 0, 0, 0] (bodyOf Tryd.f60)) 0 st_genSplit_L0_sp st_genSplit_L0_rp K m (s1, (sep1, (sepSave1, (n01, (i, ()))))) (a, ())
theorem st_genSplit_L0_E (n : Nat) (K : XE → List AV → AHeap → Option Out) : ∀ (m : Nat) (s1 : BA) (sep1 : BA) (sepSave1 : Int) (n01 : Int) (i : Int) (a : (Sq BA)), st_genSplit_L0_I n K m s1 sep1 sepSave1 n01 i a = (st_genSplit_L0 n m s1 sep1 sepSave1 n01 i a).bind (st_genSplit_L0_K K)
  | 0, s1, sep1, sepSave1, n01, i, a => by kernel_rfl
  | m + 1, s1, sep1, sepSave1, n01, i, a => by
    have h1 : st_genSplit_L0_I n K (m + 1) s1 sep1 sepSave1 n01 i a = st_genSplit_B0 n s1 sep1 sepSave1 n01 i a (fun s1 sep1 sepSave1 n01 i a => st_genSplit_L0_I n K m s1 sep1 sepSave1 n01 i a) (fun a => st_genSplit_L0_K K (.out a)) (fun a => st_genSplit_L0_K K (.ret a)) (fun p => st_genSplit_L0_K K (.pan p)) := by kernel_rfl
    have h2 : (fun s1 sep1 sepSave1 n01 i a => st_genSplit_L0_I n K m s1 sep1 sepSave1 n01 i a) = (fun s1 sep1 sepSave1 n01 i a => (st_genSplit_L0 n m s1 sep1 sepSave1 n01 i a).bind (st_genSplit_L0_K K)) := funext fun s1 => funext fun sep1 => funext fun sepSave1 => funext fun n01 => funext fun i => funext fun a => st_genSplit_L0_E n K m s1 sep1 sepSave1 n01 i a
    exact h1.trans ((congrArg (fun z => st_genSplit_B0 n s1 sep1 sepSave1 n01 i a z (fun a => st_genSplit_L0_K K (.out a)) (fun a => st_genSplit_L0_K K (.ret a)) (fun p => st_genSplit_L0_K K (.pan p))) h2).trans (st_genSplit_B0_N n s1 sep1 sepSave1 n01 i a (fun s1 sep1 sepSave1 n01 i a => st_genSplit_L0 n m s1 sep1 sepSave1 n01 i a) (fun a => some (.out a)) (fun a => some (.ret a)) (fun p => some (.pan p)) (st_genSplit_L0_K K)))
theorem st_genSplit_L0_ok (n : Nat) : RunOk tys (callees Out (st_Count_es n)) (st_genSplit_hint n) n (codeAt [1, 1, 1, 1, 1, 1, 1, 1, 0, 0, 0] (bodyOf Tryd.f60)) 0 := runOk_of (sp := st_genSplit_L0_sp) (rp := st_genSplit_L0_rp) (F := fun σ ρ K => (st_genSplit_L0 n n σ.1 σ.2.1 σ.2.2.1 σ.2.2.2.1 σ.2.2.2.2.1 ρ.1).bind (st_genSplit_L0_K K)) (by kernel_rfl) fun K σ ρ => st_genSplit_L0_E n K n σ.1 σ.2.1 σ.2.2.1 σ.2.2.2.1 σ.2.2.2.2.1 ρ.1
theorem st_genSplit_runs (n : Nat) : RunsOk tys (callees Out (st_Count_es n)) (st_genSplit_hint n) n (bodyOf Tryd.f60) 0 := ⟨trivial, ⟨⟨trivial, ⟨⟨trivial, trivial⟩, trivial⟩⟩, ⟨⟨trivial, ⟨⟨trivial, trivial⟩, trivial⟩⟩, ⟨⟨trivial, ⟨trivial, trivial⟩⟩, ⟨trivial, ⟨trivial, ⟨trivial, ⟨trivial, ⟨⟨st_genSplit_L0_ok n, ⟨⟨trivial, ⟨trivial, trivial⟩⟩, ⟨trivial, ⟨⟨trivial, ⟨trivial, trivial⟩⟩, ⟨trivial, ⟨trivial, trivial⟩⟩⟩⟩⟩⟩, ⟨trivial, ⟨trivial, trivial⟩⟩⟩⟩⟩⟩⟩⟩⟩⟩⟩
theorem st_genSplit_at : Tryd.prog.funcs[60]? = some Tryd.f60 := by kernel_rfl
theorem st_genSplit_ent (n : Nat) : Enters Tryd.prog 60 := enters_of (c := bodyOf Tryd.f60) st_genSplit_at (by kernel_rfl) (by kernel_rfl)
theorem st_genSplit_E (n : Nat) (s : BA) (sep : BA) (sepSave : Int) (n0 : Int) : fnA tys (callees Out (st_Count_es n)) (st_genSplit_hint n) n Tryd.f60 (encL (.pair .str (.pair .str (.pair (.int .i64) (.pair (.int .i64) .unit)))) (s, (sep, (sepSave, (n0, ()))))) [] (soloA fun v => some (.ret v)) (soloA fun v => some (.pan v)) = st_genSplit_B n s sep sepSave n0 (fun y => some (.ret (encR (.one (.sl .str)) y))) := by kernel_rfl
def st_genSplit_en (n : Nat) : Entry := ⟨60, pcT (.pair .str (.pair .str (.pair (.int .i64) (.pair (.int .i64) .unit)))) (.one (.sl .str)) (fun xs => st_genSplit n xs.1 xs.2.1 xs.2.2.1 xs.2.2.2.1), none, none⟩
theorem st_genSplit_ok (n : Nat) : EntryOk Tryd.prog gl (st_genSplit_en n) :=
  pcT_ok (st_genSplit_ent n) fun xs y h => ans_of_fn tys_ok (st_Count_es_ok n) mixed (hint := st_genSplit_hint n) (n := n) (fn := Tryd.f60) st_genSplit_at (runsC (st_genSplit_runs n)) (run_ret (φ := (fun y => some (Out.ret (encR (.one (.sl .str)) y)))) ((st_genSplit_E n xs.1 xs.2.1 xs.2.2.1 xs.2.2.2.1).trans (st_genSplit_N (R := (Sq BA)) (S := Out) n xs.1 xs.2.1 xs.2.2.1 xs.2.2.2.1 some (fun y => some (Out.ret (encR (.one (.sl .str)) y))))) h)
def st_genSplit_es (n : Nat) : List Entry := st_genSplit_en n :: st_Count_es n
theorem st_genSplit_es_ok (n : Nat) : AllOk Tryd.prog gl (st_genSplit_es n) := .cons (st_genSplit_ok n) (st_Count_es_ok n)
/- strings.Split -/
def st_Split_B (n : Nat) {R : Type} (s : BA) (sep : BA) (k : (Sq BA) → Option R) : Option R :=
 (st_genSplit n s sep (0 : Int) (-1 : Int)).bind fun v =>
 k v
def st_Split (n : Nat) (s : BA) (sep : BA) : Option (Sq BA) := st_Split_B n s sep some
theorem st_Split_N (n : Nat) {R S : Type} (s : BA) (sep : BA) (k : (Sq BA) → Option R) (φ : R → Option S) : st_Split_B n s sep (fun a => (k a).bind φ) = (st_Split_B n s sep k).bind φ := by
  unfold st_Split_B
  first | (simp only [dup_self, both_self, iB, bB, oL, oX, nB]) | rfl
def st_Split_hint (n : Nat) : Hint Out := { live := fun c => [], run := fun c => none, xm := fun c q => none }
theorem st_Split_runs (n : Nat) : RunsOk tys (callees Out (st_genSplit_es n)) (st_Split_hint n) n (bodyOf Tryd.f53) 0 := runs_noloop (fun _ => rfl) _ _ (by kernel_rfl)
theorem st_Split_at : Tryd.prog.funcs[53]? = some Tryd.f53 := by kernel_rfl
theorem st_Split_ent (n : Nat) : Enters Tryd.prog 53 := enters_of (c := bodyOf Tryd.f53) st_Split_at (by kernel_rfl) (by kernel_rfl)
theorem st_Split_E (n : Nat) (s : BA) (sep : BA) : fnA tys (callees Out (st_genSplit_es n)) (st_Split_hint n) n Tryd.f53 (encL (.pair .str (.pair .str .unit)) (s, (sep, ()))) [] (soloA fun v => some (.ret v)) (soloA fun v => some (.pan v)) = st_Split_B n s sep (fun y => some (.ret (encR (.one (.sl .str)) y))) := by kernel_rfl
def st_Split_en (n : Nat) : Entry := ⟨53, pcT (.pair .str (.pair .str .unit)) (.one (.sl .str)) (fun xs => st_Split n xs.1 xs.2.1), none, none⟩
theorem st_Split_ok (n : Nat) : EntryOk Tryd.prog gl (st_Split_en n) :=
  pcT_ok (st_Split_ent n) fun xs y h => ans_of_fn tys_ok (st_genSplit_es_ok n) mixed (hint := st_Split_hint n) (n := n) (fn := Tryd.f53) st_Split_at (runsC (st_Split_runs n)) (run_ret (φ := (fun y => some (Out.ret (encR (.one (.sl .str)) y)))) ((st_Split_E n xs.1 xs.2.1).trans (st_Split_N (R := (Sq BA)) (S := Out) n xs.1 xs.2.1 some (fun y => some (Out.ret (encR (.one (.sl .str)) y))))) h)
def st_Split_es (n : Nat) : List Entry := st_Split_en n :: st_genSplit_es n
theorem st_Split_es_ok (n : Nat) : AllOk Tryd.prog gl (st_Split_es n) := .cons (st_Split_ok n) (st_genSplit_es_ok n)
/- strconv.Atoi, by contract (Lib) -/
def strconv_Atoi_es (n : Nat) : List Entry := ⟨54, fun {R} => pcAtoi (R := R) 93, none, none⟩ :: st_Split_es n
theorem strconv_Atoi_es_ok (n : Nat) : AllOk Tryd.prog gl (strconv_Atoi_es n) := .cons atoi_ok (st_Split_es_ok n)
/- strconv.Itoa, by contract (Lib) -/
def strconv_Itoa_es (n : Nat) : List Entry := ⟨55, pcT (.pair (.int .i64) .unit) (.one .str) (fun xs => itoaF xs.1), none, none⟩ :: strconv_Atoi_es n
theorem strconv_Itoa_es_ok (n : Nat) : AllOk Tryd.prog gl (strconv_Itoa_es n) := .cons itoa_ok (strconv_Atoi_es_ok n)
/- pouch/addr.literal -/
def ad_literal_B0 (n : Nat) {R : Type} (l : (Sq BA)) (t10 : (Sq BA)) (t11 : Int) (t12 : Int) (kn : (Sq BA) → (Sq BA) → Int → Int → Option R) (ko : ((Sq BA)) → Option R) (kr : (Bool) → Option R) (kp : Int → Option R) : Option R :=
 if (decide (t12 < t11)) = true then
  if 0 ≤ t12 ∧ t12 < (t10.n : Int) then
   (atoiF (t10.at' (Int.toNat t12))).bind fun v1 =>
   if v1.2 = true then
    if (decide (v1.1 < (0 : Int))) = false then
     if (decide (v1.1 > (255 : Int))) = false then
      (itoaF v1.1).bind fun v2 =>
      if (!(v2.toList == (t10.at' (Int.toNat t12)).toList)) = true then
       kr false
      else
       kn l t10 t11 (IntKind.wrap .i64 (t12 + (1 : Int)))
     else
      kr false
    else
     kr false
   else
    kr false
  else
   none
 else
  ko l
theorem ad_literal_B0_N (n : Nat) {R S : Type} (l : (Sq BA)) (t10 : (Sq BA)) (t11 : Int) (t12 : Int) (kn : (Sq BA) → (Sq BA) → Int → Int → Option R) (ko : ((Sq BA)) → Option R) (kr : (Bool) → Option R) (kp : Int → Option R) (φ : R → Option S) : ad_literal_B0 n l t10 t11 t12 (fun l t10 t11 t12 => (kn l t10 t11 t12).bind φ) (fun a => (ko a).bind φ) (fun a => (kr a).bind φ) (fun a => (kp a).bind φ) = (ad_literal_B0 n l t10 t11 t12 kn ko kr kp).bind φ := by
  unfold ad_literal_B0
  first | (simp only [dup_self, both_self, iB, bB, oL, oX, nB]) | rfl
def ad_literal_L0 (n : Nat) : Nat → (Sq BA) → (Sq BA) → Int → Int → Option (Lx ((Sq BA)) (Bool))
  | 0, _, _, _, _ => none
  | m + 1, l, t10, t11, t12 => ad_literal_B0 n l t10 t11 t12 (fun l t10 t11 t12 => ad_literal_L0 n m l t10 t11 t12) (fun a => some (.out a)) (fun a => some (.ret a)) (fun p => some (.pan p))
def ad_literal_L0_sp : List Sl := .top :: .top :: .top :: .dat (.sl .str) :: tp 6 (.dat (.sl .str) :: .dat (.int .i64) :: .dat (.int .i64) :: tp 28 [])
def ad_literal_L0_rp : List RS := []
def ad_literal_L0_out_sp : List Sl := .top :: .top :: .top :: .dat (.sl .str) :: tp 37 []
def ad_literal_L0_out_rp : List RS := []
def ad_literal_L0_ret_sp : List Sl := .top :: .top :: .dat .bool :: tp 38 []
def ad_literal_L0_ret_rp : List RS := []
def ad_literal_L0_K (K : XE → List AV → AHeap → Option Out) : Lx ((Sq BA)) (Bool) → Option Out := fun x => onL x (fun a => layK ad_literal_L0_out_sp ad_literal_L0_out_rp (a, ()) () (K (.exit 0))) (fun a => layK ad_literal_L0_ret_sp ad_literal_L0_ret_rp (a, ()) () (K .ret)) (fun _ => none)
def ad_literal_B (n : Nat) {R : Type} (s : BA) (k : Bool → Option R) : Option R :=
 (st_Split n s (⟨#[46]⟩ : BA)).bind fun v =>
 (ad_literal_L0 n n v v (v.n : Int) (0 : Int)).bind fun x_1 => onL x_1
  (fun a_2 =>
   k ((a_2.n : Int) == (4 : Int)))
  (fun a_3 =>
   k a_3)
  (fun _ => none)
def ad_literal (n : Nat) (s : BA) : Option Bool := ad_literal_B n s some
theorem ad_literal_N (n : Nat) {R S : Type} (s : BA) (k : Bool → Option R) (φ : R → Option S) : ad_literal_B n s (fun a => (k a).bind φ) = (ad_literal_B n s k).bind φ := by
  unfold ad_literal_B
  first | (simp only [dup_self, both_self, iB, bB, oL, oX, nB]) | rfl
def ad_literal_hint (n : Nat) : Hint Out := { live := fun c => (cond (Nat.beq c 0) [(3, some (.sl .str)), (10, some (.sl .str)), (11, none), (12, none)] []), run := fun c => (cond (Nat.beq c 0) (some (runL ad_literal_L0_sp ad_literal_L0_rp fun σ ρ K => (ad_literal_L0 n n σ.1 σ.2.1 σ.2.2.1 σ.2.2.2.1).bind (ad_literal_L0_K K))) none), xm := fun c q => (cond (Nat.beq c 0 && Nat.beq (q.getD 1000000) 0 && q.isSome) (some [(3, some (.sl .str))]) (cond (Nat.beq c 1 && q.isNone) (some [(2, none)]) none)) }
def ad_literal_L0_I (n : Nat) (K : XE → List AV → AHeap → Option Out) (m : Nat) (l : (Sq BA)) (t10 : (Sq BA)) (t11 : Int) (t12 : Int) : Option Out := loopI tys (callees Out (strconv_Itoa_es n)) (ad_literal_hint n) n (codeAt [1, 1, 0, 1, 0, 0] (bodyOf Tryd.f45)) 0 ad_literal_L0_sp ad_literal_L0_rp K m (l, (t10, (t11, (t12, ())))) ()
theorem ad_literal_L0_E (n : Nat) (K : XE → List AV → AHeap → Option Out) : ∀ (m : Nat) (l : (Sq BA)) (t10 : (Sq BA)) (t11 : Int) (t12 : Int), ad_literal_L0_I n K m l t10 t11 t12 = (ad_literal_L0 n m l t10 t11 t12).bind (ad_literal_L0_K K)
  | 0, l, t10, t11, t12 => by kernel_rfl
  | m + 1, l, t10, t11, t12 => by
    have h1 : ad_literal_L0_I n K (m + 1) l t10 t11 t12 = ad_literal_B0 n l t10 t11 t12 (fun l t10 t11 t12 => ad_literal_L0_I n K m l t10 t11 t12) (fun a => ad_literal_L0_K K (.out a)) (fun a => ad_literal_L0_K K (.ret a)) (fun p => ad_literal_L0_K K (.pan p)) := by kernel_rfl
    have h2 : (fun l t10 t11 t12 => ad_literal_L0_I n K m l t10 t11 t12) = (fun l t10 t11 t12 => (ad_literal_L0 n m l t10 t11 t12).bind (ad_literal_L0_K K)) := funext fun l => funext fun t10 => funext fun t11 => funext fun t12 => ad_literal_L0_E n K m l t10 t11 t12
    exact h1.trans ((congrArg (fun z => ad_literal_B0 n l t10 t11 t12 z (fun a => ad_literal_L0_K K (.out a)) (fun a => ad_literal_L0_K K (.ret a)) (fun p => ad_literal_L0_K K (.pan p))) h2).trans (ad_literal_B0_N n l t10 t11 t12 (fun l t10 t11 t12 => ad_literal_L0 n m l t10 t11 t12) (fun a => some (.out a)) (fun a => some (.ret a)) (fun p => some (.pan p)) (ad_literal_L0_K K)))
theorem ad_literal_L0_ok (n : Nat) : RunOk tys (callees Out (strconv_Itoa_es n)) (ad_literal_hint n) n (codeAt [1, 1, 0, 1, 0, 0] (bodyOf Tryd.f45)) 0 := runOk_of (sp := ad_literal_L0_sp) (rp := ad_literal_L0_rp) (F := fun σ ρ K => (ad_literal_L0 n n σ.1 σ.2.1 σ.2.2.1 σ.2.2.2.1).bind (ad_literal_L0_K K)) (by kernel_rfl) fun K σ ρ => ad_literal_L0_E n K n σ.1 σ.2.1 σ.2.2.1 σ.2.2.2.1
theorem ad_literal_runs (n : Nat) : RunsOk tys (callees Out (strconv_Itoa_es n)) (ad_literal_hint n) n (bodyOf Tryd.f45) 0 := ⟨trivial, ⟨trivial, ⟨⟨trivial, ⟨ad_literal_L0_ok n, ⟨trivial, ⟨⟨trivial, trivial⟩, ⟨⟨trivial, ⟨trivial, ⟨trivial, ⟨⟨trivial, trivial⟩, trivial⟩⟩⟩⟩, trivial⟩⟩⟩⟩⟩, ⟨trivial, trivial⟩⟩⟩⟩
theorem ad_literal_at : Tryd.prog.funcs[45]? = some Tryd.f45 := by kernel_rfl
theorem ad_literal_ent (n : Nat) : Enters Tryd.prog 45 := enters_of (c := bodyOf Tryd.f45) ad_literal_at (by kernel_rfl) (by kernel_rfl)
theorem ad_literal_E (n : Nat) (s : BA) : fnA tys (callees Out (strconv_Itoa_es n)) (ad_literal_hint n) n Tryd.f45 (encL (.pair .str .unit) (s, ())) [] (soloA fun v => some (.ret v)) (soloA fun v => some (.pan v)) = ad_literal_B n s (fun y => some (.ret (encR (.one .bool) y))) := by kernel_rfl
def ad_literal_en (n : Nat) : Entry := ⟨45, pcT (.pair .str .unit) (.one .bool) (fun xs => ad_literal n xs.1), none, none⟩
theorem ad_literal_ok (n : Nat) : EntryOk Tryd.prog gl (ad_literal_en n) :=
  pcT_ok (ad_literal_ent n) fun xs y h => ans_of_fn tys_ok (strconv_Itoa_es_ok n) mixed (hint := ad_literal_hint n) (n := n) (fn := Tryd.f45) ad_literal_at (runsC (ad_literal_runs n)) (run_ret (φ := (fun y => some (Out.ret (encR (.one .bool) y)))) ((ad_literal_E n xs.1).trans (ad_literal_N (R := Bool) (S := Out) n xs.1 some (fun y => some (Out.ret (encR (.one .bool) y))))) h)
def ad_literal_es (n : Nat) : List Entry := ad_literal_en n :: strconv_Itoa_es n
theorem ad_literal_es_ok (n : Nat) : AllOk Tryd.prog gl (ad_literal_es n) := .cons (ad_literal_ok n) (strconv_Itoa_es_ok n)
/- pouch/addr.label -/
def ad_label_B0 (n : Nat) {R : Type} (s1 : BA) (t5 : Int) (t6 : Int) (kn : BA → Int → Int → Option R) (ko : (BA) → Option R) (kr : (Bool) → Option R) (kp : Int → Option R) : Option R :=
 if (decide (t6 < t5)) = true then
  if 0 ≤ t6 ∧ t6 < (s1.size : Int) then
   (ad_sign n (bt s1 t6)).bind fun v =>
   if (!v) = true then
    if 0 ≤ t6 ∧ t6 < (s1.size : Int) then
     if ((bt s1 t6) != (45 : Int)) = false then
      if (t6 == (0 : Int)) = false then
       if (t6 == (IntKind.wrap .i64 ((s1.size : Int) - (1 : Int)))) = true then
        kr false
       else
        kn s1 t5 (IntKind.wrap .i64 (t6 + (1 : Int)))
      else
       kr false
     else
      kr false
    else
     none
   else
    kn s1 t5 (IntKind.wrap .i64 (t6 + (1 : Int)))
  else
   none
 else
  ko s1
theorem ad_label_B0_N (n : Nat) {R S : Type} (s1 : BA) (t5 : Int) (t6 : Int) (kn : BA → Int → Int → Option R) (ko : (BA) → Option R) (kr : (Bool) → Option R) (kp : Int → Option R) (φ : R → Option S) : ad_label_B0 n s1 t5 t6 (fun s1 t5 t6 => (kn s1 t5 t6).bind φ) (fun a => (ko a).bind φ) (fun a => (kr a).bind φ) (fun a => (kp a).bind φ) = (ad_label_B0 n s1 t5 t6 kn ko kr kp).bind φ := by
  unfold ad_label_B0
  first | (simp only [dup_self, both_self, iB, bB, oL, oX, nB]) | rfl
def ad_label_L0 (n : Nat) : Nat → BA → Int → Int → Option (Lx (BA) (Bool))
  | 0, _, _, _ => none
  | m + 1, s1, t5, t6 => ad_label_B0 n s1 t5 t6 (fun s1 t5 t6 => ad_label_L0 n m s1 t5 t6) (fun a => some (.out a)) (fun a => some (.ret a)) (fun p => some (.pan p))
def ad_label_L0_sp : List Sl := .dat .str :: tp 4 (.dat (.int .i64) :: .dat (.int .i64) :: tp 33 [])
def ad_label_L0_rp : List RS := []
def ad_label_L0_out_sp : List Sl := .dat .str :: tp 39 []
def ad_label_L0_out_rp : List RS := []
def ad_label_L0_ret_sp : List Sl := .top :: .top :: .dat .bool :: tp 37 []
def ad_label_L0_ret_rp : List RS := []
def ad_label_L0_K (K : XE → List AV → AHeap → Option Out) : Lx (BA) (Bool) → Option Out := fun x => onL x (fun a => layK ad_label_L0_out_sp ad_label_L0_out_rp (a, ()) () (K (.exit 0))) (fun a => layK ad_label_L0_ret_sp ad_label_L0_ret_rp (a, ()) () (K .ret)) (fun _ => none)
def ad_label_B (n : Nat) {R : Type} (s : BA) (k : Bool → Option R) : Option R :=
 (ad_label_L0 n n s (s.size : Int) (0 : Int)).bind fun x_1 => onL x_1
  (fun a_2 =>
   if (decide ((a_2.size : Int) ≥ (1 : Int))) = true then
    k (decide ((a_2.size : Int) ≤ (63 : Int)))
   else
    k false)
  (fun a_3 =>
   k a_3)
  (fun _ => none)
def ad_label (n : Nat) (s : BA) : Option Bool := ad_label_B n s some
theorem ad_label_N (n : Nat) {R S : Type} (s : BA) (k : Bool → Option R) (φ : R → Option S) : ad_label_B n s (fun a => (k a).bind φ) = (ad_label_B n s k).bind φ := by
  unfold ad_label_B
  first | (simp only [dup_self, both_self, iB, bB, oL, oX, nB]) | rfl
def ad_label_hint (n : Nat) : Hint Out := { live := fun c => (cond (Nat.beq c 0) (lv [0, 5, 6]) []), run := fun c => (cond (Nat.beq c 0) (some (runL ad_label_L0_sp ad_label_L0_rp fun σ ρ K => (ad_label_L0 n n σ.1 σ.2.1 σ.2.2.1).bind (ad_label_L0_K K))) none), xm := fun c q => (cond (Nat.beq c 0 && Nat.beq (q.getD 1000000) 0 && q.isSome) (some [(0, none)]) (cond (Nat.beq c 1 && q.isNone) (some [(2, none)]) none)) }
def ad_label_L0_I (n : Nat) (K : XE → List AV → AHeap → Option Out) (m : Nat) (s1 : BA) (t5 : Int) (t6 : Int) : Option Out := loopI tys (callees Out (ad_literal_es n)) (ad_label_hint n) n (codeAt [1, 0, 1, 0, 0] (bodyOf Tryd.f47)) 0 ad_label_L0_sp ad_label_L0_rp K m (s1, (t5, (t6, ()))) ()
theorem ad_label_L0_E (n : Nat) (K : XE → List AV → AHeap → Option Out) : ∀ (m : Nat) (s1 : BA) (t5 : Int) (t6 : Int), ad_label_L0_I n K m s1 t5 t6 = (ad_label_L0 n m s1 t5 t6).bind (ad_label_L0_K K)
  | 0, s1, t5, t6 => by kernel_rfl
  | m + 1, s1, t5, t6 => by
    have h1 : ad_label_L0_I n K (m + 1) s1 t5 t6 = ad_label_B0 n s1 t5 t6 (fun s1 t5 t6 => ad_label_L0_I n K m s1 t5 t6) (fun a => ad_label_L0_K K (.out a)) (fun a => ad_label_L0_K K (.ret a)) (fun p => ad_label_L0_K K (.pan p)) := by kernel_rfl
    have h2 : (fun s1 t5 t6 => ad_label_L0_I n K m s1 t5 t6) = (fun s1 t5 t6 => (ad_label_L0 n m s1 t5 t6).bind (ad_label_L0_K K)) := funext fun s1 => funext fun t5 => funext fun t6 => ad_label_L0_E n K m s1 t5 t6
    exact h1.trans ((congrArg (fun z => ad_label_B0 n s1 t5 t6 z (fun a => ad_label_L0_K K (.out a)) (fun a => ad_label_L0_K K (.ret a)) (fun p => ad_label_L0_K K (.pan p))) h2).trans (ad_label_B0_N n s1 t5 t6 (fun s1 t5 t6 => ad_label_L0 n m s1 t5 t6) (fun a => some (.out a)) (fun a => some (.ret a)) (fun p => some (.pan p)) (ad_label_L0_K K)))
theorem ad_label_L0_ok (n : Nat) : RunOk tys (callees Out (ad_literal_es n)) (ad_label_hint n) n (codeAt [1, 0, 1, 0, 0] (bodyOf Tryd.f47)) 0 := runOk_of (sp := ad_label_L0_sp) (rp := ad_label_L0_rp) (F := fun σ ρ K => (ad_label_L0 n n σ.1 σ.2.1 σ.2.2.1).bind (ad_label_L0_K K)) (by kernel_rfl) fun K σ ρ => ad_label_L0_E n K n σ.1 σ.2.1 σ.2.2.1
theorem ad_label_runs (n : Nat) : RunsOk tys (callees Out (ad_literal_es n)) (ad_label_hint n) n (bodyOf Tryd.f47) 0 := ⟨trivial, ⟨⟨trivial, ⟨ad_label_L0_ok n, ⟨trivial, ⟨⟨trivial, trivial⟩, ⟨⟨trivial, ⟨trivial, ⟨⟨trivial, trivial⟩, trivial⟩⟩⟩, trivial⟩⟩⟩⟩⟩, ⟨trivial, trivial⟩⟩⟩
theorem ad_label_at : Tryd.prog.funcs[47]? = some Tryd.f47 := by kernel_rfl
theorem ad_label_ent (n : Nat) : Enters Tryd.prog 47 := enters_of (c := bodyOf Tryd.f47) ad_label_at (by kernel_rfl) (by kernel_rfl)
theorem ad_label_E (n : Nat) (s : BA) : fnA tys (callees Out (ad_literal_es n)) (ad_label_hint n) n Tryd.f47 (encL (.pair .str .unit) (s, ())) [] (soloA fun v => some (.ret v)) (soloA fun v => some (.pan v)) = ad_label_B n s (fun y => some (.ret (encR (.one .bool) y))) := by kernel_rfl
def ad_label_en (n : Nat) : Entry := ⟨47, pcT (.pair .str .unit) (.one .bool) (fun xs => ad_label n xs.1), none, none⟩
theorem ad_label_ok (n : Nat) : EntryOk Tryd.prog gl (ad_label_en n) :=
  pcT_ok (ad_label_ent n) fun xs y h => ans_of_fn tys_ok (ad_literal_es_ok n) mixed (hint := ad_label_hint n) (n := n) (fn := Tryd.f47) ad_label_at (runsC (ad_label_runs n)) (run_ret (φ := (fun y => some (Out.ret (encR (.one .bool) y)))) ((ad_label_E n xs.1).trans (ad_label_N (R := Bool) (S := Out) n xs.1 some (fun y => some (Out.ret (encR (.one .bool) y))))) h)
def ad_label_es (n : Nat) : List Entry := ad_label_en n :: ad_literal_es n
theorem ad_label_es_ok (n : Nat) : AllOk Tryd.prog gl (ad_label_es n) := .cons (ad_label_ok n) (ad_literal_es_ok n)
/- pouch/addr.IsDomain, by hand (Dom) -/
def ad_IsDomain (n : Nat) (s : BA) : Option Bool :=
  (ad_IsLiteral n s).bind fun b => if b = true then (st_HasSuffix n s ⟨#[93]⟩).bind fun c => if c = true then (if 2 ≤ (s.size : Int) ∧ (s.size : Int) ≤ 9223372036854775807 then ad_literal n (s.extract 1 (s.size - 1)) else none) else some false
  else Dom.domT (fun x => st_Index n x Dom.dot) (ad_label n) n s
theorem ad_IsDomain_at : Tryd.prog.funcs[34]? = some Tryd.f34 := by kernel_rfl
theorem ad_IsDomain_ok (n : Nat) : EntryOk Tryd.prog gl ⟨34, pcT (.pair .str .unit) (.one .bool) (fun xs => ad_IsDomain n xs.1), none, none⟩ := pcT_ok (enters_of (c := bodyOf Tryd.f34) ad_IsDomain_at (by kernel_rfl) (by kernel_rfl)) fun xs y h => by
  refine ans_flat (args := [.string xs.1]) (v := .bool y) (fun w0 hg hn => ?_)
  have hlit : ∀ b, ad_IsLiteral n xs.1 = some b → ∀ (w : World), Below w0.heap.size w0 w → Calls Tryd.prog 43 #[.string xs.1] w fun e w' => e = .returned (.bool b) ∧ Below w.heap.size w w' := fun b hb' w hb =>
    ent_flat (ad_IsLiteral_ok n) (args := [.string xs.1]) (v := .bool b) (by show (ad_IsLiteral n xs.1).bind _ = _; rw [hb']; rfl) hg hn hb
  have hsuf : ∀ b, st_HasSuffix n xs.1 ⟨#[93]⟩ = some b → ∀ (w : World), Below w0.heap.size w0 w → Calls Tryd.prog 44 #[.string xs.1, .string ⟨#[93]⟩] w fun e w' => e = .returned (.bool b) ∧ Below w.heap.size w w' := fun b hb' w hb =>
    ent_flat (st_HasSuffix_ok n) (args := [.string xs.1, .string ⟨#[93]⟩]) (v := .bool b) (by show (st_HasSuffix n xs.1 ⟨#[93]⟩).bind _ = _; rw [hb']; rfl) hg hn hb
  unfold ad_IsDomain at h
  obtain ⟨b, hb, h⟩ := Option.bind_eq_some_iff.1 h
  cases b with
  | true =>
    rw [if_pos rfl] at h
    obtain ⟨c, hc, h⟩ := Option.bind_eq_some_iff.1 h
    refine Dom.dom2 xs.1 c y w0 (hlit true hb) (hsuf c hc) (fun hc' => ?_) (fun hc' => ?_)
    · rw [if_pos hc'] at h
      split at h
      · rename_i hsz
        exact ⟨hsz, fun w hbw => ent_flat (ad_literal_ok n) (args := [.string (xs.1.extract 1 (xs.1.size - 1))]) (v := .bool y) (by show (ad_literal n (xs.1.extract 1 (xs.1.size - 1))).bind _ = _; rw [h]; rfl) hg hn hbw⟩
      · cases h
    · rw [if_neg (by rw [hc']; simp)] at h
      exact (Option.some.inj h).symm
  | false =>
    rw [if_neg (by simp)] at h
    exact Dom.dom1 _ _ n xs.1 y w0 (fun x i w hbw hx => ent_flat (st_Index_ok n) (args := [.string x, .string Dom.dot]) (v := .int .i64 i) (by show (st_Index n x Dom.dot).bind _ = _; rw [hx]; rfl) hg hn hbw)
      (fun x i w hbw hx => ent_flat (ad_label_ok n) (args := [.string x]) (v := .bool i) (by show (ad_label n x).bind _ = _; rw [hx]; rfl) hg hn hbw) (hlit false hb) h
def ad_IsDomain_es (n : Nat) : List Entry := ⟨34, pcT (.pair .str .unit) (.one .bool) (fun xs => ad_IsDomain n xs.1), none, none⟩ :: ad_label_es n
theorem ad_IsDomain_es_ok (n : Nat) : AllOk Tryd.prog gl (ad_IsDomain_es n) := .cons (ad_IsDomain_ok n) (ad_label_es_ok n)
/- pouch/addr.read -/
def ad_read_B (n : Nat) {R : Type} (s : BA) (k : (BA × (BA × Unit)) → Option R) (kp : Int → Option R) : Option R :=
 (ad_local n s).bind fun x_1 => onX x_1 (fun p =>
  kp p) (fun v =>
 if (decide ((v.1.size : Int) ≤ (64 : Int))) = true then
  (st_HasPrefix n v.2.1 (⟨#[64]⟩ : BA)).bind fun v1 =>
  (ad_must n v1).bind fun x_2 => onX x_2 (fun p1 =>
   kp p1) (fun v2 =>
  if 0 ≤ (1 : Int) ∧ (1 : Int) ≤ (v.2.1.size : Int) then
   (ad_small n (v.2.1.extract (Int.toNat (1 : Int)) (Int.toNat (v.2.1.size : Int)))).bind fun v3 =>
   (ad_IsDomain n v3).bind fun v4 =>
   (ad_must n v4).bind fun x_3 => onX x_3 (fun p2 =>
    kp p2) (fun v5 =>
   k (v.1, (v3, ())))
  else
   none)
 else
  (ad_must n false).bind fun x_4 => onX x_4 (fun p3 =>
   kp p3) (fun v6 =>
  if 0 ≤ (1 : Int) ∧ (1 : Int) ≤ (v.2.1.size : Int) then
   (ad_small n (v.2.1.extract (Int.toNat (1 : Int)) (Int.toNat (v.2.1.size : Int)))).bind fun v7 =>
   (ad_IsDomain n v7).bind fun v8 =>
   (ad_must n v8).bind fun x_5 => onX x_5 (fun p4 =>
    kp p4) (fun v9 =>
   k (v.1, (v7, ())))
  else
   none))
def ad_read (n : Nat) (s : BA) : Option (Except Int (BA × (BA × Unit))) := ad_read_B n s (fun y => some (.ok y)) (fun p => some (.error p))
theorem ad_read_N (n : Nat) {R S : Type} (s : BA) (k : (BA × (BA × Unit)) → Option R) (kp : Int → Option R) (φ : R → Option S) : ad_read_B n s (fun a => (k a).bind φ) (fun a => (kp a).bind φ) = (ad_read_B n s k kp).bind φ := by
  unfold ad_read_B
  first | (simp only [dup_self, both_self, iB, bB, oL, oX, nB]) | rfl
def ad_read_hint (n : Nat) : Hint Out := { live := fun c => [], run := fun c => none, xm := fun c q => none }
theorem ad_read_runs (n : Nat) : RunsOk tys (callees Out (ad_IsDomain_es n)) (ad_read_hint n) n (bodyOf Tryd.f22) 0 := runs_noloop (fun _ => rfl) _ _ (by kernel_rfl)
theorem ad_read_at : Tryd.prog.funcs[22]? = some Tryd.f22 := by kernel_rfl
theorem ad_read_ent (n : Nat) : Enters Tryd.prog 22 := enters_of (c := bodyOf Tryd.f22) ad_read_at (by kernel_rfl) (by kernel_rfl)
theorem ad_read_E (n : Nat) (s : BA) : fnA tys (callees Out (ad_IsDomain_es n)) (ad_read_hint n) n Tryd.f22 (encL (.pair .str .unit) (s, ())) [] (soloA fun v => some (.ret v)) (soloA fun v => some (.pan v)) = ad_read_B n s (fun y => some (.ret (encR (.one (.pair .str (.pair .str .unit))) y))) (fun p => some (.pan (wrongV 57 p))) := by kernel_rfl
def ad_read_en (n : Nat) : Entry := ⟨22, pcX 57 (.pair .str .unit) (.one (.pair .str (.pair .str .unit))) (fun xs => ad_read n xs.1), none, none⟩
theorem ad_read_ok (n : Nat) : EntryOk Tryd.prog gl (ad_read_en n) :=
  pcX_ok (ad_read_ent n) (fun xs y h => ans_of_fn tys_ok (ad_IsDomain_es_ok n) mixed (hint := ad_read_hint n) (n := n) (fn := Tryd.f22) ad_read_at (runsC (ad_read_runs n)) (run_ret (φ := (fun r => onX r (fun p => some (Out.pan (wrongV 57 p))) fun y => some (Out.ret (encR (.one (.pair .str (.pair .str .unit))) y)))) ((ad_read_E n xs.1).trans (ad_read_N (R := Except Int (BA × (BA × Unit))) (S := Out) n xs.1 (fun y => some (.ok y)) (fun p => some (.error p)) (fun r => onX r (fun p => some (Out.pan (wrongV 57 p))) fun y => some (Out.ret (encR (.one (.pair .str (.pair .str .unit))) y))))) h))
    (fun xs p h => ans_of_fn tys_ok (ad_IsDomain_es_ok n) mixed (hint := ad_read_hint n) (n := n) (fn := Tryd.f22) ad_read_at (runsC (ad_read_runs n)) (run_ret (φ := (fun r => onX r (fun p => some (Out.pan (wrongV 57 p))) fun y => some (Out.ret (encR (.one (.pair .str (.pair .str .unit))) y)))) ((ad_read_E n xs.1).trans (ad_read_N (R := Except Int (BA × (BA × Unit))) (S := Out) n xs.1 (fun y => some (.ok y)) (fun p => some (.error p)) (fun r => onX r (fun p => some (Out.pan (wrongV 57 p))) fun y => some (Out.ret (encR (.one (.pair .str (.pair .str .unit))) y))))) h))
def ad_read_es (n : Nat) : List Entry := ad_read_en n :: ad_IsDomain_es n
theorem ad_read_es_ok (n : Nat) : AllOk Tryd.prog gl (ad_read_es n) := .cons (ad_read_ok n) (ad_IsDomain_es_ok n)
/- pouch/addr.Parse -/
def ad_Parse_B (n : Nat) {R : Type} (s : BA) (k : ((BA × (BA × Unit)) × Int × Unit) → Option R) : Option R :=
 (ad_read n s).bind fun x_1 => onX x_1 (fun p =>
  k (((⟨#[]⟩ : BA), ((⟨#[]⟩ : BA), ())), (p, ()))) (fun v =>
 k ((v.1, (v.2.1, ())), ((0 : Int), ())))
def ad_Parse (n : Nat) (s : BA) : Option ((BA × (BA × Unit)) × Int × Unit) := ad_Parse_B n s some
theorem ad_Parse_N (n : Nat) {R S : Type} (s : BA) (k : ((BA × (BA × Unit)) × Int × Unit) → Option R) (φ : R → Option S) : ad_Parse_B n s (fun a => (k a).bind φ) = (ad_Parse_B n s k).bind φ := by
  unfold ad_Parse_B
  first | (simp only [dup_self, both_self, iB, bB, oL, oX, nB]) | rfl
def ad_Parse_hint (n : Nat) : Hint Out := { live := fun c => [], run := fun c => none, xm := fun c q => none, pm := some [(2, none), (3, none)] }
theorem ad_Parse_runs (n : Nat) : RunsOk tys (callees Out (ad_read_es n)) (ad_Parse_hint n) n (codeAt [0] (bodyOf Tryd.f15)) 0 ∧ RunsOk tys (callees Out (ad_read_es n)) (ad_Parse_hint n) n (codeAt [1, 1] (bodyOf Tryd.f15)) 0 := ⟨trivial, ⟨trivial, trivial⟩⟩
theorem ad_Parse_at : Tryd.prog.funcs[15]? = some Tryd.f15 := by kernel_rfl
theorem ad_Parse_ent (n : Nat) : Enters Tryd.prog 15 := enters_of (c := bodyOf Tryd.f15) ad_Parse_at (by kernel_rfl) (by kernel_rfl)
theorem ad_Parse_dat : Tryd.prog.funcs[21]? = some Tryd.f21 := by kernel_rfl
theorem ad_Parse_dent : Enters Tryd.prog 21 := enters_of (c := bodyOf Tryd.f21) ad_Parse_dat (by kernel_rfl) (by kernel_rfl)
theorem ad_Parse_druns (n : Nat) : RunsOk tys (callees Out (ad_read_es n)) hint0 n (codeAt [1] (bodyOf Tryd.f21)) 0 := ⟨⟨trivial, ⟨trivial, trivial⟩⟩, ⟨trivial, ⟨⟨trivial, ⟨trivial, trivial⟩⟩, trivial⟩⟩⟩
theorem ad_Parse_E (n : Nat) (s : BA) : fnD tys (callees Out (ad_read_es n)) (ad_Parse_hint n) n 21 Tryd.f21 Tryd.f15 (encL (.pair .str .unit) (s, ())) (soloA fun v => some (.ret v)) = ad_Parse_B n s (fun y => some (.ret (encR (.many (.pair (.pair .str (.pair .str .unit)) (.pair (.int .i64) .unit))) y))) := by kernel_rfl
def ad_Parse_en (n : Nat) : Entry := ⟨15, pcT (.pair .str .unit) (.many (.pair (.pair .str (.pair .str .unit)) (.pair (.int .i64) .unit))) (fun xs => ad_Parse n xs.1), none, none⟩
theorem ad_Parse_ok (n : Nat) : EntryOk Tryd.prog gl (ad_Parse_en n) :=
  pcT_ok (ad_Parse_ent n) fun xs y h => ans_of_fnD tys_ok (ad_read_es_ok n) mixed (hint := ad_Parse_hint n) (n := n) (fn := Tryd.f15) (f2 := Tryd.f21) ad_Parse_at ad_Parse_dat ad_Parse_dent (runsD (ad_Parse_runs n)) (runsD2 (ad_Parse_druns n)) (run_ret (φ := (fun y => some (Out.ret (encR (.many (.pair (.pair .str (.pair .str .unit)) (.pair (.int .i64) .unit))) y)))) ((ad_Parse_E n xs.1).trans (ad_Parse_N (R := ((BA × (BA × Unit)) × Int × Unit)) (S := Out) n xs.1 some (fun y => some (Out.ret (encR (.many (.pair (.pair .str (.pair .str .unit)) (.pair (.int .i64) .unit))) y))))) h)
def ad_Parse_es (n : Nat) : List Entry := ad_Parse_en n :: ad_read_es n
theorem ad_Parse_es_ok (n : Nat) : AllOk Tryd.prog gl (ad_Parse_es n) := .cons (ad_Parse_ok n) (ad_read_es_ok n)
/- pouch/pouchlaw4.heavy -/
def w4_heavy_B (n : Nat) {R : Type} (p : ((BA × (BA × Unit)) × (BA × Unit))) (k : Bool → Option R) : Option R :=
 if (decide ((IntKind.wrap .i64 ((p.1.1.size : Int) + (p.1.2.1.size : Int))) > (2000 : Int))) = false then
  k (decide ((p.2.1.size : Int) > (2000 : Int)))
 else
  k true
def w4_heavy (n : Nat) (p : ((BA × (BA × Unit)) × (BA × Unit))) : Option Bool := w4_heavy_B n p some
theorem w4_heavy_N (n : Nat) {R S : Type} (p : ((BA × (BA × Unit)) × (BA × Unit))) (k : Bool → Option R) (φ : R → Option S) : w4_heavy_B n p (fun a => (k a).bind φ) = (w4_heavy_B n p k).bind φ := by
  unfold w4_heavy_B
  first | (simp only [dup_self, both_self, iB, bB, oL, oX, nB]) | rfl
def w4_heavy_hint (n : Nat) : Hint Out := { live := fun c => [], run := fun c => none, xm := fun c q => none }
theorem w4_heavy_runs (n : Nat) : RunsOk tys (callees Out (ad_Parse_es n)) (w4_heavy_hint n) n (bodyOf Tryd.f6) 0 := runs_noloop (fun _ => rfl) _ _ (by kernel_rfl)
theorem w4_heavy_at : Tryd.prog.funcs[6]? = some Tryd.f6 := by kernel_rfl
theorem w4_heavy_ent (n : Nat) : Enters Tryd.prog 6 := enters_of (c := bodyOf Tryd.f6) w4_heavy_at (by kernel_rfl) (by kernel_rfl)
theorem w4_heavy_E (n : Nat) (p : ((BA × (BA × Unit)) × (BA × Unit))) : fnA tys (callees Out (ad_Parse_es n)) (w4_heavy_hint n) n Tryd.f6 (encL (.pair (.pair (.pair .str (.pair .str .unit)) (.pair .str .unit)) .unit) (p, ())) [] (soloA fun v => some (.ret v)) (soloA fun v => some (.pan v)) = w4_heavy_B n p (fun y => some (.ret (encR (.one .bool) y))) := by kernel_rfl
def w4_heavy_en (n : Nat) : Entry := ⟨6, pcT (.pair (.pair (.pair .str (.pair .str .unit)) (.pair .str .unit)) .unit) (.one .bool) (fun xs => w4_heavy n xs.1), none, none⟩
theorem w4_heavy_ok (n : Nat) : EntryOk Tryd.prog gl (w4_heavy_en n) :=
  pcT_ok (w4_heavy_ent n) fun xs y h => ans_of_fn tys_ok (ad_Parse_es_ok n) mixed (hint := w4_heavy_hint n) (n := n) (fn := Tryd.f6) w4_heavy_at (runsC (w4_heavy_runs n)) (run_ret (φ := (fun y => some (Out.ret (encR (.one .bool) y)))) ((w4_heavy_E n xs.1).trans (w4_heavy_N (R := Bool) (S := Out) n xs.1 some (fun y => some (Out.ret (encR (.one .bool) y))))) h)
def w4_heavy_es (n : Nat) : List Entry := w4_heavy_en n :: ad_Parse_es n
theorem w4_heavy_es_ok (n : Nat) : AllOk Tryd.prog gl (w4_heavy_es n) := .cons (w4_heavy_ok n) (ad_Parse_es_ok n)
/- pouch/pouchref4.inner -/
def r4_inner_B0 (n : Nat) {R : Type} (s1 : BA) (i : Int) (b : (Sq Int)) (kn : BA → Int → (Sq Int) → Option R) (ko : (Unit) → Option R) (kr : (BA × Int × Bool) → Option R) (kp : Int → Option R) : Option R :=
 if (decide (i < (s1.size : Int))) = true then
  if 0 ≤ i ∧ i < (s1.size : Int) then
   if ((bt s1 i) == (34 : Int)) = true then
    kr ((strOf b.n b.at'), (IntKind.wrap .i64 (i + (1 : Int))), true)
   else
    if ((bt s1 i) == (92 : Int)) = true then
     if (decide ((IntKind.wrap .i64 (i + (1 : Int))) ≥ (s1.size : Int))) = true then
      ko ()
     else
      if 0 ≤ (IntKind.wrap .i64 (i + (1 : Int))) ∧ (IntKind.wrap .i64 (i + (1 : Int))) < (s1.size : Int) then
       if (decide ((bt s1 (IntKind.wrap .i64 (i + (1 : Int)))) < (32 : Int))) = false then
        if (decide ((bt s1 (IntKind.wrap .i64 (i + (1 : Int)))) > (126 : Int))) = true then
         ko ()
        else
         if rowFits (b.n + 1) 1 = true then
          kn s1 (IntKind.wrap .i64 ((IntKind.wrap .i64 (i + (1 : Int))) + (1 : Int))) (⟨(b.n + 1), fun q => if q < b.n then b.at' q else (fun q => List.getD (α := Int) [(bt s1 (IntKind.wrap .i64 (i + (1 : Int))))] q (zeroEl (.int .u8))) (q - b.n)⟩ : Sq Int)
         else
          none
       else
        ko ()
      else
       none
    else
     if (decide ((bt s1 i) < (32 : Int))) = false then
      if (decide ((bt s1 i) > (126 : Int))) = true then
       ko ()
      else
       if rowFits (b.n + 1) 1 = true then
        kn s1 (IntKind.wrap .i64 (i + (1 : Int))) (⟨(b.n + 1), fun q => if q < b.n then b.at' q else (fun q => List.getD (α := Int) [(bt s1 i)] q (zeroEl (.int .u8))) (q - b.n)⟩ : Sq Int)
       else
        none
     else
      ko ()
  else
   none
 else
  ko ()
theorem r4_inner_B0_N (n : Nat) {R S : Type} (s1 : BA) (i : Int) (b : (Sq Int)) (kn : BA → Int → (Sq Int) → Option R) (ko : (Unit) → Option R) (kr : (BA × Int × Bool) → Option R) (kp : Int → Option R) (φ : R → Option S) : r4_inner_B0 n s1 i b (fun s1 i b => (kn s1 i b).bind φ) (fun a => (ko a).bind φ) (fun a => (kr a).bind φ) (fun a => (kp a).bind φ) = (r4_inner_B0 n s1 i b kn ko kr kp).bind φ := by
  unfold r4_inner_B0
  first | (simp only [dup_self, both_self, iB, bB, oL, oX, nB]) | rfl
def r4_inner_L0 (n : Nat) : Nat → BA → Int → (Sq Int) → Option (Lx (Unit) (BA × Int × Bool))
  | 0, _, _, _ => none
  | m + 1, s1, i, b => r4_inner_B0 n s1 i b (fun s1 i b => r4_inner_L0 n m s1 i b) (fun a => some (.out a)) (fun a => some (.ret a)) (fun p => some (.pan p))
def r4_inner_L0_sp : List Sl := .dat .str :: tp 4 (.row 0 :: .dat (.int .i64) :: tp 37 [])
def r4_inner_L0_rp : List RS := [.row 5 1 (.int .u8) true false]
def r4_inner_L0_out_sp : List Sl := tp 44 []
def r4_inner_L0_out_rp : List RS := []
def r4_inner_L0_ret_sp : List Sl := .top :: .top :: .dat .str :: .dat (.int .i64) :: .dat .bool :: tp 39 []
def r4_inner_L0_ret_rp : List RS := []
def r4_inner_L0_K (K : XE → List AV → AHeap → Option Out) : Lx (Unit) (BA × Int × Bool) → Option Out := fun x => onL x (fun a => layK r4_inner_L0_out_sp r4_inner_L0_out_rp () () (K (.exit 0))) (fun a => layK r4_inner_L0_ret_sp r4_inner_L0_ret_rp (a.1, (a.2.1, (a.2.2, ()))) () (K .ret)) (fun _ => none)
def r4_inner_B (n : Nat) {R : Type} (s : BA) (k : (BA × Int × Bool × Unit) → Option R) : Option R :=
 (r4_inner_L0 n n s (1 : Int) (⟨0, fun _ => zeroEl (.int .u8)⟩ : Sq Int)).bind fun x_1 => onL x_1
  (fun a_2 =>
   k ((⟨#[]⟩ : BA), ((0 : Int), (false, ()))))
  (fun a_3 =>
   k (a_3.1, (a_3.2.1, (a_3.2.2, ()))))
  (fun _ => none)
def r4_inner (n : Nat) (s : BA) : Option (BA × Int × Bool × Unit) := r4_inner_B n s some
theorem r4_inner_N (n : Nat) {R S : Type} (s : BA) (k : (BA × Int × Bool × Unit) → Option R) (φ : R → Option S) : r4_inner_B n s (fun a => (k a).bind φ) = (r4_inner_B n s k).bind φ := by
  unfold r4_inner_B
  first | (simp only [dup_self, both_self, iB, bB, oL, oX, nB]) | rfl
def r4_inner_hint (n : Nat) : Hint Out := { live := fun c => (cond (Nat.beq c 0) [(0, none), (5, some (.sl (.int .u8))), (6, none)] []), run := fun c => (cond (Nat.beq c 0) (some (runL r4_inner_L0_sp r4_inner_L0_rp fun σ ρ K => (r4_inner_L0 n n σ.1 σ.2.1 ρ.1).bind (r4_inner_L0_K K))) none), xm := fun c q => (cond (Nat.beq c 0 && Nat.beq (q.getD 1000000) 0 && q.isSome) (some []) (cond (Nat.beq c 1 && Nat.beq (q.getD 1000000) 0 && q.isSome) (some []) (cond (Nat.beq c 1 && q.isNone) (some (lv [2, 3, 4])) none))) }
def r4_inner_L0_I (n : Nat) (K : XE → List AV → AHeap → Option Out) (m : Nat) (s1 : BA) (i : Int) (b : (Sq Int)) : Option Out := loopI tys (callees Out (w4_heavy_es n)) (r4_inner_hint n) n (codeAt [1, 1, 0, 1, 0, 0] (bodyOf Tryd.f23)) 0 r4_inner_L0_sp r4_inner_L0_rp K m (s1, (i, ())) (b, ())
theorem r4_inner_L0_E (n : Nat) (K : XE → List AV → AHeap → Option Out) : ∀ (m : Nat) (s1 : BA) (i : Int) (b : (Sq Int)), r4_inner_L0_I n K m s1 i b = (r4_inner_L0 n m s1 i b).bind (r4_inner_L0_K K)
  | 0, s1, i, b => by kernel_rfl
  | m + 1, s1, i, b => by
    have h1 : r4_inner_L0_I n K (m + 1) s1 i b = r4_inner_B0 n s1 i b (fun s1 i b => r4_inner_L0_I n K m s1 i b) (fun a => r4_inner_L0_K K (.out a)) (fun a => r4_inner_L0_K K (.ret a)) (fun p => r4_inner_L0_K K (.pan p)) := by kernel_rfl
    have h2 : (fun s1 i b => r4_inner_L0_I n K m s1 i b) = (fun s1 i b => (r4_inner_L0 n m s1 i b).bind (r4_inner_L0_K K)) := funext fun s1 => funext fun i => funext fun b => r4_inner_L0_E n K m s1 i b
    exact h1.trans ((congrArg (fun z => r4_inner_B0 n s1 i b z (fun a => r4_inner_L0_K K (.out a)) (fun a => r4_inner_L0_K K (.ret a)) (fun p => r4_inner_L0_K K (.pan p))) h2).trans (r4_inner_B0_N n s1 i b (fun s1 i b => r4_inner_L0 n m s1 i b) (fun a => some (.out a)) (fun a => some (.ret a)) (fun p => some (.pan p)) (r4_inner_L0_K K)))
theorem r4_inner_L0_ok (n : Nat) : RunOk tys (callees Out (w4_heavy_es n)) (r4_inner_hint n) n (codeAt [1, 1, 0, 1, 0, 0] (bodyOf Tryd.f23)) 0 := runOk_of (sp := r4_inner_L0_sp) (rp := r4_inner_L0_rp) (F := fun σ ρ K => (r4_inner_L0 n n σ.1 σ.2.1 ρ.1).bind (r4_inner_L0_K K)) (by kernel_rfl) fun K σ ρ => r4_inner_L0_E n K n σ.1 σ.2.1 ρ.1
theorem r4_inner_runs (n : Nat) : RunsOk tys (callees Out (w4_heavy_es n)) (r4_inner_hint n) n (bodyOf Tryd.f23) 0 := ⟨trivial, ⟨trivial, ⟨⟨trivial, ⟨r4_inner_L0_ok n, ⟨⟨trivial, ⟨trivial, trivial⟩⟩, ⟨⟨trivial, ⟨⟨trivial, ⟨⟨trivial, trivial⟩, trivial⟩⟩, ⟨⟨trivial, ⟨⟨trivial, ⟨⟨trivial, ⟨trivial, trivial⟩⟩, trivial⟩⟩, trivial⟩⟩, ⟨⟨trivial, ⟨trivial, trivial⟩⟩, trivial⟩⟩⟩⟩, trivial⟩⟩⟩⟩, ⟨trivial, trivial⟩⟩⟩⟩
theorem r4_inner_at : Tryd.prog.funcs[23]? = some Tryd.f23 := by kernel_rfl
theorem r4_inner_ent (n : Nat) : Enters Tryd.prog 23 := enters_of (c := bodyOf Tryd.f23) r4_inner_at (by kernel_rfl) (by kernel_rfl)
theorem r4_inner_E (n : Nat) (s : BA) : fnA tys (callees Out (w4_heavy_es n)) (r4_inner_hint n) n Tryd.f23 (encL (.pair .str .unit) (s, ())) [] (soloA fun v => some (.ret v)) (soloA fun v => some (.pan v)) = r4_inner_B n s (fun y => some (.ret (encR (.many (.pair .str (.pair (.int .i64) (.pair .bool .unit)))) y))) := by kernel_rfl
def r4_inner_en (n : Nat) : Entry := ⟨23, pcT (.pair .str .unit) (.many (.pair .str (.pair (.int .i64) (.pair .bool .unit)))) (fun xs => r4_inner n xs.1), none, none⟩
theorem r4_inner_ok (n : Nat) : EntryOk Tryd.prog gl (r4_inner_en n) :=
  pcT_ok (r4_inner_ent n) fun xs y h => ans_of_fn tys_ok (w4_heavy_es_ok n) mixed (hint := r4_inner_hint n) (n := n) (fn := Tryd.f23) r4_inner_at (runsC (r4_inner_runs n)) (run_ret (φ := (fun y => some (Out.ret (encR (.many (.pair .str (.pair (.int .i64) (.pair .bool .unit)))) y)))) ((r4_inner_E n xs.1).trans (r4_inner_N (R := (BA × Int × Bool × Unit)) (S := Out) n xs.1 some (fun y => some (Out.ret (encR (.many (.pair .str (.pair (.int .i64) (.pair .bool .unit)))) y))))) h)
def r4_inner_es (n : Nat) : List Entry := r4_inner_en n :: w4_heavy_es n
theorem r4_inner_es_ok (n : Nat) : AllOk Tryd.prog gl (r4_inner_es n) := .cons (r4_inner_ok n) (w4_heavy_es_ok n)
/- pouch/pouchref4.quote -/
def r4_quote_B0 (n : Nat) {R : Type} (s1 : BA) (q : BA) (i : Int) (kn : BA → BA → Int → Option R) (ko : (BA) → Option R) (kr : Unit → Option R) (kp : Int → Option R) : Option R :=
 if (decide (i < (s1.size : Int))) = true then
  if 0 ≤ i ∧ i < (s1.size : Int) then
   if ((bt s1 i) == (34 : Int)) = false then
    if 0 ≤ i ∧ i < (s1.size : Int) then
     if ((bt s1 i) == (92 : Int)) = true then
      if strFits q (⟨#[92]⟩ : BA) = true then
       if 0 ≤ (IntKind.wrap .i64 (i + (1 : Int))) ∧ (IntKind.wrap .i64 (i + (1 : Int))) ≤ (s1.size : Int) then
        if 0 ≤ i ∧ i ≤ (IntKind.wrap .i64 (i + (1 : Int))) then
         if strFits (q ++ (⟨#[92]⟩ : BA)) (s1.extract (Int.toNat i) (Int.toNat (IntKind.wrap .i64 (i + (1 : Int))))) = true then
          kn s1 ((q ++ (⟨#[92]⟩ : BA)) ++ (s1.extract (Int.toNat i) (Int.toNat (IntKind.wrap .i64 (i + (1 : Int)))))) (IntKind.wrap .i64 (i + (1 : Int)))
         else
          none
        else
         none
       else
        none
      else
       none
     else
      if 0 ≤ (IntKind.wrap .i64 (i + (1 : Int))) ∧ (IntKind.wrap .i64 (i + (1 : Int))) ≤ (s1.size : Int) then
       if 0 ≤ i ∧ i ≤ (IntKind.wrap .i64 (i + (1 : Int))) then
        if strFits q (s1.extract (Int.toNat i) (Int.toNat (IntKind.wrap .i64 (i + (1 : Int))))) = true then
         kn s1 (q ++ (s1.extract (Int.toNat i) (Int.toNat (IntKind.wrap .i64 (i + (1 : Int)))))) (IntKind.wrap .i64 (i + (1 : Int)))
        else
         none
       else
        none
      else
       none
    else
     none
   else
    if strFits q (⟨#[92]⟩ : BA) = true then
     if 0 ≤ (IntKind.wrap .i64 (i + (1 : Int))) ∧ (IntKind.wrap .i64 (i + (1 : Int))) ≤ (s1.size : Int) then
      if 0 ≤ i ∧ i ≤ (IntKind.wrap .i64 (i + (1 : Int))) then
       if strFits (q ++ (⟨#[92]⟩ : BA)) (s1.extract (Int.toNat i) (Int.toNat (IntKind.wrap .i64 (i + (1 : Int))))) = true then
        kn s1 ((q ++ (⟨#[92]⟩ : BA)) ++ (s1.extract (Int.toNat i) (Int.toNat (IntKind.wrap .i64 (i + (1 : Int)))))) (IntKind.wrap .i64 (i + (1 : Int)))
       else
        none
      else
       none
     else
      none
    else
     none
  else
   none
 else
  ko q
theorem r4_quote_B0_N (n : Nat) {R S : Type} (s1 : BA) (q : BA) (i : Int) (kn : BA → BA → Int → Option R) (ko : (BA) → Option R) (kr : Unit → Option R) (kp : Int → Option R) (φ : R → Option S) : r4_quote_B0 n s1 q i (fun s1 q i => (kn s1 q i).bind φ) (fun a => (ko a).bind φ) (fun a => (kr a).bind φ) (fun a => (kp a).bind φ) = (r4_quote_B0 n s1 q i kn ko kr kp).bind φ := by
  unfold r4_quote_B0
  first | (simp only [dup_self, both_self, iB, bB, oL, oX, nB]) | rfl
def r4_quote_L0 (n : Nat) : Nat → BA → BA → Int → Option (Lx (BA) Unit)
  | 0, _, _, _ => none
  | m + 1, s1, q, i => r4_quote_B0 n s1 q i (fun s1 q i => r4_quote_L0 n m s1 q i) (fun a => some (.out a)) (fun a => some (.ret a)) (fun p => some (.pan p))
def r4_quote_L0_sp : List Sl := .dat .str :: .top :: .top :: .dat .str :: .dat (.int .i64) :: tp 27 []
def r4_quote_L0_rp : List RS := []
def r4_quote_L0_out_sp : List Sl := .top :: .top :: .top :: .dat .str :: tp 28 []
def r4_quote_L0_out_rp : List RS := []
def r4_quote_L0_K (K : XE → List AV → AHeap → Option Out) : Lx (BA) Unit → Option Out := fun x => onL x (fun a => layK r4_quote_L0_out_sp r4_quote_L0_out_rp (a, ()) () (K (.exit 0))) (fun _ => none) (fun _ => none)
def r4_quote_B (n : Nat) {R : Type} (s : BA) (k : BA → Option R) : Option R :=
 (r4_quote_L0 n n s (⟨#[34]⟩ : BA) (0 : Int)).bind fun x_1 => onL x_1
  (fun a_2 =>
   if strFits a_2 (⟨#[34]⟩ : BA) = true then
    k (a_2 ++ (⟨#[34]⟩ : BA))
   else
    none)
  (fun _ => none)
  (fun _ => none)
def r4_quote (n : Nat) (s : BA) : Option BA := r4_quote_B n s some
theorem r4_quote_N (n : Nat) {R S : Type} (s : BA) (k : BA → Option R) (φ : R → Option S) : r4_quote_B n s (fun a => (k a).bind φ) = (r4_quote_B n s k).bind φ := by
  unfold r4_quote_B
  first | (simp only [dup_self, both_self, iB, bB, oL, oX, nB]) | rfl
def r4_quote_hint (n : Nat) : Hint Out := { live := fun c => (cond (Nat.beq c 0) (lv [0, 3, 4]) []), run := fun c => (cond (Nat.beq c 0) (some (runL r4_quote_L0_sp r4_quote_L0_rp fun σ ρ K => (r4_quote_L0 n n σ.1 σ.2.1 σ.2.2.1).bind (r4_quote_L0_K K))) none), xm := fun c q => (cond (Nat.beq c 0 && Nat.beq (q.getD 1000000) 0 && q.isSome) (some [(3, none)]) none) }
def r4_quote_L0_I (n : Nat) (K : XE → List AV → AHeap → Option Out) (m : Nat) (s1 : BA) (q : BA) (i : Int) : Option Out := loopI tys (callees Out (r4_inner_es n)) (r4_quote_hint n) n (codeAt [1, 1, 0, 1, 0, 0] (bodyOf Tryd.f24)) 0 r4_quote_L0_sp r4_quote_L0_rp K m (s1, (q, (i, ()))) ()
theorem r4_quote_L0_E (n : Nat) (K : XE → List AV → AHeap → Option Out) : ∀ (m : Nat) (s1 : BA) (q : BA) (i : Int), r4_quote_L0_I n K m s1 q i = (r4_quote_L0 n m s1 q i).bind (r4_quote_L0_K K)
  | 0, s1, q, i => by kernel_rfl
  | m + 1, s1, q, i => by
    have h1 : r4_quote_L0_I n K (m + 1) s1 q i = r4_quote_B0 n s1 q i (fun s1 q i => r4_quote_L0_I n K m s1 q i) (fun a => r4_quote_L0_K K (.out a)) (fun a => r4_quote_L0_K K (.ret a)) (fun p => r4_quote_L0_K K (.pan p)) := by kernel_rfl
    have h2 : (fun s1 q i => r4_quote_L0_I n K m s1 q i) = (fun s1 q i => (r4_quote_L0 n m s1 q i).bind (r4_quote_L0_K K)) := funext fun s1 => funext fun q => funext fun i => r4_quote_L0_E n K m s1 q i
    exact h1.trans ((congrArg (fun z => r4_quote_B0 n s1 q i z (fun a => r4_quote_L0_K K (.out a)) (fun a => r4_quote_L0_K K (.ret a)) (fun p => r4_quote_L0_K K (.pan p))) h2).trans (r4_quote_B0_N n s1 q i (fun s1 q i => r4_quote_L0 n m s1 q i) (fun a => some (.out a)) (fun a => some (.ret a)) (fun p => some (.pan p)) (r4_quote_L0_K K)))
theorem r4_quote_L0_ok (n : Nat) : RunOk tys (callees Out (r4_inner_es n)) (r4_quote_hint n) n (codeAt [1, 1, 0, 1, 0, 0] (bodyOf Tryd.f24)) 0 := runOk_of (sp := r4_quote_L0_sp) (rp := r4_quote_L0_rp) (F := fun σ ρ K => (r4_quote_L0 n n σ.1 σ.2.1 σ.2.2.1).bind (r4_quote_L0_K K)) (by kernel_rfl) fun K σ ρ => r4_quote_L0_E n K n σ.1 σ.2.1 σ.2.2.1
theorem r4_quote_runs (n : Nat) : RunsOk tys (callees Out (r4_inner_es n)) (r4_quote_hint n) n (bodyOf Tryd.f24) 0 := ⟨trivial, ⟨trivial, ⟨⟨trivial, ⟨r4_quote_L0_ok n, ⟨⟨trivial, ⟨trivial, trivial⟩⟩, ⟨⟨⟨trivial, ⟨trivial, trivial⟩⟩, trivial⟩, trivial⟩⟩⟩⟩, ⟨trivial, trivial⟩⟩⟩⟩
theorem r4_quote_at : Tryd.prog.funcs[24]? = some Tryd.f24 := by kernel_rfl
theorem r4_quote_ent (n : Nat) : Enters Tryd.prog 24 := enters_of (c := bodyOf Tryd.f24) r4_quote_at (by kernel_rfl) (by kernel_rfl)
theorem r4_quote_E (n : Nat) (s : BA) : fnA tys (callees Out (r4_inner_es n)) (r4_quote_hint n) n Tryd.f24 (encL (.pair .str .unit) (s, ())) [] (soloA fun v => some (.ret v)) (soloA fun v => some (.pan v)) = r4_quote_B n s (fun y => some (.ret (encR (.one .str) y))) := by kernel_rfl
def r4_quote_en (n : Nat) : Entry := ⟨24, pcT (.pair .str .unit) (.one .str) (fun xs => r4_quote n xs.1), none, none⟩
theorem r4_quote_ok (n : Nat) : EntryOk Tryd.prog gl (r4_quote_en n) :=
  pcT_ok (r4_quote_ent n) fun xs y h => ans_of_fn tys_ok (r4_inner_es_ok n) mixed (hint := r4_quote_hint n) (n := n) (fn := Tryd.f24) r4_quote_at (runsC (r4_quote_runs n)) (run_ret (φ := (fun y => some (Out.ret (encR (.one .str) y)))) ((r4_quote_E n xs.1).trans (r4_quote_N (R := BA) (S := Out) n xs.1 some (fun y => some (Out.ret (encR (.one .str) y))))) h)
def r4_quote_es (n : Nat) : List Entry := r4_quote_en n :: r4_inner_es n
theorem r4_quote_es_ok (n : Nat) : AllOk Tryd.prog gl (r4_quote_es n) := .cons (r4_quote_ok n) (r4_inner_es_ok n)
/- pouch/pouchref0.Split -/
def r0_Split_B0 (n : Nat) {R : Type} (s1 : BA) (by01 : Int) (from0 : Int) (i : Int) (l : (Sq BA)) (kn : BA → Int → Int → Int → (Sq BA) → Option R) (ko : ((Sq BA)) → Option R) (kr : Unit → Option R) (kp : Int → Option R) : Option R :=
 if (decide (i ≤ (s1.size : Int))) = true then
  if (i == (s1.size : Int)) = false then
   if 0 ≤ i ∧ i < (s1.size : Int) then
    if ((bt s1 i) == by01) = true then
     if 0 ≤ i ∧ i ≤ (s1.size : Int) then
      if 0 ≤ from0 ∧ from0 ≤ i then
       if rowFits (l.n + 1) 16 = true then
        kn s1 by01 (IntKind.wrap .i64 (i + (1 : Int))) (IntKind.wrap .i64 (i + (1 : Int))) (⟨(l.n + 1), fun q => if q < l.n then l.at' q else (fun q => List.getD (α := BA) [(s1.extract (Int.toNat from0) (Int.toNat i))] q (zeroEl .str)) (q - l.n)⟩ : Sq BA)
       else
        none
      else
       none
     else
      none
    else
     kn s1 by01 from0 (IntKind.wrap .i64 (i + (1 : Int))) l
   else
    none
  else
   if 0 ≤ i ∧ i ≤ (s1.size : Int) then
    if 0 ≤ from0 ∧ from0 ≤ i then
     if rowFits (l.n + 1) 16 = true then
      kn s1 by01 (IntKind.wrap .i64 (i + (1 : Int))) (IntKind.wrap .i64 (i + (1 : Int))) (⟨(l.n + 1), fun q => if q < l.n then l.at' q else (fun q => List.getD (α := BA) [(s1.extract (Int.toNat from0) (Int.toNat i))] q (zeroEl .str)) (q - l.n)⟩ : Sq BA)
     else
      none
    else
     none
   else
    none
 else
  ko l
theorem r0_Split_B0_N (n : Nat) {R S : Type} (s1 : BA) (by01 : Int) (from0 : Int) (i : Int) (l : (Sq BA)) (kn : BA → Int → Int → Int → (Sq BA) → Option R) (ko : ((Sq BA)) → Option R) (kr : Unit → Option R) (kp : Int → Option R) (φ : R → Option S) : r0_Split_B0 n s1 by01 from0 i l (fun s1 by01 from0 i l => (kn s1 by01 from0 i l).bind φ) (fun a => (ko a).bind φ) (fun a => (kr a).bind φ) (fun a => (kp a).bind φ) = (r0_Split_B0 n s1 by01 from0 i l kn ko kr kp).bind φ := by
  unfold r0_Split_B0
  first | (simp only [dup_self, both_self, iB, bB, oL, oX, nB]) | rfl
def r0_Split_L0 (n : Nat) : Nat → BA → Int → Int → Int → (Sq BA) → Option (Lx ((Sq BA)) Unit)
  | 0, _, _, _, _, _ => none
  | m + 1, s1, by01, from0, i, l => r0_Split_B0 n s1 by01 from0 i l (fun s1 by01 from0 i l => r0_Split_L0 n m s1 by01 from0 i l) (fun a => some (.out a)) (fun a => some (.ret a)) (fun p => some (.pan p))
def r0_Split_L0_sp : List Sl := .dat .str :: .dat (.int .u8) :: .top :: .top :: .top :: .row 0 :: .dat (.int .i64) :: .dat (.int .i64) :: tp 27 []
def r0_Split_L0_rp : List RS := [.row 9 1 .str true false]
def r0_Split_L0_out_sp : List Sl := tp 5 (.row 0 :: tp 29 [])
def r0_Split_L0_out_rp : List RS := [.row 9 1 .str true false]
def r0_Split_L0_K (K : XE → List AV → AHeap → Option Out) : Lx ((Sq BA)) Unit → Option Out := fun x => onL x (fun a => layK r0_Split_L0_out_sp r0_Split_L0_out_rp () (a, ()) (K (.exit 0))) (fun _ => none) (fun _ => none)
def r0_Split_B (n : Nat) {R : Type} (s : BA) (by0 : Int) (k : (Sq BA) → Option R) : Option R :=
 (r0_Split_L0 n n s by0 (0 : Int) (0 : Int) (⟨0, fun _ => zeroEl .str⟩ : Sq BA)).bind fun x_1 => onL x_1
  (fun a_2 =>
   k a_2)
  (fun _ => none)
  (fun _ => none)
def r0_Split (n : Nat) (s : BA) (by0 : Int) : Option (Sq BA) := r0_Split_B n s by0 some
theorem r0_Split_N (n : Nat) {R S : Type} (s : BA) (by0 : Int) (k : (Sq BA) → Option R) (φ : R → Option S) : r0_Split_B n s by0 (fun a => (k a).bind φ) = (r0_Split_B n s by0 k).bind φ := by
  unfold r0_Split_B
  first | (simp only [dup_self, both_self, iB, bB, oL, oX, nB]) | rfl
def r0_Split_hint (n : Nat) : Hint Out := { live := fun c => (cond (Nat.beq c 0) [(0, none), (1, none), (5, some (.sl .str)), (6, none), (7, none)] []), run := fun c => (cond (Nat.beq c 0) (some (runL r0_Split_L0_sp r0_Split_L0_rp fun σ ρ K => (r0_Split_L0 n n σ.1 σ.2.1 σ.2.2.1 σ.2.2.2.1 ρ.1).bind (r0_Split_L0_K K))) none), xm := fun c q => (cond (Nat.beq c 0 && Nat.beq (q.getD 1000000) 0 && q.isSome) (some [(5, some (.sl .str))]) none) }
def r0_Split_L0_I (n : Nat) (K : XE → List AV → AHeap → Option Out) (m : Nat) (s1 : BA) (by01 : Int) (from0 : Int) (i : Int) (l : (Sq BA)) : Option Out := loopI tys (callees Out (r4_quote_es n)) (r0_Split_hint n) n (codeAt [1, 1, 1, 0, 1, 0, 0] (bodyOf Tryd.f28)) 0 r0_Split_L0_sp r0_Split_L0_rp K m (s1, (by01, (from0, (i, ())))) (l, ())
theorem r0_Split_L0_E (n : Nat) (K : XE → List AV → AHeap → Option Out) : ∀ (m : Nat) (s1 : BA) (by01 : Int) (from0 : Int) (i : Int) (l : (Sq BA)), r0_Split_L0_I n K m s1 by01 from0 i l = (r0_Split_L0 n m s1 by01 from0 i l).bind (r0_Split_L0_K K)
  | 0, s1, by01, from0, i, l => by kernel_rfl
  | m + 1, s1, by01, from0, i, l => by
    have h1 : r0_Split_L0_I n K (m + 1) s1 by01 from0 i l = r0_Split_B0 n s1 by01 from0 i l (fun s1 by01 from0 i l => r0_Split_L0_I n K m s1 by01 from0 i l) (fun a => r0_Split_L0_K K (.out a)) (fun a => r0_Split_L0_K K (.ret a)) (fun p => r0_Split_L0_K K (.pan p)) := by kernel_rfl
    have h2 : (fun s1 by01 from0 i l => r0_Split_L0_I n K m s1 by01 from0 i l) = (fun s1 by01 from0 i l => (r0_Split_L0 n m s1 by01 from0 i l).bind (r0_Split_L0_K K)) := funext fun s1 => funext fun by01 => funext fun from0 => funext fun i => funext fun l => r0_Split_L0_E n K m s1 by01 from0 i l
    exact h1.trans ((congrArg (fun z => r0_Split_B0 n s1 by01 from0 i l z (fun a => r0_Split_L0_K K (.out a)) (fun a => r0_Split_L0_K K (.ret a)) (fun p => r0_Split_L0_K K (.pan p))) h2).trans (r0_Split_B0_N n s1 by01 from0 i l (fun s1 by01 from0 i l => r0_Split_L0 n m s1 by01 from0 i l) (fun a => some (.out a)) (fun a => some (.ret a)) (fun p => some (.pan p)) (r0_Split_L0_K K)))
theorem r0_Split_L0_ok (n : Nat) : RunOk tys (callees Out (r4_quote_es n)) (r0_Split_hint n) n (codeAt [1, 1, 1, 0, 1, 0, 0] (bodyOf Tryd.f28)) 0 := runOk_of (sp := r0_Split_L0_sp) (rp := r0_Split_L0_rp) (F := fun σ ρ K => (r0_Split_L0 n n σ.1 σ.2.1 σ.2.2.1 σ.2.2.2.1 ρ.1).bind (r0_Split_L0_K K)) (by kernel_rfl) fun K σ ρ => r0_Split_L0_E n K n σ.1 σ.2.1 σ.2.2.1 σ.2.2.2.1 ρ.1
theorem r0_Split_runs (n : Nat) : RunsOk tys (callees Out (r4_quote_es n)) (r0_Split_hint n) n (bodyOf Tryd.f28) 0 := ⟨trivial, ⟨trivial, ⟨trivial, ⟨⟨trivial, ⟨r0_Split_L0_ok n, ⟨⟨trivial, ⟨trivial, trivial⟩⟩, ⟨⟨trivial, ⟨⟨trivial, trivial⟩, trivial⟩⟩, trivial⟩⟩⟩⟩, ⟨trivial, trivial⟩⟩⟩⟩⟩
theorem r0_Split_at : Tryd.prog.funcs[28]? = some Tryd.f28 := by kernel_rfl
theorem r0_Split_ent (n : Nat) : Enters Tryd.prog 28 := enters_of (c := bodyOf Tryd.f28) r0_Split_at (by kernel_rfl) (by kernel_rfl)
theorem r0_Split_E (n : Nat) (s : BA) (by0 : Int) : fnA tys (callees Out (r4_quote_es n)) (r0_Split_hint n) n Tryd.f28 (encL (.pair .str (.pair (.int .u8) .unit)) (s, (by0, ()))) [] (soloA fun v => some (.ret v)) (soloA fun v => some (.pan v)) = r0_Split_B n s by0 (fun y => some (.ret (encR (.one (.sl .str)) y))) := by kernel_rfl
def r0_Split_en (n : Nat) : Entry := ⟨28, pcT (.pair .str (.pair (.int .u8) .unit)) (.one (.sl .str)) (fun xs => r0_Split n xs.1 xs.2.1), none, none⟩
theorem r0_Split_ok (n : Nat) : EntryOk Tryd.prog gl (r0_Split_en n) :=
  pcT_ok (r0_Split_ent n) fun xs y h => ans_of_fn tys_ok (r4_quote_es_ok n) mixed (hint := r0_Split_hint n) (n := n) (fn := Tryd.f28) r0_Split_at (runsC (r0_Split_runs n)) (run_ret (φ := (fun y => some (Out.ret (encR (.one (.sl .str)) y)))) ((r0_Split_E n xs.1 xs.2.1).trans (r0_Split_N (R := (Sq BA)) (S := Out) n xs.1 xs.2.1 some (fun y => some (Out.ret (encR (.one (.sl .str)) y))))) h)
def r0_Split_es (n : Nat) : List Entry := r0_Split_en n :: r4_quote_es n
theorem r0_Split_es_ok (n : Nat) : AllOk Tryd.prog gl (r0_Split_es n) := .cons (r0_Split_ok n) (r4_quote_es_ok n)
/- pouch/pouchref4.letter -/
def r4_letter_B (n : Nat) {R : Type} (c : Int) (k : Bool → Option R) : Option R :=
 if (decide (c ≥ (97 : Int))) = true then
  if (decide (c ≤ (122 : Int))) = false then
   if (decide (c ≥ (65 : Int))) = true then
    k (decide (c ≤ (90 : Int)))
   else
    k false
  else
   k true
 else
  if (decide (c ≥ (65 : Int))) = true then
   k (decide (c ≤ (90 : Int)))
  else
   k false
def r4_letter (n : Nat) (c : Int) : Option Bool := r4_letter_B n c some
theorem r4_letter_N (n : Nat) {R S : Type} (c : Int) (k : Bool → Option R) (φ : R → Option S) : r4_letter_B n c (fun a => (k a).bind φ) = (r4_letter_B n c k).bind φ := by
  unfold r4_letter_B
  first | (simp only [dup_self, both_self, iB, bB, oL, oX, nB]) | rfl
def r4_letter_hint (n : Nat) : Hint Out := { live := fun c => [], run := fun c => none, xm := fun c q => none }
theorem r4_letter_runs (n : Nat) : RunsOk tys (callees Out (r0_Split_es n)) (r4_letter_hint n) n (bodyOf Tryd.f35) 0 := runs_noloop (fun _ => rfl) _ _ (by kernel_rfl)
theorem r4_letter_at : Tryd.prog.funcs[35]? = some Tryd.f35 := by kernel_rfl
theorem r4_letter_ent (n : Nat) : Enters Tryd.prog 35 := enters_of (c := bodyOf Tryd.f35) r4_letter_at (by kernel_rfl) (by kernel_rfl)
theorem r4_letter_E (n : Nat) (c : Int) : fnA tys (callees Out (r0_Split_es n)) (r4_letter_hint n) n Tryd.f35 (encL (.pair (.int .u8) .unit) (c, ())) [] (soloA fun v => some (.ret v)) (soloA fun v => some (.pan v)) = r4_letter_B n c (fun y => some (.ret (encR (.one .bool) y))) := by kernel_rfl
def r4_letter_en (n : Nat) : Entry := ⟨35, pcT (.pair (.int .u8) .unit) (.one .bool) (fun xs => r4_letter n xs.1), none, none⟩
theorem r4_letter_ok (n : Nat) : EntryOk Tryd.prog gl (r4_letter_en n) :=
  pcT_ok (r4_letter_ent n) fun xs y h => ans_of_fn tys_ok (r0_Split_es_ok n) mixed (hint := r4_letter_hint n) (n := n) (fn := Tryd.f35) r4_letter_at (runsC (r4_letter_runs n)) (run_ret (φ := (fun y => some (Out.ret (encR (.one .bool) y)))) ((r4_letter_E n xs.1).trans (r4_letter_N (R := Bool) (S := Out) n xs.1 some (fun y => some (Out.ret (encR (.one .bool) y))))) h)
def r4_letter_es (n : Nat) : List Entry := r4_letter_en n :: r0_Split_es n
theorem r4_letter_es_ok (n : Nat) : AllOk Tryd.prog gl (r4_letter_es n) := .cons (r4_letter_ok n) (r0_Split_es_ok n)
/- pouch/pouchref4.digit -/
def r4_digit_B (n : Nat) {R : Type} (c : Int) (k : Bool → Option R) : Option R :=
 if (decide (c ≥ (48 : Int))) = true then
  k (decide (c ≤ (57 : Int)))
 else
  k false
def r4_digit (n : Nat) (c : Int) : Option Bool := r4_digit_B n c some
theorem r4_digit_N (n : Nat) {R S : Type} (c : Int) (k : Bool → Option R) (φ : R → Option S) : r4_digit_B n c (fun a => (k a).bind φ) = (r4_digit_B n c k).bind φ := by
  unfold r4_digit_B
  first | (simp only [dup_self, both_self, iB, bB, oL, oX, nB]) | rfl
def r4_digit_hint (n : Nat) : Hint Out := { live := fun c => [], run := fun c => none, xm := fun c q => none }
theorem r4_digit_runs (n : Nat) : RunsOk tys (callees Out (r4_letter_es n)) (r4_digit_hint n) n (bodyOf Tryd.f29) 0 := runs_noloop (fun _ => rfl) _ _ (by kernel_rfl)
theorem r4_digit_at : Tryd.prog.funcs[29]? = some Tryd.f29 := by kernel_rfl
theorem r4_digit_ent (n : Nat) : Enters Tryd.prog 29 := enters_of (c := bodyOf Tryd.f29) r4_digit_at (by kernel_rfl) (by kernel_rfl)
theorem r4_digit_E (n : Nat) (c : Int) : fnA tys (callees Out (r4_letter_es n)) (r4_digit_hint n) n Tryd.f29 (encL (.pair (.int .u8) .unit) (c, ())) [] (soloA fun v => some (.ret v)) (soloA fun v => some (.pan v)) = r4_digit_B n c (fun y => some (.ret (encR (.one .bool) y))) := by kernel_rfl
def r4_digit_en (n : Nat) : Entry := ⟨29, pcT (.pair (.int .u8) .unit) (.one .bool) (fun xs => r4_digit n xs.1), none, none⟩
theorem r4_digit_ok (n : Nat) : EntryOk Tryd.prog gl (r4_digit_en n) :=
  pcT_ok (r4_digit_ent n) fun xs y h => ans_of_fn tys_ok (r4_letter_es_ok n) mixed (hint := r4_digit_hint n) (n := n) (fn := Tryd.f29) r4_digit_at (runsC (r4_digit_runs n)) (run_ret (φ := (fun y => some (Out.ret (encR (.one .bool) y)))) ((r4_digit_E n xs.1).trans (r4_digit_N (R := Bool) (S := Out) n xs.1 some (fun y => some (Out.ret (encR (.one .bool) y))))) h)
def r4_digit_es (n : Nat) : List Entry := r4_digit_en n :: r4_letter_es n
theorem r4_digit_es_ok (n : Nat) : AllOk Tryd.prog gl (r4_digit_es n) := .cons (r4_digit_ok n) (r4_letter_es_ok n)
/- pouch/pouchref4.sign -/
def r4_sign_B0 (n : Nat) {R : Type} (c1 : Int) (s : BA) (i : Int) (kn : Int → BA → Int → Option R) (ko : (Unit) → Option R) (kr : (Bool) → Option R) (kp : Int → Option R) : Option R :=
 if (decide (i < (s.size : Int))) = true then
  if 0 ≤ i ∧ i < (s.size : Int) then
   if ((bt s i) == c1) = true then
    kr true
   else
    kn c1 s (IntKind.wrap .i64 (i + (1 : Int)))
  else
   none
 else
  ko ()
theorem r4_sign_B0_N (n : Nat) {R S : Type} (c1 : Int) (s : BA) (i : Int) (kn : Int → BA → Int → Option R) (ko : (Unit) → Option R) (kr : (Bool) → Option R) (kp : Int → Option R) (φ : R → Option S) : r4_sign_B0 n c1 s i (fun c1 s i => (kn c1 s i).bind φ) (fun a => (ko a).bind φ) (fun a => (kr a).bind φ) (fun a => (kp a).bind φ) = (r4_sign_B0 n c1 s i kn ko kr kp).bind φ := by
  unfold r4_sign_B0
  first | (simp only [dup_self, both_self, iB, bB, oL, oX, nB]) | rfl
def r4_sign_L0 (n : Nat) : Nat → Int → BA → Int → Option (Lx (Unit) (Bool))
  | 0, _, _, _ => none
  | m + 1, c1, s, i => r4_sign_B0 n c1 s i (fun c1 s i => r4_sign_L0 n m c1 s i) (fun a => some (.out a)) (fun a => some (.ret a)) (fun p => some (.pan p))
def r4_sign_L0_sp : List Sl := .dat (.int .u8) :: .top :: .top :: .dat .str :: .dat (.int .i64) :: tp 11 []
def r4_sign_L0_rp : List RS := []
def r4_sign_L0_out_sp : List Sl := tp 16 []
def r4_sign_L0_out_rp : List RS := []
def r4_sign_L0_ret_sp : List Sl := .top :: .top :: .dat .bool :: tp 13 []
def r4_sign_L0_ret_rp : List RS := []
def r4_sign_L0_K (K : XE → List AV → AHeap → Option Out) : Lx (Unit) (Bool) → Option Out := fun x => onL x (fun a => layK r4_sign_L0_out_sp r4_sign_L0_out_rp () () (K (.exit 0))) (fun a => layK r4_sign_L0_ret_sp r4_sign_L0_ret_rp (a, ()) () (K .ret)) (fun _ => none)
def r4_sign_B (n : Nat) {R : Type} (c : Int) (k : Bool → Option R) : Option R :=
 (r4_sign_L0 n n c (⟨#[33, 35, 36, 37, 38, 39, 42, 43, 45, 47, 61, 63, 94, 95, 96, 123, 124, 125, 126]⟩ : BA) (0 : Int)).bind fun x_1 => onL x_1
  (fun a_2 =>
   k false)
  (fun a_3 =>
   k a_3)
  (fun _ => none)
def r4_sign (n : Nat) (c : Int) : Option Bool := r4_sign_B n c some
theorem r4_sign_N (n : Nat) {R S : Type} (c : Int) (k : Bool → Option R) (φ : R → Option S) : r4_sign_B n c (fun a => (k a).bind φ) = (r4_sign_B n c k).bind φ := by
  unfold r4_sign_B
  first | (simp only [dup_self, both_self, iB, bB, oL, oX, nB]) | rfl
def r4_sign_hint (n : Nat) : Hint Out := { live := fun c => (cond (Nat.beq c 0) (lv [0, 3, 4]) []), run := fun c => (cond (Nat.beq c 0) (some (runL r4_sign_L0_sp r4_sign_L0_rp fun σ ρ K => (r4_sign_L0 n n σ.1 σ.2.1 σ.2.2.1).bind (r4_sign_L0_K K))) none), xm := fun c q => (cond (Nat.beq c 0 && Nat.beq (q.getD 1000000) 0 && q.isSome) (some []) (cond (Nat.beq c 1 && q.isNone) (some [(2, none)]) none)) }
def r4_sign_L0_I (n : Nat) (K : XE → List AV → AHeap → Option Out) (m : Nat) (c1 : Int) (s : BA) (i : Int) : Option Out := loopI tys (callees Out (r4_digit_es n)) (r4_sign_hint n) n (codeAt [1, 1, 0, 1, 0, 0] (bodyOf Tryd.f36)) 0 r4_sign_L0_sp r4_sign_L0_rp K m (c1, (s, (i, ()))) ()
theorem r4_sign_L0_E (n : Nat) (K : XE → List AV → AHeap → Option Out) : ∀ (m : Nat) (c1 : Int) (s : BA) (i : Int), r4_sign_L0_I n K m c1 s i = (r4_sign_L0 n m c1 s i).bind (r4_sign_L0_K K)
  | 0, c1, s, i => by kernel_rfl
  | m + 1, c1, s, i => by
    have h1 : r4_sign_L0_I n K (m + 1) c1 s i = r4_sign_B0 n c1 s i (fun c1 s i => r4_sign_L0_I n K m c1 s i) (fun a => r4_sign_L0_K K (.out a)) (fun a => r4_sign_L0_K K (.ret a)) (fun p => r4_sign_L0_K K (.pan p)) := by kernel_rfl
    have h2 : (fun c1 s i => r4_sign_L0_I n K m c1 s i) = (fun c1 s i => (r4_sign_L0 n m c1 s i).bind (r4_sign_L0_K K)) := funext fun c1 => funext fun s => funext fun i => r4_sign_L0_E n K m c1 s i
    exact h1.trans ((congrArg (fun z => r4_sign_B0 n c1 s i z (fun a => r4_sign_L0_K K (.out a)) (fun a => r4_sign_L0_K K (.ret a)) (fun p => r4_sign_L0_K K (.pan p))) h2).trans (r4_sign_B0_N n c1 s i (fun c1 s i => r4_sign_L0 n m c1 s i) (fun a => some (.out a)) (fun a => some (.ret a)) (fun p => some (.pan p)) (r4_sign_L0_K K)))
theorem r4_sign_L0_ok (n : Nat) : RunOk tys (callees Out (r4_digit_es n)) (r4_sign_hint n) n (codeAt [1, 1, 0, 1, 0, 0] (bodyOf Tryd.f36)) 0 := runOk_of (sp := r4_sign_L0_sp) (rp := r4_sign_L0_rp) (F := fun σ ρ K => (r4_sign_L0 n n σ.1 σ.2.1 σ.2.2.1).bind (r4_sign_L0_K K)) (by kernel_rfl) fun K σ ρ => r4_sign_L0_E n K n σ.1 σ.2.1 σ.2.2.1
theorem r4_sign_runs (n : Nat) : RunsOk tys (callees Out (r4_digit_es n)) (r4_sign_hint n) n (bodyOf Tryd.f36) 0 := ⟨trivial, ⟨trivial, ⟨⟨trivial, ⟨r4_sign_L0_ok n, ⟨⟨trivial, ⟨trivial, trivial⟩⟩, ⟨⟨trivial, ⟨⟨trivial, trivial⟩, trivial⟩⟩, trivial⟩⟩⟩⟩, ⟨trivial, trivial⟩⟩⟩⟩
theorem r4_sign_at : Tryd.prog.funcs[36]? = some Tryd.f36 := by kernel_rfl
theorem r4_sign_ent (n : Nat) : Enters Tryd.prog 36 := enters_of (c := bodyOf Tryd.f36) r4_sign_at (by kernel_rfl) (by kernel_rfl)
theorem r4_sign_E (n : Nat) (c : Int) : fnA tys (callees Out (r4_digit_es n)) (r4_sign_hint n) n Tryd.f36 (encL (.pair (.int .u8) .unit) (c, ())) [] (soloA fun v => some (.ret v)) (soloA fun v => some (.pan v)) = r4_sign_B n c (fun y => some (.ret (encR (.one .bool) y))) := by kernel_rfl
def r4_sign_en (n : Nat) : Entry := ⟨36, pcT (.pair (.int .u8) .unit) (.one .bool) (fun xs => r4_sign n xs.1), none, none⟩
theorem r4_sign_ok (n : Nat) : EntryOk Tryd.prog gl (r4_sign_en n) :=
  pcT_ok (r4_sign_ent n) fun xs y h => ans_of_fn tys_ok (r4_digit_es_ok n) mixed (hint := r4_sign_hint n) (n := n) (fn := Tryd.f36) r4_sign_at (runsC (r4_sign_runs n)) (run_ret (φ := (fun y => some (Out.ret (encR (.one .bool) y)))) ((r4_sign_E n xs.1).trans (r4_sign_N (R := Bool) (S := Out) n xs.1 some (fun y => some (Out.ret (encR (.one .bool) y))))) h)
def r4_sign_es (n : Nat) : List Entry := r4_sign_en n :: r4_digit_es n
theorem r4_sign_es_ok (n : Nat) : AllOk Tryd.prog gl (r4_sign_es n) := .cons (r4_sign_ok n) (r4_digit_es_ok n)
/- pouch/pouchref4.plain -/
def r4_plain_B1 (n : Nat) {R : Type} (l1 : (Sq BA)) (i1 : Int) (k0 : Int) (kn : (Sq BA) → Int → Int → Option R) (ko : ((Sq BA) × Int) → Option R) (kr : (Bool) → Option R) (kp : Int → Option R) : Option R :=
 if 0 ≤ i1 ∧ i1 < (l1.n : Int) then
  if (decide (k0 < ((l1.at' (Int.toNat i1)).size : Int))) = true then
   if 0 ≤ i1 ∧ i1 < (l1.n : Int) then
    if 0 ≤ k0 ∧ k0 < ((l1.at' (Int.toNat i1)).size : Int) then
     (r4_letter n (bt (l1.at' (Int.toNat i1)) k0)).bind fun v1 =>
     if (!v1) = true then
      if 0 ≤ i1 ∧ i1 < (l1.n : Int) then
       if 0 ≤ k0 ∧ k0 < ((l1.at' (Int.toNat i1)).size : Int) then
        (r4_digit n (bt (l1.at' (Int.toNat i1)) k0)).bind fun v2 =>
        if (!v2) = true then
         if 0 ≤ i1 ∧ i1 < (l1.n : Int) then
          if 0 ≤ k0 ∧ k0 < ((l1.at' (Int.toNat i1)).size : Int) then
           (r4_sign n (bt (l1.at' (Int.toNat i1)) k0)).bind fun v3 =>
           if (!v3) = true then
            kr false
           else
            kn l1 i1 (IntKind.wrap .i64 (k0 + (1 : Int)))
          else
           none
         else
          none
        else
         kn l1 i1 (IntKind.wrap .i64 (k0 + (1 : Int)))
       else
        none
      else
       none
     else
      kn l1 i1 (IntKind.wrap .i64 (k0 + (1 : Int)))
    else
     none
   else
    none
  else
   ko (l1, i1)
 else
  none
theorem r4_plain_B1_N (n : Nat) {R S : Type} (l1 : (Sq BA)) (i1 : Int) (k0 : Int) (kn : (Sq BA) → Int → Int → Option R) (ko : ((Sq BA) × Int) → Option R) (kr : (Bool) → Option R) (kp : Int → Option R) (φ : R → Option S) : r4_plain_B1 n l1 i1 k0 (fun l1 i1 k0 => (kn l1 i1 k0).bind φ) (fun a => (ko a).bind φ) (fun a => (kr a).bind φ) (fun a => (kp a).bind φ) = (r4_plain_B1 n l1 i1 k0 kn ko kr kp).bind φ := by
  unfold r4_plain_B1
  first | (simp only [dup_self, both_self, iB, bB, oL, oX, nB]) | rfl
def r4_plain_L1 (n : Nat) : Nat → (Sq BA) → Int → Int → Option (Lx ((Sq BA) × Int) (Bool))
  | 0, _, _, _ => none
  | m + 1, l1, i1, k0 => r4_plain_B1 n l1 i1 k0 (fun l1 i1 k0 => r4_plain_L1 n m l1 i1 k0) (fun a => some (.out a)) (fun a => some (.ret a)) (fun p => some (.pan p))
def r4_plain_L1_sp : List Sl := .top :: .top :: .top :: .dat (.sl .str) :: .dat (.int .i64) :: .dat (.int .i64) :: tp 50 []
def r4_plain_L1_rp : List RS := []
def r4_plain_L1_out_sp : List Sl := .top :: .top :: .top :: .dat (.sl .str) :: .dat (.int .i64) :: tp 51 []
def r4_plain_L1_out_rp : List RS := []
def r4_plain_L1_ret_sp : List Sl := .top :: .top :: .dat .bool :: tp 53 []
def r4_plain_L1_ret_rp : List RS := []
def r4_plain_L1_K (K : XE → List AV → AHeap → Option Out) : Lx ((Sq BA) × Int) (Bool) → Option Out := fun x => onL x (fun a => layK r4_plain_L1_out_sp r4_plain_L1_out_rp (a.1, (a.2, ())) () (K (.exit 2))) (fun a => layK r4_plain_L1_ret_sp r4_plain_L1_ret_rp (a, ()) () (K .ret)) (fun _ => none)
def r4_plain_B0 (n : Nat) {R : Type} (l : (Sq BA)) (i : Int) (kn : (Sq BA) → Int → Option R) (ko : (Unit) → Option R) (kr : (Bool) → Option R) (kp : Int → Option R) : Option R :=
 if (decide (i < (l.n : Int))) = true then
  if 0 ≤ i ∧ i < (l.n : Int) then
   if ((l.at' (Int.toNat i)).toList == (⟨#[]⟩ : BA).toList) = true then
    kr false
   else
    (r4_plain_L1 n n l i (0 : Int)).bind fun x_1 => onL x_1
     (fun a_2 =>
      kn a_2.1 (IntKind.wrap .i64 (a_2.2 + (1 : Int))))
     (fun a_3 =>
      kr a_3)
     (fun _ => none)
  else
   none
 else
  ko ()
theorem r4_plain_B0_N (n : Nat) {R S : Type} (l : (Sq BA)) (i : Int) (kn : (Sq BA) → Int → Option R) (ko : (Unit) → Option R) (kr : (Bool) → Option R) (kp : Int → Option R) (φ : R → Option S) : r4_plain_B0 n l i (fun l i => (kn l i).bind φ) (fun a => (ko a).bind φ) (fun a => (kr a).bind φ) (fun a => (kp a).bind φ) = (r4_plain_B0 n l i kn ko kr kp).bind φ := by
  unfold r4_plain_B0
  first | (simp only [dup_self, both_self, iB, bB, oL, oX, nB]) | rfl
def r4_plain_L0 (n : Nat) : Nat → (Sq BA) → Int → Option (Lx (Unit) (Bool))
  | 0, _, _ => none
  | m + 1, l, i => r4_plain_B0 n l i (fun l i => r4_plain_L0 n m l i) (fun a => some (.out a)) (fun a => some (.ret a)) (fun p => some (.pan p))
def r4_plain_L0_sp : List Sl := .top :: .top :: .top :: .dat (.sl .str) :: .dat (.int .i64) :: tp 51 []
def r4_plain_L0_rp : List RS := []
def r4_plain_L0_out_sp : List Sl := tp 56 []
def r4_plain_L0_out_rp : List RS := []
def r4_plain_L0_ret_sp : List Sl := .top :: .top :: .dat .bool :: tp 53 []
def r4_plain_L0_ret_rp : List RS := []
def r4_plain_L0_K (K : XE → List AV → AHeap → Option Out) : Lx (Unit) (Bool) → Option Out := fun x => onL x (fun a => layK r4_plain_L0_out_sp r4_plain_L0_out_rp () () (K (.exit 0))) (fun a => layK r4_plain_L0_ret_sp r4_plain_L0_ret_rp (a, ()) () (K .ret)) (fun _ => none)
def r4_plain_B (n : Nat) {R : Type} (s : BA) (k : Bool → Option R) : Option R :=
 (r0_Split n s (46 : Int)).bind fun v =>
 (r4_plain_L0 n n v (0 : Int)).bind fun x_1 => onL x_1
  (fun a_2 =>
   k true)
  (fun a_3 =>
   k a_3)
  (fun _ => none)
def r4_plain (n : Nat) (s : BA) : Option Bool := r4_plain_B n s some
theorem r4_plain_N (n : Nat) {R S : Type} (s : BA) (k : Bool → Option R) (φ : R → Option S) : r4_plain_B n s (fun a => (k a).bind φ) = (r4_plain_B n s k).bind φ := by
  unfold r4_plain_B
  first | (simp only [dup_self, both_self, iB, bB, oL, oX, nB]) | rfl
def r4_plain_hint (n : Nat) : Hint Out := { live := fun c => (cond (Nat.beq c 0) [(3, some (.sl .str)), (4, none)] (cond (Nat.beq c 2) [(3, some (.sl .str)), (4, none), (5, none)] [])), run := fun c => (cond (Nat.beq c 0) (some (runL r4_plain_L0_sp r4_plain_L0_rp fun σ ρ K => (r4_plain_L0 n n σ.1 σ.2.1).bind (r4_plain_L0_K K))) (cond (Nat.beq c 2) (some (runL r4_plain_L1_sp r4_plain_L1_rp fun σ ρ K => (r4_plain_L1 n n σ.1 σ.2.1 σ.2.2.1).bind (r4_plain_L1_K K))) none)), xm := fun c q => (cond (Nat.beq c 0 && Nat.beq (q.getD 1000000) 0 && q.isSome) (some []) (cond (Nat.beq c 2 && Nat.beq (q.getD 1000000) 2 && q.isSome) (some [(3, some (.sl .str)), (4, none)]) (cond (Nat.beq c 3 && q.isNone) (some [(2, none)]) (cond (Nat.beq c 1 && q.isNone) (some [(2, none)]) none)))) }
def r4_plain_L1_I (n : Nat) (K : XE → List AV → AHeap → Option Out) (m : Nat) (l1 : (Sq BA)) (i1 : Int) (k0 : Int) : Option Out := loopI tys (callees Out (r4_sign_es n)) (r4_plain_hint n) n (codeAt [1, 1, 0, 1, 0, 0, 1, 0, 0, 1, 1, 0, 0] (bodyOf Tryd.f25)) 2 r4_plain_L1_sp r4_plain_L1_rp K m (l1, (i1, (k0, ()))) ()
theorem r4_plain_L1_E (n : Nat) (K : XE → List AV → AHeap → Option Out) : ∀ (m : Nat) (l1 : (Sq BA)) (i1 : Int) (k0 : Int), r4_plain_L1_I n K m l1 i1 k0 = (r4_plain_L1 n m l1 i1 k0).bind (r4_plain_L1_K K)
  | 0, l1, i1, k0 => by kernel_rfl
  | m + 1, l1, i1, k0 => by
    have h1 : r4_plain_L1_I n K (m + 1) l1 i1 k0 = r4_plain_B1 n l1 i1 k0 (fun l1 i1 k0 => r4_plain_L1_I n K m l1 i1 k0) (fun a => r4_plain_L1_K K (.out a)) (fun a => r4_plain_L1_K K (.ret a)) (fun p => r4_plain_L1_K K (.pan p)) := by kernel_rfl
    have h2 : (fun l1 i1 k0 => r4_plain_L1_I n K m l1 i1 k0) = (fun l1 i1 k0 => (r4_plain_L1 n m l1 i1 k0).bind (r4_plain_L1_K K)) := funext fun l1 => funext fun i1 => funext fun k0 => r4_plain_L1_E n K m l1 i1 k0
    exact h1.trans ((congrArg (fun z => r4_plain_B1 n l1 i1 k0 z (fun a => r4_plain_L1_K K (.out a)) (fun a => r4_plain_L1_K K (.ret a)) (fun p => r4_plain_L1_K K (.pan p))) h2).trans (r4_plain_B1_N n l1 i1 k0 (fun l1 i1 k0 => r4_plain_L1 n m l1 i1 k0) (fun a => some (.out a)) (fun a => some (.ret a)) (fun p => some (.pan p)) (r4_plain_L1_K K)))
theorem r4_plain_L1_ok (n : Nat) : RunOk tys (callees Out (r4_sign_es n)) (r4_plain_hint n) n (codeAt [1, 1, 0, 1, 0, 0, 1, 0, 0, 1, 1, 0, 0] (bodyOf Tryd.f25)) 2 := runOk_of (sp := r4_plain_L1_sp) (rp := r4_plain_L1_rp) (F := fun σ ρ K => (r4_plain_L1 n n σ.1 σ.2.1 σ.2.2.1).bind (r4_plain_L1_K K)) (by kernel_rfl) fun K σ ρ => r4_plain_L1_E n K n σ.1 σ.2.1 σ.2.2.1
def r4_plain_L0_I (n : Nat) (K : XE → List AV → AHeap → Option Out) (m : Nat) (l : (Sq BA)) (i : Int) : Option Out := loopI tys (callees Out (r4_sign_es n)) (r4_plain_hint n) n (codeAt [1, 1, 0, 1, 0, 0] (bodyOf Tryd.f25)) 0 r4_plain_L0_sp r4_plain_L0_rp K m (l, (i, ())) ()
theorem r4_plain_L0_E (n : Nat) (K : XE → List AV → AHeap → Option Out) : ∀ (m : Nat) (l : (Sq BA)) (i : Int), r4_plain_L0_I n K m l i = (r4_plain_L0 n m l i).bind (r4_plain_L0_K K)
  | 0, l, i => by kernel_rfl
  | m + 1, l, i => by
    have h1 : r4_plain_L0_I n K (m + 1) l i = r4_plain_B0 n l i (fun l i => r4_plain_L0_I n K m l i) (fun a => r4_plain_L0_K K (.out a)) (fun a => r4_plain_L0_K K (.ret a)) (fun p => r4_plain_L0_K K (.pan p)) := by kernel_rfl
    have h2 : (fun l i => r4_plain_L0_I n K m l i) = (fun l i => (r4_plain_L0 n m l i).bind (r4_plain_L0_K K)) := funext fun l => funext fun i => r4_plain_L0_E n K m l i
    exact h1.trans ((congrArg (fun z => r4_plain_B0 n l i z (fun a => r4_plain_L0_K K (.out a)) (fun a => r4_plain_L0_K K (.ret a)) (fun p => r4_plain_L0_K K (.pan p))) h2).trans (r4_plain_B0_N n l i (fun l i => r4_plain_L0 n m l i) (fun a => some (.out a)) (fun a => some (.ret a)) (fun p => some (.pan p)) (r4_plain_L0_K K)))
theorem r4_plain_L0_ok (n : Nat) : RunOk tys (callees Out (r4_sign_es n)) (r4_plain_hint n) n (codeAt [1, 1, 0, 1, 0, 0] (bodyOf Tryd.f25)) 0 := runOk_of (sp := r4_plain_L0_sp) (rp := r4_plain_L0_rp) (F := fun σ ρ K => (r4_plain_L0 n n σ.1 σ.2.1).bind (r4_plain_L0_K K)) (by kernel_rfl) fun K σ ρ => r4_plain_L0_E n K n σ.1 σ.2.1
theorem r4_plain_runs (n : Nat) : RunsOk tys (callees Out (r4_sign_es n)) (r4_plain_hint n) n (bodyOf Tryd.f25) 0 := ⟨trivial, ⟨trivial, ⟨⟨trivial, ⟨r4_plain_L0_ok n, ⟨⟨trivial, ⟨trivial, trivial⟩⟩, ⟨⟨⟨trivial, ⟨⟨trivial, trivial⟩, trivial⟩⟩, ⟨trivial, ⟨r4_plain_L1_ok n, ⟨⟨trivial, ⟨trivial, trivial⟩⟩, ⟨⟨trivial, ⟨⟨trivial, trivial⟩, trivial⟩⟩, trivial⟩⟩⟩⟩⟩, trivial⟩⟩⟩⟩, ⟨trivial, trivial⟩⟩⟩⟩
theorem r4_plain_at : Tryd.prog.funcs[25]? = some Tryd.f25 := by kernel_rfl
theorem r4_plain_ent (n : Nat) : Enters Tryd.prog 25 := enters_of (c := bodyOf Tryd.f25) r4_plain_at (by kernel_rfl) (by kernel_rfl)
theorem r4_plain_E (n : Nat) (s : BA) : fnA tys (callees Out (r4_sign_es n)) (r4_plain_hint n) n Tryd.f25 (encL (.pair .str .unit) (s, ())) [] (soloA fun v => some (.ret v)) (soloA fun v => some (.pan v)) = r4_plain_B n s (fun y => some (.ret (encR (.one .bool) y))) := by kernel_rfl
def r4_plain_en (n : Nat) : Entry := ⟨25, pcT (.pair .str .unit) (.one .bool) (fun xs => r4_plain n xs.1), none, none⟩
theorem r4_plain_ok (n : Nat) : EntryOk Tryd.prog gl (r4_plain_en n) :=
  pcT_ok (r4_plain_ent n) fun xs y h => ans_of_fn tys_ok (r4_sign_es_ok n) mixed (hint := r4_plain_hint n) (n := n) (fn := Tryd.f25) r4_plain_at (runsC (r4_plain_runs n)) (run_ret (φ := (fun y => some (Out.ret (encR (.one .bool) y)))) ((r4_plain_E n xs.1).trans (r4_plain_N (R := Bool) (S := Out) n xs.1 some (fun y => some (Out.ret (encR (.one .bool) y))))) h)
def r4_plain_es (n : Nat) : List Entry := r4_plain_en n :: r4_sign_es n
theorem r4_plain_es_ok (n : Nat) : AllOk Tryd.prog gl (r4_plain_es n) := .cons (r4_plain_ok n) (r4_sign_es_ok n)
/- pouch/pouchref0.Lower -/
def r0_Lower_B0 (n : Nat) {R : Type} (i : Int) (b : (Sq Int)) (kn : Int → (Sq Int) → Option R) (ko : ((Sq Int)) → Option R) (kr : Unit → Option R) (kp : Int → Option R) : Option R :=
 if (decide (i < (b.n : Int))) = true then
  if 0 ≤ i ∧ i < (b.n : Int) then
   if (decide ((b.at' (Int.toNat i)) ≥ (65 : Int))) = true then
    if 0 ≤ i ∧ i < (b.n : Int) then
     if (decide ((b.at' (Int.toNat i)) ≤ (90 : Int))) = true then
      if 0 ≤ i ∧ i < (b.n : Int) then
       if 0 ≤ i ∧ i < (b.n : Int) then
        kn (IntKind.wrap .i64 (i + (1 : Int))) (⟨b.n, fun q => if q = (Int.toNat i) ∧ q < b.n then (IntKind.wrap .u8 ((b.at' (Int.toNat i)) + (32 : Int))) else b.at' q⟩ : Sq Int)
       else
        none
      else
       none
     else
      kn (IntKind.wrap .i64 (i + (1 : Int))) b
    else
     none
   else
    kn (IntKind.wrap .i64 (i + (1 : Int))) b
  else
   none
 else
  ko b
theorem r0_Lower_B0_N (n : Nat) {R S : Type} (i : Int) (b : (Sq Int)) (kn : Int → (Sq Int) → Option R) (ko : ((Sq Int)) → Option R) (kr : Unit → Option R) (kp : Int → Option R) (φ : R → Option S) : r0_Lower_B0 n i b (fun i b => (kn i b).bind φ) (fun a => (ko a).bind φ) (fun a => (kr a).bind φ) (fun a => (kp a).bind φ) = (r0_Lower_B0 n i b kn ko kr kp).bind φ := by
  unfold r0_Lower_B0
  first | (simp only [dup_self, both_self, iB, bB, oL, oX, nB]) | rfl
def r0_Lower_L0 (n : Nat) : Nat → Int → (Sq Int) → Option (Lx ((Sq Int)) Unit)
  | 0, _, _ => none
  | m + 1, i, b => r0_Lower_B0 n i b (fun i b => r0_Lower_L0 n m i b) (fun a => some (.out a)) (fun a => some (.ret a)) (fun p => some (.pan p))
def r0_Lower_L0_sp : List Sl := .top :: .top :: .top :: .row 0 :: .dat (.int .i64) :: tp 30 []
def r0_Lower_L0_rp : List RS := [.row 5 1 (.int .u8) false true]
def r0_Lower_L0_out_sp : List Sl := .top :: .top :: .top :: .row 0 :: tp 31 []
def r0_Lower_L0_out_rp : List RS := [.row 5 1 (.int .u8) false true]
def r0_Lower_L0_K (K : XE → List AV → AHeap → Option Out) : Lx ((Sq Int)) Unit → Option Out := fun x => onL x (fun a => layK r0_Lower_L0_out_sp r0_Lower_L0_out_rp () (a, ()) (K (.exit 0))) (fun _ => none) (fun _ => none)
def r0_Lower_B (n : Nat) {R : Type} (s : BA) (k : BA → Option R) : Option R :=
 (r0_Lower_L0 n n (0 : Int) (⟨s.size, fun q => bt s q⟩ : Sq Int)).bind fun x_1 => onL x_1
  (fun a_2 =>
   k (strOf a_2.n a_2.at'))
  (fun _ => none)
  (fun _ => none)
def r0_Lower (n : Nat) (s : BA) : Option BA := r0_Lower_B n s some
theorem r0_Lower_N (n : Nat) {R S : Type} (s : BA) (k : BA → Option R) (φ : R → Option S) : r0_Lower_B n s (fun a => (k a).bind φ) = (r0_Lower_B n s k).bind φ := by
  unfold r0_Lower_B
  first | (simp only [dup_self, both_self, iB, bB, oL, oX, nB]) | rfl
def r0_Lower_hint (n : Nat) : Hint Out := { live := fun c => (cond (Nat.beq c 0) [(3, some (.sl (.int .u8))), (4, none)] []), run := fun c => (cond (Nat.beq c 0) (some (runL r0_Lower_L0_sp r0_Lower_L0_rp fun σ ρ K => (r0_Lower_L0 n n σ.1 ρ.1).bind (r0_Lower_L0_K K))) none), xm := fun c q => (cond (Nat.beq c 0 && Nat.beq (q.getD 1000000) 0 && q.isSome) (some [(3, some (.sl (.int .u8)))]) none) }
def r0_Lower_L0_I (n : Nat) (K : XE → List AV → AHeap → Option Out) (m : Nat) (i : Int) (b : (Sq Int)) : Option Out := loopI tys (callees Out (r4_plain_es n)) (r0_Lower_hint n) n (codeAt [1, 1, 0, 1, 0, 0] (bodyOf Tryd.f26)) 0 r0_Lower_L0_sp r0_Lower_L0_rp K m (i, ()) (b, ())
theorem r0_Lower_L0_E (n : Nat) (K : XE → List AV → AHeap → Option Out) : ∀ (m : Nat) (i : Int) (b : (Sq Int)), r0_Lower_L0_I n K m i b = (r0_Lower_L0 n m i b).bind (r0_Lower_L0_K K)
  | 0, i, b => by kernel_rfl
  | m + 1, i, b => by
    have h1 : r0_Lower_L0_I n K (m + 1) i b = r0_Lower_B0 n i b (fun i b => r0_Lower_L0_I n K m i b) (fun a => r0_Lower_L0_K K (.out a)) (fun a => r0_Lower_L0_K K (.ret a)) (fun p => r0_Lower_L0_K K (.pan p)) := by kernel_rfl
    have h2 : (fun i b => r0_Lower_L0_I n K m i b) = (fun i b => (r0_Lower_L0 n m i b).bind (r0_Lower_L0_K K)) := funext fun i => funext fun b => r0_Lower_L0_E n K m i b
    exact h1.trans ((congrArg (fun z => r0_Lower_B0 n i b z (fun a => r0_Lower_L0_K K (.out a)) (fun a => r0_Lower_L0_K K (.ret a)) (fun p => r0_Lower_L0_K K (.pan p))) h2).trans (r0_Lower_B0_N n i b (fun i b => r0_Lower_L0 n m i b) (fun a => some (.out a)) (fun a => some (.ret a)) (fun p => some (.pan p)) (r0_Lower_L0_K K)))
theorem r0_Lower_L0_ok (n : Nat) : RunOk tys (callees Out (r4_plain_es n)) (r0_Lower_hint n) n (codeAt [1, 1, 0, 1, 0, 0] (bodyOf Tryd.f26)) 0 := runOk_of (sp := r0_Lower_L0_sp) (rp := r0_Lower_L0_rp) (F := fun σ ρ K => (r0_Lower_L0 n n σ.1 ρ.1).bind (r0_Lower_L0_K K)) (by kernel_rfl) fun K σ ρ => r0_Lower_L0_E n K n σ.1 ρ.1
theorem r0_Lower_runs (n : Nat) : RunsOk tys (callees Out (r4_plain_es n)) (r0_Lower_hint n) n (bodyOf Tryd.f26) 0 := ⟨trivial, ⟨trivial, ⟨⟨trivial, ⟨r0_Lower_L0_ok n, ⟨⟨trivial, ⟨trivial, trivial⟩⟩, ⟨⟨trivial, ⟨trivial, trivial⟩⟩, trivial⟩⟩⟩⟩, ⟨trivial, trivial⟩⟩⟩⟩
theorem r0_Lower_at : Tryd.prog.funcs[26]? = some Tryd.f26 := by kernel_rfl
theorem r0_Lower_ent (n : Nat) : Enters Tryd.prog 26 := enters_of (c := bodyOf Tryd.f26) r0_Lower_at (by kernel_rfl) (by kernel_rfl)
theorem r0_Lower_E (n : Nat) (s : BA) : fnA tys (callees Out (r4_plain_es n)) (r0_Lower_hint n) n Tryd.f26 (encL (.pair .str .unit) (s, ())) [] (soloA fun v => some (.ret v)) (soloA fun v => some (.pan v)) = r0_Lower_B n s (fun y => some (.ret (encR (.one .str) y))) := by kernel_rfl
def r0_Lower_en (n : Nat) : Entry := ⟨26, pcT (.pair .str .unit) (.one .str) (fun xs => r0_Lower n xs.1), none, none⟩
theorem r0_Lower_ok (n : Nat) : EntryOk Tryd.prog gl (r0_Lower_en n) :=
  pcT_ok (r0_Lower_ent n) fun xs y h => ans_of_fn tys_ok (r4_plain_es_ok n) mixed (hint := r0_Lower_hint n) (n := n) (fn := Tryd.f26) r0_Lower_at (runsC (r0_Lower_runs n)) (run_ret (φ := (fun y => some (Out.ret (encR (.one .str) y)))) ((r0_Lower_E n xs.1).trans (r0_Lower_N (R := BA) (S := Out) n xs.1 some (fun y => some (Out.ret (encR (.one .str) y))))) h)
def r0_Lower_es (n : Nat) : List Entry := r0_Lower_en n :: r4_plain_es n
theorem r0_Lower_es_ok (n : Nat) : AllOk Tryd.prog gl (r0_Lower_es n) := .cons (r0_Lower_ok n) (r4_plain_es_ok n)
/- pouch/pouchref4.Local -/
def r4_Local_B (n : Nat) {R : Type} (s : BA) (k : Bool → Option R) : Option R :=
 if (decide ((s.size : Int) < (1 : Int))) = false then
  if (decide ((s.size : Int) > (64 : Int))) = true then
   k false
  else
   if 0 ≤ (0 : Int) ∧ (0 : Int) < (s.size : Int) then
    if ((bt s (0 : Int)) != (34 : Int)) = true then
     (r4_plain n s).bind fun v =>
     k v
    else
     (r4_inner n s).bind fun v1 =>
     if v1.2.2.1 = true then
      if (v1.2.1 == (s.size : Int)) = true then
       (r4_plain n v1.1).bind fun v2 =>
       if (!v2) = true then
        (r4_quote n v1.1).bind fun v3 =>
        k (v3.toList == s.toList)
       else
        k false
      else
       k false
     else
      k false
   else
    none
 else
  k false
def r4_Local (n : Nat) (s : BA) : Option Bool := r4_Local_B n s some
theorem r4_Local_N (n : Nat) {R S : Type} (s : BA) (k : Bool → Option R) (φ : R → Option S) : r4_Local_B n s (fun a => (k a).bind φ) = (r4_Local_B n s k).bind φ := by
  unfold r4_Local_B
  first | (simp only [dup_self, both_self, iB, bB, oL, oX, nB]) | rfl
def r4_Local_hint (n : Nat) : Hint Out := { live := fun c => [], run := fun c => none, xm := fun c q => none }
theorem r4_Local_runs (n : Nat) : RunsOk tys (callees Out (r0_Lower_es n)) (r4_Local_hint n) n (bodyOf Tryd.f17) 0 := runs_noloop (fun _ => rfl) _ _ (by kernel_rfl)
theorem r4_Local_at : Tryd.prog.funcs[17]? = some Tryd.f17 := by kernel_rfl
theorem r4_Local_ent (n : Nat) : Enters Tryd.prog 17 := enters_of (c := bodyOf Tryd.f17) r4_Local_at (by kernel_rfl) (by kernel_rfl)
theorem r4_Local_E (n : Nat) (s : BA) : fnA tys (callees Out (r0_Lower_es n)) (r4_Local_hint n) n Tryd.f17 (encL (.pair .str .unit) (s, ())) [] (soloA fun v => some (.ret v)) (soloA fun v => some (.pan v)) = r4_Local_B n s (fun y => some (.ret (encR (.one .bool) y))) := by kernel_rfl
def r4_Local_en (n : Nat) : Entry := ⟨17, pcT (.pair .str .unit) (.one .bool) (fun xs => r4_Local n xs.1), none, none⟩
theorem r4_Local_ok (n : Nat) : EntryOk Tryd.prog gl (r4_Local_en n) :=
  pcT_ok (r4_Local_ent n) fun xs y h => ans_of_fn tys_ok (r0_Lower_es_ok n) mixed (hint := r4_Local_hint n) (n := n) (fn := Tryd.f17) r4_Local_at (runsC (r4_Local_runs n)) (run_ret (φ := (fun y => some (Out.ret (encR (.one .bool) y)))) ((r4_Local_E n xs.1).trans (r4_Local_N (R := Bool) (S := Out) n xs.1 some (fun y => some (Out.ret (encR (.one .bool) y))))) h)
def r4_Local_es (n : Nat) : List Entry := r4_Local_en n :: r0_Lower_es n
theorem r4_Local_es_ok (n : Nat) : AllOk Tryd.prog gl (r4_Local_es n) := .cons (r4_Local_ok n) (r0_Lower_es_ok n)
/- pouch/pouchref0.Value -/
def r0_Value_B0 (n : Nat) {R : Type} (s1 : BA) (n0 : Int) (i : Int) (kn : BA → Int → Int → Option R) (ko : (Int) → Option R) (kr : (Int × Bool) → Option R) (kp : Int → Option R) : Option R :=
 if (decide (i < (s1.size : Int))) = true then
  if 0 ≤ i ∧ i < (s1.size : Int) then
   if (decide ((bt s1 i) < (48 : Int))) = false then
    if 0 ≤ i ∧ i < (s1.size : Int) then
     if (decide ((bt s1 i) > (57 : Int))) = true then
      kr ((0 : Int), false)
     else
      if 0 ≤ i ∧ i < (s1.size : Int) then
       kn s1 (IntKind.wrap .i64 ((IntKind.wrap .i64 ((10 : Int) * n0)) + (IntKind.wrap .i64 (IntKind.wrap .u8 ((bt s1 i) - (48 : Int)))))) (IntKind.wrap .i64 (i + (1 : Int)))
      else
       none
    else
     none
   else
    kr ((0 : Int), false)
  else
   none
 else
  ko n0
theorem r0_Value_B0_N (n : Nat) {R S : Type} (s1 : BA) (n0 : Int) (i : Int) (kn : BA → Int → Int → Option R) (ko : (Int) → Option R) (kr : (Int × Bool) → Option R) (kp : Int → Option R) (φ : R → Option S) : r0_Value_B0 n s1 n0 i (fun s1 n0 i => (kn s1 n0 i).bind φ) (fun a => (ko a).bind φ) (fun a => (kr a).bind φ) (fun a => (kp a).bind φ) = (r0_Value_B0 n s1 n0 i kn ko kr kp).bind φ := by
  unfold r0_Value_B0
  first | (simp only [dup_self, both_self, iB, bB, oL, oX, nB]) | rfl
def r0_Value_L0 (n : Nat) : Nat → BA → Int → Int → Option (Lx (Int) (Int × Bool))
  | 0, _, _, _ => none
  | m + 1, s1, n0, i => r0_Value_B0 n s1 n0 i (fun s1 n0 i => r0_Value_L0 n m s1 n0 i) (fun a => some (.out a)) (fun a => some (.ret a)) (fun p => some (.pan p))
def r0_Value_L0_sp : List Sl := .dat .str :: .top :: .top :: .top :: .dat (.int .i64) :: .dat (.int .i64) :: tp 42 []
def r0_Value_L0_rp : List RS := []
def r0_Value_L0_out_sp : List Sl := tp 4 (.dat (.int .i64) :: tp 43 [])
def r0_Value_L0_out_rp : List RS := []
def r0_Value_L0_ret_sp : List Sl := .top :: .top :: .dat (.int .i64) :: .dat .bool :: tp 44 []
def r0_Value_L0_ret_rp : List RS := []
def r0_Value_L0_K (K : XE → List AV → AHeap → Option Out) : Lx (Int) (Int × Bool) → Option Out := fun x => onL x (fun a => layK r0_Value_L0_out_sp r0_Value_L0_out_rp (a, ()) () (K (.exit 0))) (fun a => layK r0_Value_L0_ret_sp r0_Value_L0_ret_rp (a.1, (a.2, ())) () (K .ret)) (fun _ => none)
def r0_Value_B (n : Nat) {R : Type} (s : BA) (k : (Int × Bool × Unit) → Option R) : Option R :=
 if (s.toList == (⟨#[]⟩ : BA).toList) = false then
  if (decide ((s.size : Int) > (16 : Int))) = false then
   if (decide ((s.size : Int) > (1 : Int))) = true then
    if 0 ≤ (0 : Int) ∧ (0 : Int) < (s.size : Int) then
     if ((bt s (0 : Int)) == (48 : Int)) = true then
      k ((0 : Int), (false, ()))
     else
      (r0_Value_L0 n n s (0 : Int) (0 : Int)).bind fun x_1 => onL x_1
       (fun a_2 =>
        k (a_2, (true, ())))
       (fun a_3 =>
        k (a_3.1, (a_3.2, ())))
       (fun _ => none)
    else
     none
   else
    (r0_Value_L0 n n s (0 : Int) (0 : Int)).bind fun x_4 => onL x_4
     (fun a_5 =>
      k (a_5, (true, ())))
     (fun a_6 =>
      k (a_6.1, (a_6.2, ())))
     (fun _ => none)
  else
   k ((0 : Int), (false, ()))
 else
  k ((0 : Int), (false, ()))
def r0_Value (n : Nat) (s : BA) : Option (Int × Bool × Unit) := r0_Value_B n s some
theorem r0_Value_N (n : Nat) {R S : Type} (s : BA) (k : (Int × Bool × Unit) → Option R) (φ : R → Option S) : r0_Value_B n s (fun a => (k a).bind φ) = (r0_Value_B n s k).bind φ := by
  unfold r0_Value_B
  first | (simp only [dup_self, both_self, iB, bB, oL, oX, nB]) | rfl
def r0_Value_hint (n : Nat) : Hint Out := { live := fun c => (cond (Nat.beq c 0) (lv [0, 4, 5]) []), run := fun c => (cond (Nat.beq c 0) (some (runL r0_Value_L0_sp r0_Value_L0_rp fun σ ρ K => (r0_Value_L0 n n σ.1 σ.2.1 σ.2.2.1).bind (r0_Value_L0_K K))) none), xm := fun c q => (cond (Nat.beq c 0 && Nat.beq (q.getD 1000000) 0 && q.isSome) (some [(4, none)]) (cond (Nat.beq c 1 && q.isNone) (some [(2, none), (3, none)]) none)) }
def r0_Value_L0_I (n : Nat) (K : XE → List AV → AHeap → Option Out) (m : Nat) (s1 : BA) (n0 : Int) (i : Int) : Option Out := loopI tys (callees Out (r4_Local_es n)) (r0_Value_hint n) n (codeAt [1, 1, 1, 0, 1, 0, 0] (bodyOf Tryd.f37)) 0 r0_Value_L0_sp r0_Value_L0_rp K m (s1, (n0, (i, ()))) ()
theorem r0_Value_L0_E (n : Nat) (K : XE → List AV → AHeap → Option Out) : ∀ (m : Nat) (s1 : BA) (n0 : Int) (i : Int), r0_Value_L0_I n K m s1 n0 i = (r0_Value_L0 n m s1 n0 i).bind (r0_Value_L0_K K)
  | 0, s1, n0, i => by kernel_rfl
  | m + 1, s1, n0, i => by
    have h1 : r0_Value_L0_I n K (m + 1) s1 n0 i = r0_Value_B0 n s1 n0 i (fun s1 n0 i => r0_Value_L0_I n K m s1 n0 i) (fun a => r0_Value_L0_K K (.out a)) (fun a => r0_Value_L0_K K (.ret a)) (fun p => r0_Value_L0_K K (.pan p)) := by kernel_rfl
    have h2 : (fun s1 n0 i => r0_Value_L0_I n K m s1 n0 i) = (fun s1 n0 i => (r0_Value_L0 n m s1 n0 i).bind (r0_Value_L0_K K)) := funext fun s1 => funext fun n0 => funext fun i => r0_Value_L0_E n K m s1 n0 i
    exact h1.trans ((congrArg (fun z => r0_Value_B0 n s1 n0 i z (fun a => r0_Value_L0_K K (.out a)) (fun a => r0_Value_L0_K K (.ret a)) (fun p => r0_Value_L0_K K (.pan p))) h2).trans (r0_Value_B0_N n s1 n0 i (fun s1 n0 i => r0_Value_L0 n m s1 n0 i) (fun a => some (.out a)) (fun a => some (.ret a)) (fun p => some (.pan p)) (r0_Value_L0_K K)))
theorem r0_Value_L0_ok (n : Nat) : RunOk tys (callees Out (r4_Local_es n)) (r0_Value_hint n) n (codeAt [1, 1, 1, 0, 1, 0, 0] (bodyOf Tryd.f37)) 0 := runOk_of (sp := r0_Value_L0_sp) (rp := r0_Value_L0_rp) (F := fun σ ρ K => (r0_Value_L0 n n σ.1 σ.2.1 σ.2.2.1).bind (r0_Value_L0_K K)) (by kernel_rfl) fun K σ ρ => r0_Value_L0_E n K n σ.1 σ.2.1 σ.2.2.1
theorem r0_Value_runs (n : Nat) : RunsOk tys (callees Out (r4_Local_es n)) (r0_Value_hint n) n (bodyOf Tryd.f37) 0 := ⟨trivial, ⟨⟨trivial, ⟨⟨trivial, trivial⟩, trivial⟩⟩, ⟨trivial, ⟨⟨trivial, ⟨r0_Value_L0_ok n, ⟨⟨trivial, ⟨trivial, trivial⟩⟩, ⟨⟨⟨trivial, ⟨⟨trivial, trivial⟩, trivial⟩⟩, trivial⟩, trivial⟩⟩⟩⟩, ⟨trivial, trivial⟩⟩⟩⟩⟩
theorem r0_Value_at : Tryd.prog.funcs[37]? = some Tryd.f37 := by kernel_rfl
theorem r0_Value_ent (n : Nat) : Enters Tryd.prog 37 := enters_of (c := bodyOf Tryd.f37) r0_Value_at (by kernel_rfl) (by kernel_rfl)
theorem r0_Value_E (n : Nat) (s : BA) : fnA tys (callees Out (r4_Local_es n)) (r0_Value_hint n) n Tryd.f37 (encL (.pair .str .unit) (s, ())) [] (soloA fun v => some (.ret v)) (soloA fun v => some (.pan v)) = r0_Value_B n s (fun y => some (.ret (encR (.many (.pair (.int .i64) (.pair .bool .unit))) y))) := by kernel_rfl
def r0_Value_en (n : Nat) : Entry := ⟨37, pcT (.pair .str .unit) (.many (.pair (.int .i64) (.pair .bool .unit))) (fun xs => r0_Value n xs.1), none, none⟩
theorem r0_Value_ok (n : Nat) : EntryOk Tryd.prog gl (r0_Value_en n) :=
  pcT_ok (r0_Value_ent n) fun xs y h => ans_of_fn tys_ok (r4_Local_es_ok n) mixed (hint := r0_Value_hint n) (n := n) (fn := Tryd.f37) r0_Value_at (runsC (r0_Value_runs n)) (run_ret (φ := (fun y => some (Out.ret (encR (.many (.pair (.int .i64) (.pair .bool .unit))) y)))) ((r0_Value_E n xs.1).trans (r0_Value_N (R := (Int × Bool × Unit)) (S := Out) n xs.1 some (fun y => some (Out.ret (encR (.many (.pair (.int .i64) (.pair .bool .unit))) y))))) h)
def r0_Value_es (n : Nat) : List Entry := r0_Value_en n :: r4_Local_es n
theorem r0_Value_es_ok (n : Nat) : AllOk Tryd.prog gl (r0_Value_es n) := .cons (r0_Value_ok n) (r4_Local_es_ok n)
end
end Go.Proofs.YtpgboapflbpieaaDoor.AM
