/- Typed functions that tell what the Go functions of this seat answer, and proofs of it, by program (gen.py). -/
import Derived.Test.YthmhobnhladhbaaDoorTys
import Derived.Test.YthmhobnhladhbaaDoorAm21
import Derived.Test.YthmhobnhladhbaaDoorLib
import Derived.Test.YthmhobnhladhbaaDoorDom
set_option linter.all false
set_option maxRecDepth 1000000
set_option maxHeartbeats 0
namespace Go.Proofs.YthmhobnhladhbaaDoor.AM
open Go Go.RowKit
def es_0 (n : Nat) : List Entry := []
theorem es_0_ok (n : Nat) : AllOk Tryd.prog gl (es_0 n) := .nil

/- internal/stringslite.HasPrefix -/
def internal_stringslite_HasPrefix_B (n : Nat) {R : Type} (s : ByteArray) (prefix0 : ByteArray) (k : Bool → Option R) : Option R :=
  if (decide ((s.size : Int) ≥ (prefix0.size : Int))) = true then
    if 0 ≤ (prefix0.size : Int) ∧ (prefix0.size : Int) ≤ (s.size : Int) then
      k ((s.extract (Int.toNat (0 : Int)) (Int.toNat (prefix0.size : Int))).toList == prefix0.toList)
    else
      none
  else
    k false
def internal_stringslite_HasPrefix (n : Nat) (s : ByteArray) (prefix0 : ByteArray) : Option Bool := internal_stringslite_HasPrefix_B n s prefix0 some
theorem internal_stringslite_HasPrefix_N (n : Nat) {R S : Type} (s : ByteArray) (prefix0 : ByteArray) (k : Bool → Option R) (φ : R → Option S) : internal_stringslite_HasPrefix_B n s prefix0 (fun a => (k a).bind φ) = (internal_stringslite_HasPrefix_B n s prefix0 k).bind φ := by
  unfold internal_stringslite_HasPrefix_B
  first | (simp only [ite_bind, bind_bind, onL_bind, onX_bind, none_bind]) | rfl
def internal_stringslite_HasPrefix_hint (n : Nat) : Hint Out := { live := fun c => [], run := fun c => none, xm := fun c q => none }
theorem internal_stringslite_HasPrefix_runs (n : Nat) : RunsOk tys (callees Out (es_0 n)) (internal_stringslite_HasPrefix_hint n) n (bodyOf Tryd.f53) 0 := ⟨trivial, ⟨trivial, trivial⟩⟩
theorem internal_stringslite_HasPrefix_at : Tryd.prog.funcs[53]? = some Tryd.f53 := by kernel_rfl
theorem internal_stringslite_HasPrefix_ent (n : Nat) : Enters Tryd.prog 53 := enters_of (c := bodyOf Tryd.f53) internal_stringslite_HasPrefix_at (by kernel_rfl) (by kernel_rfl)
theorem internal_stringslite_HasPrefix_E (n : Nat) (s : ByteArray) (prefix0 : ByteArray) : fnA tys (callees Out (es_0 n)) (internal_stringslite_HasPrefix_hint n) n Tryd.f53 (encL (.pair .str (.pair .str .unit)) (s, (prefix0, ()))) [] (soloA fun v => some (.ret v)) (soloA fun v => some (.pan v)) = internal_stringslite_HasPrefix_B n s prefix0 (fun y => some (.ret (encR (.one .bool) y))) := by kernel_rfl
theorem internal_stringslite_HasPrefix_ok (n : Nat) : EntryOk Tryd.prog gl ⟨53, pcT (.pair .str (.pair .str .unit)) (.one .bool) (fun xs => internal_stringslite_HasPrefix n xs.1 xs.2.1), none, none⟩ :=
  pcT_ok (internal_stringslite_HasPrefix_ent n) fun xs y h => ans_of_fn tys_ok (es_0_ok n) mixed (hint := internal_stringslite_HasPrefix_hint n) (n := n) (fn := Tryd.f53) internal_stringslite_HasPrefix_at (fun c hc => by
    have : bodyOf Tryd.f53 = c := by unfold bodyOf; rw [hc]; rfl
    exact this ▸ internal_stringslite_HasPrefix_runs n) (run_ret (φ := (fun y => some (Out.ret (encR (.one .bool) y)))) ((internal_stringslite_HasPrefix_E n xs.1 xs.2.1).trans (internal_stringslite_HasPrefix_N (R := Bool) (S := Out) n xs.1 xs.2.1 some (fun y => some (Out.ret (encR (.one .bool) y))))) h)
def internal_stringslite_HasPrefix_es (n : Nat) : List Entry := ⟨53, pcT (.pair .str (.pair .str .unit)) (.one .bool) (fun xs => internal_stringslite_HasPrefix n xs.1 xs.2.1), none, none⟩ :: es_0 n
theorem internal_stringslite_HasPrefix_es_ok (n : Nat) : AllOk Tryd.prog gl (internal_stringslite_HasPrefix_es n) := .cons (internal_stringslite_HasPrefix_ok n) (es_0_ok n)

/- strings.HasPrefix -/
def strings_HasPrefix_B (n : Nat) {R : Type} (s : ByteArray) (prefix0 : ByteArray) (k : Bool → Option R) : Option R :=
  (internal_stringslite_HasPrefix n s prefix0).bind fun v =>
  k v
def strings_HasPrefix (n : Nat) (s : ByteArray) (prefix0 : ByteArray) : Option Bool := strings_HasPrefix_B n s prefix0 some
theorem strings_HasPrefix_N (n : Nat) {R S : Type} (s : ByteArray) (prefix0 : ByteArray) (k : Bool → Option R) (φ : R → Option S) : strings_HasPrefix_B n s prefix0 (fun a => (k a).bind φ) = (strings_HasPrefix_B n s prefix0 k).bind φ := by
  unfold strings_HasPrefix_B
  first | (simp only [ite_bind, bind_bind, onL_bind, onX_bind, none_bind]) | rfl
def strings_HasPrefix_hint (n : Nat) : Hint Out := { live := fun c => [], run := fun c => none, xm := fun c q => none }
theorem strings_HasPrefix_runs (n : Nat) : RunsOk tys (callees Out (internal_stringslite_HasPrefix_es n)) (strings_HasPrefix_hint n) n (bodyOf Tryd.f42) 0 := ⟨trivial, ⟨trivial, trivial⟩⟩
theorem strings_HasPrefix_at : Tryd.prog.funcs[42]? = some Tryd.f42 := by kernel_rfl
theorem strings_HasPrefix_ent (n : Nat) : Enters Tryd.prog 42 := enters_of (c := bodyOf Tryd.f42) strings_HasPrefix_at (by kernel_rfl) (by kernel_rfl)
theorem strings_HasPrefix_E (n : Nat) (s : ByteArray) (prefix0 : ByteArray) : fnA tys (callees Out (internal_stringslite_HasPrefix_es n)) (strings_HasPrefix_hint n) n Tryd.f42 (encL (.pair .str (.pair .str .unit)) (s, (prefix0, ()))) [] (soloA fun v => some (.ret v)) (soloA fun v => some (.pan v)) = strings_HasPrefix_B n s prefix0 (fun y => some (.ret (encR (.one .bool) y))) := by kernel_rfl
theorem strings_HasPrefix_ok (n : Nat) : EntryOk Tryd.prog gl ⟨42, pcT (.pair .str (.pair .str .unit)) (.one .bool) (fun xs => strings_HasPrefix n xs.1 xs.2.1), none, none⟩ :=
  pcT_ok (strings_HasPrefix_ent n) fun xs y h => ans_of_fn tys_ok (internal_stringslite_HasPrefix_es_ok n) mixed (hint := strings_HasPrefix_hint n) (n := n) (fn := Tryd.f42) strings_HasPrefix_at (fun c hc => by
    have : bodyOf Tryd.f42 = c := by unfold bodyOf; rw [hc]; rfl
    exact this ▸ strings_HasPrefix_runs n) (run_ret (φ := (fun y => some (Out.ret (encR (.one .bool) y)))) ((strings_HasPrefix_E n xs.1 xs.2.1).trans (strings_HasPrefix_N (R := Bool) (S := Out) n xs.1 xs.2.1 some (fun y => some (Out.ret (encR (.one .bool) y))))) h)
def strings_HasPrefix_es (n : Nat) : List Entry := ⟨42, pcT (.pair .str (.pair .str .unit)) (.one .bool) (fun xs => strings_HasPrefix n xs.1 xs.2.1), none, none⟩ :: internal_stringslite_HasPrefix_es n
theorem strings_HasPrefix_es_ok (n : Nat) : AllOk Tryd.prog gl (strings_HasPrefix_es n) := .cons (strings_HasPrefix_ok n) (internal_stringslite_HasPrefix_es_ok n)

/- pouch/addr.must -/
def addr_must_B (n : Nat) {R : Type} (ok : Bool) (k : (Unit) → Option R) (kp : Int → Option R) : Option R :=
  if (!ok) = true then
    kp (8 : Int)
  else
    k ()
def addr_must (n : Nat) (ok : Bool) : Option (Except Int (Unit)) := addr_must_B n ok (fun y => some (.ok y)) (fun p => some (.error p))
theorem addr_must_N (n : Nat) {R S : Type} (ok : Bool) (k : (Unit) → Option R) (kp : Int → Option R) (φ : R → Option S) : addr_must_B n ok (fun a => (k a).bind φ) (fun a => (kp a).bind φ) = (addr_must_B n ok k kp).bind φ := by
  unfold addr_must_B
  first | (simp only [ite_bind, bind_bind, onL_bind, onX_bind, none_bind]) | rfl
def addr_must_hint (n : Nat) : Hint Out := { live := fun c => [], run := fun c => none, xm := fun c q => none }
theorem addr_must_runs (n : Nat) : RunsOk tys (callees Out (strings_HasPrefix_es n)) (addr_must_hint n) n (bodyOf Tryd.f41) 0 := ⟨trivial, ⟨trivial, trivial⟩⟩
theorem addr_must_at : Tryd.prog.funcs[41]? = some Tryd.f41 := by kernel_rfl
theorem addr_must_ent (n : Nat) : Enters Tryd.prog 41 := enters_of (c := bodyOf Tryd.f41) addr_must_at (by kernel_rfl) (by kernel_rfl)
theorem addr_must_E (n : Nat) (ok : Bool) : fnA tys (callees Out (strings_HasPrefix_es n)) (addr_must_hint n) n Tryd.f41 (encL (.pair .bool .unit) (ok, ())) [] (soloA fun v => some (.ret v)) (soloA fun v => some (.pan v)) = addr_must_B n ok (fun y => some (.ret (encR (.many .unit) y))) (fun p => some (.pan (wrongV 61 p))) := by kernel_rfl
theorem addr_must_ok (n : Nat) : EntryOk Tryd.prog gl ⟨41, pcX 61 (.pair .bool .unit) (.many .unit) (fun xs => addr_must n xs.1), none, none⟩ :=
  pcX_ok (addr_must_ent n) (fun xs y h => ans_of_fn tys_ok (strings_HasPrefix_es_ok n) mixed (hint := addr_must_hint n) (n := n) (fn := Tryd.f41) addr_must_at (fun c hc => by
    have : bodyOf Tryd.f41 = c := by unfold bodyOf; rw [hc]; rfl
    exact this ▸ addr_must_runs n) (run_ret (φ := (fun r => onX r (fun p => some (Out.pan (wrongV 61 p))) fun y => some (Out.ret (encR (.many .unit) y)))) ((addr_must_E n xs.1).trans (addr_must_N (R := Except Int (Unit)) (S := Out) n xs.1 (fun y => some (.ok y)) (fun p => some (.error p)) (fun r => onX r (fun p => some (Out.pan (wrongV 61 p))) fun y => some (Out.ret (encR (.many .unit) y))))) h))
    (fun xs p h => ans_of_fn tys_ok (strings_HasPrefix_es_ok n) mixed (hint := addr_must_hint n) (n := n) (fn := Tryd.f41) addr_must_at (fun c hc => by
    have : bodyOf Tryd.f41 = c := by unfold bodyOf; rw [hc]; rfl
    exact this ▸ addr_must_runs n) (run_ret (φ := (fun r => onX r (fun p => some (Out.pan (wrongV 61 p))) fun y => some (Out.ret (encR (.many .unit) y)))) ((addr_must_E n xs.1).trans (addr_must_N (R := Except Int (Unit)) (S := Out) n xs.1 (fun y => some (.ok y)) (fun p => some (.error p)) (fun r => onX r (fun p => some (Out.pan (wrongV 61 p))) fun y => some (Out.ret (encR (.many .unit) y))))) h))
def addr_must_es (n : Nat) : List Entry := ⟨41, pcX 61 (.pair .bool .unit) (.many .unit) (fun xs => addr_must n xs.1), none, none⟩ :: strings_HasPrefix_es n
theorem addr_must_es_ok (n : Nat) : AllOk Tryd.prog gl (addr_must_es n) := .cons (addr_must_ok n) (strings_HasPrefix_es_ok n)

/- (*strings.Builder).String (live: ([('one', ('ptr', 0, 0, 0))], [('box', 82, 2, True, [('cn', 'nilp'), ('cn', 'nils')])])) -/
def strings_Builder_String_v0_B (n : Nat) {R : Type} (k : (ByteArray × Unit) → Option R) : Option R :=
  if ((0 : Nat) : Int) = 0 then
    k ((⟨#[]⟩ : ByteArray), ())
  else
    none
def strings_Builder_String_v0 (n : Nat) : Option (ByteArray × Unit) := strings_Builder_String_v0_B n some
theorem strings_Builder_String_v0_N (n : Nat) {R S : Type} (k : (ByteArray × Unit) → Option R) (φ : R → Option S) : strings_Builder_String_v0_B n (fun a => (k a).bind φ) = (strings_Builder_String_v0_B n k).bind φ := by
  unfold strings_Builder_String_v0_B
  first | (simp only [ite_bind, bind_bind, onL_bind, onX_bind, none_bind]) | rfl
def strings_Builder_String_v0_hint (n : Nat) : Hint OutS := { live := fun c => [], run := fun c => none, xm := fun c q => none, sch := fun c => (cond (Nat.beq c 1) (some [(0, 0), (1, 0), (2, 0), (5, 0), (6, 0), (7, 0), (3, 1), (8, 1), (9, 0), (4, 3), (10, 2), (11, 0)]) none) }
theorem strings_Builder_String_v0_runs (n : Nat) : RunsOk tys (callees OutS (addr_must_es n)) (strings_Builder_String_v0_hint n) n (bodyOf Tryd.f60) 0 := ⟨trivial, ⟨trivial, trivial⟩⟩
theorem strings_Builder_String_v0_at : Tryd.prog.funcs[60]? = some Tryd.f60 := by kernel_rfl
theorem strings_Builder_String_v0_ent (n : Nat) : Enters Tryd.prog 60 := enters_of (c := bodyOf Tryd.f60) strings_Builder_String_v0_at (by kernel_rfl) (by kernel_rfl)
def strings_Builder_String_v0_sp : List RSp := [.one (.ptr 0 0 0)]
def strings_Builder_String_v0_rp : List RS := [.box 82 2 true [.cn .nilp, .cn .nils]]
def strings_Builder_String_v0_gsp : List Sl := [.ptr 0 0 0]
def strings_Builder_String_v0_osp : List RSp := [.one (.dat .str)]
def strings_Builder_String_v0_orp : List RS := [.box 82 2 true [.cn .nilp, .cn .nils]]
def strings_Builder_String_v0_O (y : (ByteArray × Unit)) : OutS := ⟨false, encF (nsOf strings_Builder_String_v0_orp ((), ())) strings_Builder_String_v0_gsp (), tupA (encO (nsOf strings_Builder_String_v0_orp ((), ())) strings_Builder_String_v0_osp ((y.1, ()), ())), encH (nsOf strings_Builder_String_v0_orp ((), ())) strings_Builder_String_v0_orp ((), ())⟩
theorem strings_Builder_String_v0_E (n : Nat) : fnS tys (callees OutS (addr_must_es n)) (strings_Builder_String_v0_hint n) n Tryd.f60 (encO (nsOf strings_Builder_String_v0_rp ((), ())) strings_Builder_String_v0_sp ((), ())) (encH (nsOf strings_Builder_String_v0_rp ((), ())) strings_Builder_String_v0_rp ((), ())) = strings_Builder_String_v0_B n (fun y => some (strings_Builder_String_v0_O y)) := by kernel_rfl
theorem strings_Builder_String_v0_ok (n : Nat) : EntryOk Tryd.prog gl ⟨60, noPc, none, some (csT strings_Builder_String_v0_sp strings_Builder_String_v0_rp (fun σ ρ => strings_Builder_String_v0 n) strings_Builder_String_v0_O)⟩ :=
  csT_ok (strings_Builder_String_v0_ent n) fun σ ρ y h => ansS_of_fn tys_ok (addr_must_es_ok n) mixed (hint := strings_Builder_String_v0_hint n) (n := n) (fn := Tryd.f60) strings_Builder_String_v0_at (fun c hc => by
    have : bodyOf Tryd.f60 = c := by unfold bodyOf; rw [hc]; rfl
    exact this ▸ strings_Builder_String_v0_runs n) (run_ret (φ := fun y => some (strings_Builder_String_v0_O y)) ((strings_Builder_String_v0_E n).trans (strings_Builder_String_v0_N (R := (ByteArray × Unit)) (S := OutS) n some (fun y => some (strings_Builder_String_v0_O y)))) h)
def strings_Builder_String_v0_es (n : Nat) : List Entry := ⟨60, noPc, none, some (csT strings_Builder_String_v0_sp strings_Builder_String_v0_rp (fun σ ρ => strings_Builder_String_v0 n) strings_Builder_String_v0_O)⟩ :: addr_must_es n
theorem strings_Builder_String_v0_es_ok (n : Nat) : AllOk Tryd.prog gl (strings_Builder_String_v0_es n) := .cons (strings_Builder_String_v0_ok n) (addr_must_es_ok n)

/- internal/abi.NoEscape -/
theorem internal_abi_NoEscape_at : Tryd.prog.funcs[83]? = some Tryd.f83 := by kernel_rfl
theorem internal_abi_NoEscape_ok : EntryOk Tryd.prog gl ⟨83, noPc, some .ident, none⟩ := noEscape_entry internal_abi_NoEscape_at (by kernel_rfl) (by kernel_rfl) (by kernel_rfl) (by kernel_rfl)
def internal_abi_NoEscape_es (n : Nat) : List Entry := ⟨83, noPc, some .ident, none⟩ :: strings_Builder_String_v0_es n
theorem internal_abi_NoEscape_es_ok (n : Nat) : AllOk Tryd.prog gl (internal_abi_NoEscape_es n) := .cons internal_abi_NoEscape_ok (strings_Builder_String_v0_es_ok n)

/- (*strings.Builder).copyCheck (live: ([('one', ('ptr', 0, 0, 0))], [('box', 82, 2, True, [('cn', 'nilp'), ('cn', 'nils')])])) -/
def strings_Builder_copyCheck_v0_B (n : Nat) {R : Type} (k : Unit → Option R) : Option R :=
  k ()
def strings_Builder_copyCheck_v0 (n : Nat) : Option Unit := strings_Builder_copyCheck_v0_B n some
theorem strings_Builder_copyCheck_v0_N (n : Nat) {R S : Type} (k : Unit → Option R) (φ : R → Option S) : strings_Builder_copyCheck_v0_B n (fun a => (k a).bind φ) = (strings_Builder_copyCheck_v0_B n k).bind φ := by
  unfold strings_Builder_copyCheck_v0_B
  first | (simp only [ite_bind, bind_bind, onL_bind, onX_bind, none_bind]) | rfl
def strings_Builder_copyCheck_v0_hint (n : Nat) : Hint OutS := { live := fun c => [], run := fun c => none, xm := fun c q => none }
theorem strings_Builder_copyCheck_v0_runs (n : Nat) : RunsOk tys (callees OutS (internal_abi_NoEscape_es n)) (strings_Builder_copyCheck_v0_hint n) n (bodyOf Tryd.f71) 0 := ⟨trivial, ⟨trivial, ⟨trivial, ⟨trivial, trivial⟩⟩⟩⟩
theorem strings_Builder_copyCheck_v0_at : Tryd.prog.funcs[71]? = some Tryd.f71 := by kernel_rfl
theorem strings_Builder_copyCheck_v0_ent (n : Nat) : Enters Tryd.prog 71 := enters_of (c := bodyOf Tryd.f71) strings_Builder_copyCheck_v0_at (by kernel_rfl) (by kernel_rfl)
def strings_Builder_copyCheck_v0_sp : List RSp := [.one (.ptr 0 0 0)]
def strings_Builder_copyCheck_v0_rp : List RS := [.box 82 2 true [.cn .nilp, .cn .nils]]
def strings_Builder_copyCheck_v0_gsp : List Sl := [.ptr 0 0 0]
def strings_Builder_copyCheck_v0_osp : List RSp := []
def strings_Builder_copyCheck_v0_orp : List RS := [.box 82 2 false [.ptr 0 0 0, .cn .nils]]
def strings_Builder_copyCheck_v0_O (y : Unit) : OutS := ⟨false, encF (nsOf strings_Builder_copyCheck_v0_orp ((), ())) strings_Builder_copyCheck_v0_gsp (), tupA (encO (nsOf strings_Builder_copyCheck_v0_orp ((), ())) strings_Builder_copyCheck_v0_osp ()), encH (nsOf strings_Builder_copyCheck_v0_orp ((), ())) strings_Builder_copyCheck_v0_orp ((), ())⟩
theorem strings_Builder_copyCheck_v0_E (n : Nat) : fnS tys (callees OutS (internal_abi_NoEscape_es n)) (strings_Builder_copyCheck_v0_hint n) n Tryd.f71 (encO (nsOf strings_Builder_copyCheck_v0_rp ((), ())) strings_Builder_copyCheck_v0_sp ((), ())) (encH (nsOf strings_Builder_copyCheck_v0_rp ((), ())) strings_Builder_copyCheck_v0_rp ((), ())) = strings_Builder_copyCheck_v0_B n (fun y => some (strings_Builder_copyCheck_v0_O y)) := by kernel_rfl
theorem strings_Builder_copyCheck_v0_ok (n : Nat) : EntryOk Tryd.prog gl ⟨71, noPc, none, some (csT strings_Builder_copyCheck_v0_sp strings_Builder_copyCheck_v0_rp (fun σ ρ => strings_Builder_copyCheck_v0 n) strings_Builder_copyCheck_v0_O)⟩ :=
  csT_ok (strings_Builder_copyCheck_v0_ent n) fun σ ρ y h => ansS_of_fn tys_ok (internal_abi_NoEscape_es_ok n) mixed (hint := strings_Builder_copyCheck_v0_hint n) (n := n) (fn := Tryd.f71) strings_Builder_copyCheck_v0_at (fun c hc => by
    have : bodyOf Tryd.f71 = c := by unfold bodyOf; rw [hc]; rfl
    exact this ▸ strings_Builder_copyCheck_v0_runs n) (run_ret (φ := fun y => some (strings_Builder_copyCheck_v0_O y)) ((strings_Builder_copyCheck_v0_E n).trans (strings_Builder_copyCheck_v0_N (R := Unit) (S := OutS) n some (fun y => some (strings_Builder_copyCheck_v0_O y)))) h)
def strings_Builder_copyCheck_v0_es (n : Nat) : List Entry := ⟨71, noPc, none, some (csT strings_Builder_copyCheck_v0_sp strings_Builder_copyCheck_v0_rp (fun σ ρ => strings_Builder_copyCheck_v0 n) strings_Builder_copyCheck_v0_O)⟩ :: internal_abi_NoEscape_es n
theorem strings_Builder_copyCheck_v0_es_ok (n : Nat) : AllOk Tryd.prog gl (strings_Builder_copyCheck_v0_es n) := .cons (strings_Builder_copyCheck_v0_ok n) (internal_abi_NoEscape_es_ok n)

/- (*strings.Builder).WriteByte (live: ([('one', ('ptr', 0, 0, 0)), ('one', ('dat', ('int', 'u8')))], [('box', 82, 2, True, [('cn', 'nilp'), ('cn', 'nils')])])) -/
def strings_Builder_WriteByte_v0_B (n : Nat) {R : Type} (c : Int) (k : ((Sq Int) × Unit) → Option R) : Option R :=
  (strings_Builder_copyCheck_v0 n).bind fun v =>
  if rowFits (0 + 1) 1 = true then
    k ((⟨(0 + 1), fun q => if q < 0 then (fun _ => zeroEl (.int .u8)) q else (fun q => List.getD (α := Int) [c] q (zeroEl (.int .u8))) (q - 0)⟩ : Sq Int), ())
  else
    none
def strings_Builder_WriteByte_v0 (n : Nat) (c : Int) : Option ((Sq Int) × Unit) := strings_Builder_WriteByte_v0_B n c some
theorem strings_Builder_WriteByte_v0_N (n : Nat) {R S : Type} (c : Int) (k : ((Sq Int) × Unit) → Option R) (φ : R → Option S) : strings_Builder_WriteByte_v0_B n c (fun a => (k a).bind φ) = (strings_Builder_WriteByte_v0_B n c k).bind φ := by
  unfold strings_Builder_WriteByte_v0_B
  first | (simp only [ite_bind, bind_bind, onL_bind, onX_bind, none_bind]) | rfl
def strings_Builder_WriteByte_v0_hint (n : Nat) : Hint OutS := { live := fun c => [], run := fun c => none, xm := fun c q => none }
theorem strings_Builder_WriteByte_v0_runs (n : Nat) : RunsOk tys (callees OutS (strings_Builder_copyCheck_v0_es n)) (strings_Builder_WriteByte_v0_hint n) n (bodyOf Tryd.f61) 0 := ⟨trivial, ⟨trivial, ⟨trivial, ⟨trivial, trivial⟩⟩⟩⟩
theorem strings_Builder_WriteByte_v0_at : Tryd.prog.funcs[61]? = some Tryd.f61 := by kernel_rfl
theorem strings_Builder_WriteByte_v0_ent (n : Nat) : Enters Tryd.prog 61 := enters_of (c := bodyOf Tryd.f61) strings_Builder_WriteByte_v0_at (by kernel_rfl) (by kernel_rfl)
def strings_Builder_WriteByte_v0_sp : List RSp := [.one (.ptr 0 0 0), .one (.dat (.int .u8))]
def strings_Builder_WriteByte_v0_rp : List RS := [.box 82 2 true [.cn .nilp, .cn .nils]]
def strings_Builder_WriteByte_v0_gsp : List Sl := [.ptr 0 0 0, .top]
def strings_Builder_WriteByte_v0_osp : List RSp := [.one (.cn .nili)]
def strings_Builder_WriteByte_v0_orp : List RS := [.box 82 2 false [.ptr 0 0 0, .row 1], .row 5 1 (.int .u8) true false]
def strings_Builder_WriteByte_v0_O (y : ((Sq Int) × Unit)) : OutS := ⟨false, encF (nsOf strings_Builder_WriteByte_v0_orp ((), (y.1, ()))) strings_Builder_WriteByte_v0_gsp (), tupA (encO (nsOf strings_Builder_WriteByte_v0_orp ((), (y.1, ()))) strings_Builder_WriteByte_v0_osp ((), ())), encH (nsOf strings_Builder_WriteByte_v0_orp ((), (y.1, ()))) strings_Builder_WriteByte_v0_orp ((), (y.1, ()))⟩
theorem strings_Builder_WriteByte_v0_E (n : Nat) (c : Int) : fnS tys (callees OutS (strings_Builder_copyCheck_v0_es n)) (strings_Builder_WriteByte_v0_hint n) n Tryd.f61 (encO (nsOf strings_Builder_WriteByte_v0_rp ((), ())) strings_Builder_WriteByte_v0_sp ((), ((c, ()), ()))) (encH (nsOf strings_Builder_WriteByte_v0_rp ((), ())) strings_Builder_WriteByte_v0_rp ((), ())) = strings_Builder_WriteByte_v0_B n c (fun y => some (strings_Builder_WriteByte_v0_O y)) := by kernel_rfl
theorem strings_Builder_WriteByte_v0_ok (n : Nat) : EntryOk Tryd.prog gl ⟨61, noPc, none, some (csT strings_Builder_WriteByte_v0_sp strings_Builder_WriteByte_v0_rp (fun σ ρ => strings_Builder_WriteByte_v0 n σ.2.1.1) strings_Builder_WriteByte_v0_O)⟩ :=
  csT_ok (strings_Builder_WriteByte_v0_ent n) fun σ ρ y h => ansS_of_fn tys_ok (strings_Builder_copyCheck_v0_es_ok n) mixed (hint := strings_Builder_WriteByte_v0_hint n) (n := n) (fn := Tryd.f61) strings_Builder_WriteByte_v0_at (fun c hc => by
    have : bodyOf Tryd.f61 = c := by unfold bodyOf; rw [hc]; rfl
    exact this ▸ strings_Builder_WriteByte_v0_runs n) (run_ret (φ := fun y => some (strings_Builder_WriteByte_v0_O y)) ((strings_Builder_WriteByte_v0_E n σ.2.1.1).trans (strings_Builder_WriteByte_v0_N (R := ((Sq Int) × Unit)) (S := OutS) n σ.2.1.1 some (fun y => some (strings_Builder_WriteByte_v0_O y)))) h)
def strings_Builder_WriteByte_v0_es (n : Nat) : List Entry := ⟨61, noPc, none, some (csT strings_Builder_WriteByte_v0_sp strings_Builder_WriteByte_v0_rp (fun σ ρ => strings_Builder_WriteByte_v0 n σ.2.1.1) strings_Builder_WriteByte_v0_O)⟩ :: strings_Builder_copyCheck_v0_es n
theorem strings_Builder_WriteByte_v0_es_ok (n : Nat) : AllOk Tryd.prog gl (strings_Builder_WriteByte_v0_es n) := .cons (strings_Builder_WriteByte_v0_ok n) (strings_Builder_copyCheck_v0_es_ok n)

/- (*strings.Builder).String (live: ([('one', ('ptr', 0, 0, 0))], [('box', 82, 2, False, [('ptr', 0, 0, 0), ('row', 1)]), ('row', 5, 1, ('int', 'u8'), True, False)])) -/
def strings_Builder_String_v1_B (n : Nat) {R : Type} (r1 : (Sq Int)) (k : (ByteArray × Unit) → Option R) : Option R :=
  if (r1.n : Int) = (r1.n : Int) ∧ (r1.n : Int) ≤ 9223372036854775807 then
    k ((strOf r1.n r1.at'), ())
  else
    none
def strings_Builder_String_v1 (n : Nat) (r1 : (Sq Int)) : Option (ByteArray × Unit) := strings_Builder_String_v1_B n r1 some
theorem strings_Builder_String_v1_N (n : Nat) {R S : Type} (r1 : (Sq Int)) (k : (ByteArray × Unit) → Option R) (φ : R → Option S) : strings_Builder_String_v1_B n r1 (fun a => (k a).bind φ) = (strings_Builder_String_v1_B n r1 k).bind φ := by
  unfold strings_Builder_String_v1_B
  first | (simp only [ite_bind, bind_bind, onL_bind, onX_bind, none_bind]) | rfl
def strings_Builder_String_v1_hint (n : Nat) : Hint OutS := { live := fun c => [], run := fun c => none, xm := fun c q => none, sch := fun c => (cond (Nat.beq c 1) (some [(0, 0), (1, 0), (2, 0), (5, 0), (6, 0), (7, 0), (3, 1), (8, 1), (9, 0), (4, 3), (10, 2), (11, 0)]) none) }
theorem strings_Builder_String_v1_runs (n : Nat) : RunsOk tys (callees OutS (strings_Builder_WriteByte_v0_es n)) (strings_Builder_String_v1_hint n) n (bodyOf Tryd.f60) 0 := ⟨trivial, ⟨trivial, trivial⟩⟩
theorem strings_Builder_String_v1_at : Tryd.prog.funcs[60]? = some Tryd.f60 := by kernel_rfl
theorem strings_Builder_String_v1_ent (n : Nat) : Enters Tryd.prog 60 := enters_of (c := bodyOf Tryd.f60) strings_Builder_String_v1_at (by kernel_rfl) (by kernel_rfl)
def strings_Builder_String_v1_sp : List RSp := [.one (.ptr 0 0 0)]
def strings_Builder_String_v1_rp : List RS := [.box 82 2 false [.ptr 0 0 0, .row 1], .row 5 1 (.int .u8) true false]
def strings_Builder_String_v1_gsp : List Sl := [.ptr 0 0 0]
def strings_Builder_String_v1_osp : List RSp := [.one (.dat .str)]
def strings_Builder_String_v1_orp : List RS := [.box 82 2 false [.ptr 0 0 0, .top]]
def strings_Builder_String_v1_O (y : (ByteArray × Unit)) : OutS := ⟨false, encF (nsOf strings_Builder_String_v1_orp ((), ())) strings_Builder_String_v1_gsp (), tupA (encO (nsOf strings_Builder_String_v1_orp ((), ())) strings_Builder_String_v1_osp ((y.1, ()), ())), encH (nsOf strings_Builder_String_v1_orp ((), ())) strings_Builder_String_v1_orp ((), ())⟩
theorem strings_Builder_String_v1_E (n : Nat) (r1 : (Sq Int)) : fnS tys (callees OutS (strings_Builder_WriteByte_v0_es n)) (strings_Builder_String_v1_hint n) n Tryd.f60 (encO (nsOf strings_Builder_String_v1_rp ((), (r1, ()))) strings_Builder_String_v1_sp ((), ())) (encH (nsOf strings_Builder_String_v1_rp ((), (r1, ()))) strings_Builder_String_v1_rp ((), (r1, ()))) = strings_Builder_String_v1_B n r1 (fun y => some (strings_Builder_String_v1_O y)) := by kernel_rfl
theorem strings_Builder_String_v1_ok (n : Nat) : EntryOk Tryd.prog gl ⟨60, noPc, none, some (csT strings_Builder_String_v1_sp strings_Builder_String_v1_rp (fun σ ρ => strings_Builder_String_v1 n ρ.2.1) strings_Builder_String_v1_O)⟩ :=
  csT_ok (strings_Builder_String_v1_ent n) fun σ ρ y h => ansS_of_fn tys_ok (strings_Builder_WriteByte_v0_es_ok n) mixed (hint := strings_Builder_String_v1_hint n) (n := n) (fn := Tryd.f60) strings_Builder_String_v1_at (fun c hc => by
    have : bodyOf Tryd.f60 = c := by unfold bodyOf; rw [hc]; rfl
    exact this ▸ strings_Builder_String_v1_runs n) (run_ret (φ := fun y => some (strings_Builder_String_v1_O y)) ((strings_Builder_String_v1_E n ρ.2.1).trans (strings_Builder_String_v1_N (R := (ByteArray × Unit)) (S := OutS) n ρ.2.1 some (fun y => some (strings_Builder_String_v1_O y)))) h)
def strings_Builder_String_v1_es (n : Nat) : List Entry := ⟨60, noPc, none, some (csT strings_Builder_String_v1_sp strings_Builder_String_v1_rp (fun σ ρ => strings_Builder_String_v1 n ρ.2.1) strings_Builder_String_v1_O)⟩ :: strings_Builder_WriteByte_v0_es n
theorem strings_Builder_String_v1_es_ok (n : Nat) : AllOk Tryd.prog gl (strings_Builder_String_v1_es n) := .cons (strings_Builder_String_v1_ok n) (strings_Builder_WriteByte_v0_es_ok n)

/- (*strings.Builder).copyCheck (live: ([('one', ('ptr', 0, 0, 0))], [('box', 82, 2, False, [('ptr', 0, 0, 0), ('row', 1)]), ('row', 5, 1, ('int', 'u8'), True, False)])) -/
def strings_Builder_copyCheck_v1_B (n : Nat) {R : Type} (r1 : (Sq Int)) (k : ((Sq Int) × Unit) → Option R) : Option R :=
  k (r1, ())
def strings_Builder_copyCheck_v1 (n : Nat) (r1 : (Sq Int)) : Option ((Sq Int) × Unit) := strings_Builder_copyCheck_v1_B n r1 some
theorem strings_Builder_copyCheck_v1_N (n : Nat) {R S : Type} (r1 : (Sq Int)) (k : ((Sq Int) × Unit) → Option R) (φ : R → Option S) : strings_Builder_copyCheck_v1_B n r1 (fun a => (k a).bind φ) = (strings_Builder_copyCheck_v1_B n r1 k).bind φ := by
  unfold strings_Builder_copyCheck_v1_B
  first | (simp only [ite_bind, bind_bind, onL_bind, onX_bind, none_bind]) | rfl
def strings_Builder_copyCheck_v1_hint (n : Nat) : Hint OutS := { live := fun c => [], run := fun c => none, xm := fun c q => none }
theorem strings_Builder_copyCheck_v1_runs (n : Nat) : RunsOk tys (callees OutS (strings_Builder_String_v1_es n)) (strings_Builder_copyCheck_v1_hint n) n (bodyOf Tryd.f71) 0 := ⟨trivial, ⟨trivial, ⟨trivial, ⟨trivial, trivial⟩⟩⟩⟩
theorem strings_Builder_copyCheck_v1_at : Tryd.prog.funcs[71]? = some Tryd.f71 := by kernel_rfl
theorem strings_Builder_copyCheck_v1_ent (n : Nat) : Enters Tryd.prog 71 := enters_of (c := bodyOf Tryd.f71) strings_Builder_copyCheck_v1_at (by kernel_rfl) (by kernel_rfl)
def strings_Builder_copyCheck_v1_sp : List RSp := [.one (.ptr 0 0 0)]
def strings_Builder_copyCheck_v1_rp : List RS := [.box 82 2 false [.ptr 0 0 0, .row 1], .row 5 1 (.int .u8) true false]
def strings_Builder_copyCheck_v1_gsp : List Sl := [.ptr 0 0 0]
def strings_Builder_copyCheck_v1_osp : List RSp := []
def strings_Builder_copyCheck_v1_orp : List RS := [.box 82 2 false [.ptr 0 0 0, .row 1], .row 5 1 (.int .u8) true false]
def strings_Builder_copyCheck_v1_O (y : ((Sq Int) × Unit)) : OutS := ⟨false, encF (nsOf strings_Builder_copyCheck_v1_orp ((), (y.1, ()))) strings_Builder_copyCheck_v1_gsp (), tupA (encO (nsOf strings_Builder_copyCheck_v1_orp ((), (y.1, ()))) strings_Builder_copyCheck_v1_osp ()), encH (nsOf strings_Builder_copyCheck_v1_orp ((), (y.1, ()))) strings_Builder_copyCheck_v1_orp ((), (y.1, ()))⟩
theorem strings_Builder_copyCheck_v1_E (n : Nat) (r1 : (Sq Int)) : fnS tys (callees OutS (strings_Builder_String_v1_es n)) (strings_Builder_copyCheck_v1_hint n) n Tryd.f71 (encO (nsOf strings_Builder_copyCheck_v1_rp ((), (r1, ()))) strings_Builder_copyCheck_v1_sp ((), ())) (encH (nsOf strings_Builder_copyCheck_v1_rp ((), (r1, ()))) strings_Builder_copyCheck_v1_rp ((), (r1, ()))) = strings_Builder_copyCheck_v1_B n r1 (fun y => some (strings_Builder_copyCheck_v1_O y)) := by kernel_rfl
theorem strings_Builder_copyCheck_v1_ok (n : Nat) : EntryOk Tryd.prog gl ⟨71, noPc, none, some (csT strings_Builder_copyCheck_v1_sp strings_Builder_copyCheck_v1_rp (fun σ ρ => strings_Builder_copyCheck_v1 n ρ.2.1) strings_Builder_copyCheck_v1_O)⟩ :=
  csT_ok (strings_Builder_copyCheck_v1_ent n) fun σ ρ y h => ansS_of_fn tys_ok (strings_Builder_String_v1_es_ok n) mixed (hint := strings_Builder_copyCheck_v1_hint n) (n := n) (fn := Tryd.f71) strings_Builder_copyCheck_v1_at (fun c hc => by
    have : bodyOf Tryd.f71 = c := by unfold bodyOf; rw [hc]; rfl
    exact this ▸ strings_Builder_copyCheck_v1_runs n) (run_ret (φ := fun y => some (strings_Builder_copyCheck_v1_O y)) ((strings_Builder_copyCheck_v1_E n ρ.2.1).trans (strings_Builder_copyCheck_v1_N (R := ((Sq Int) × Unit)) (S := OutS) n ρ.2.1 some (fun y => some (strings_Builder_copyCheck_v1_O y)))) h)
def strings_Builder_copyCheck_v1_es (n : Nat) : List Entry := ⟨71, noPc, none, some (csT strings_Builder_copyCheck_v1_sp strings_Builder_copyCheck_v1_rp (fun σ ρ => strings_Builder_copyCheck_v1 n ρ.2.1) strings_Builder_copyCheck_v1_O)⟩ :: strings_Builder_String_v1_es n
theorem strings_Builder_copyCheck_v1_es_ok (n : Nat) : AllOk Tryd.prog gl (strings_Builder_copyCheck_v1_es n) := .cons (strings_Builder_copyCheck_v1_ok n) (strings_Builder_String_v1_es_ok n)

/- (*strings.Builder).WriteByte (live: ([('one', ('ptr', 0, 0, 0)), ('one', ('dat', ('int', 'u8')))], [('box', 82, 2, False, [('ptr', 0, 0, 0), ('row', 1)]), ('row', 5, 1, ('int', 'u8'), True, False)])) -/
def strings_Builder_WriteByte_v1_B (n : Nat) {R : Type} (c : Int) (r1 : (Sq Int)) (k : ((Sq Int) × Unit) → Option R) : Option R :=
  (strings_Builder_copyCheck_v1 n r1).bind fun v =>
  if rowFits (v.1.n + 1) 1 = true then
    k ((⟨(v.1.n + 1), fun q => if q < v.1.n then v.1.at' q else (fun q => List.getD (α := Int) [c] q (zeroEl (.int .u8))) (q - v.1.n)⟩ : Sq Int), ())
  else
    none
def strings_Builder_WriteByte_v1 (n : Nat) (c : Int) (r1 : (Sq Int)) : Option ((Sq Int) × Unit) := strings_Builder_WriteByte_v1_B n c r1 some
theorem strings_Builder_WriteByte_v1_N (n : Nat) {R S : Type} (c : Int) (r1 : (Sq Int)) (k : ((Sq Int) × Unit) → Option R) (φ : R → Option S) : strings_Builder_WriteByte_v1_B n c r1 (fun a => (k a).bind φ) = (strings_Builder_WriteByte_v1_B n c r1 k).bind φ := by
  unfold strings_Builder_WriteByte_v1_B
  first | (simp only [ite_bind, bind_bind, onL_bind, onX_bind, none_bind]) | rfl
def strings_Builder_WriteByte_v1_hint (n : Nat) : Hint OutS := { live := fun c => [], run := fun c => none, xm := fun c q => none }
theorem strings_Builder_WriteByte_v1_runs (n : Nat) : RunsOk tys (callees OutS (strings_Builder_copyCheck_v1_es n)) (strings_Builder_WriteByte_v1_hint n) n (bodyOf Tryd.f61) 0 := ⟨trivial, ⟨trivial, ⟨trivial, ⟨trivial, trivial⟩⟩⟩⟩
theorem strings_Builder_WriteByte_v1_at : Tryd.prog.funcs[61]? = some Tryd.f61 := by kernel_rfl
theorem strings_Builder_WriteByte_v1_ent (n : Nat) : Enters Tryd.prog 61 := enters_of (c := bodyOf Tryd.f61) strings_Builder_WriteByte_v1_at (by kernel_rfl) (by kernel_rfl)
def strings_Builder_WriteByte_v1_sp : List RSp := [.one (.ptr 0 0 0), .one (.dat (.int .u8))]
def strings_Builder_WriteByte_v1_rp : List RS := [.box 82 2 false [.ptr 0 0 0, .row 1], .row 5 1 (.int .u8) true false]
def strings_Builder_WriteByte_v1_gsp : List Sl := [.ptr 0 0 0, .top]
def strings_Builder_WriteByte_v1_osp : List RSp := [.one (.cn .nili)]
def strings_Builder_WriteByte_v1_orp : List RS := [.box 82 2 false [.ptr 0 0 0, .row 1], .row 5 1 (.int .u8) true false]
def strings_Builder_WriteByte_v1_O (y : ((Sq Int) × Unit)) : OutS := ⟨false, encF (nsOf strings_Builder_WriteByte_v1_orp ((), (y.1, ()))) strings_Builder_WriteByte_v1_gsp (), tupA (encO (nsOf strings_Builder_WriteByte_v1_orp ((), (y.1, ()))) strings_Builder_WriteByte_v1_osp ((), ())), encH (nsOf strings_Builder_WriteByte_v1_orp ((), (y.1, ()))) strings_Builder_WriteByte_v1_orp ((), (y.1, ()))⟩
theorem strings_Builder_WriteByte_v1_E (n : Nat) (c : Int) (r1 : (Sq Int)) : fnS tys (callees OutS (strings_Builder_copyCheck_v1_es n)) (strings_Builder_WriteByte_v1_hint n) n Tryd.f61 (encO (nsOf strings_Builder_WriteByte_v1_rp ((), (r1, ()))) strings_Builder_WriteByte_v1_sp ((), ((c, ()), ()))) (encH (nsOf strings_Builder_WriteByte_v1_rp ((), (r1, ()))) strings_Builder_WriteByte_v1_rp ((), (r1, ()))) = strings_Builder_WriteByte_v1_B n c r1 (fun y => some (strings_Builder_WriteByte_v1_O y)) := by kernel_rfl
theorem strings_Builder_WriteByte_v1_ok (n : Nat) : EntryOk Tryd.prog gl ⟨61, noPc, none, some (csT strings_Builder_WriteByte_v1_sp strings_Builder_WriteByte_v1_rp (fun σ ρ => strings_Builder_WriteByte_v1 n σ.2.1.1 ρ.2.1) strings_Builder_WriteByte_v1_O)⟩ :=
  csT_ok (strings_Builder_WriteByte_v1_ent n) fun σ ρ y h => ansS_of_fn tys_ok (strings_Builder_copyCheck_v1_es_ok n) mixed (hint := strings_Builder_WriteByte_v1_hint n) (n := n) (fn := Tryd.f61) strings_Builder_WriteByte_v1_at (fun c hc => by
    have : bodyOf Tryd.f61 = c := by unfold bodyOf; rw [hc]; rfl
    exact this ▸ strings_Builder_WriteByte_v1_runs n) (run_ret (φ := fun y => some (strings_Builder_WriteByte_v1_O y)) ((strings_Builder_WriteByte_v1_E n σ.2.1.1 ρ.2.1).trans (strings_Builder_WriteByte_v1_N (R := ((Sq Int) × Unit)) (S := OutS) n σ.2.1.1 ρ.2.1 some (fun y => some (strings_Builder_WriteByte_v1_O y)))) h)
def strings_Builder_WriteByte_v1_es (n : Nat) : List Entry := ⟨61, noPc, none, some (csT strings_Builder_WriteByte_v1_sp strings_Builder_WriteByte_v1_rp (fun σ ρ => strings_Builder_WriteByte_v1 n σ.2.1.1 ρ.2.1) strings_Builder_WriteByte_v1_O)⟩ :: strings_Builder_copyCheck_v1_es n
theorem strings_Builder_WriteByte_v1_es_ok (n : Nat) : AllOk Tryd.prog gl (strings_Builder_WriteByte_v1_es n) := .cons (strings_Builder_WriteByte_v1_ok n) (strings_Builder_copyCheck_v1_es_ok n)

/- pouch/addr.quoted -/
def addr_quoted_B0 (n : Nat) {R : Type} (s1 : ByteArray) (i : Int) (r1 : (Sq Int)) (kn : ByteArray → Int → (Sq Int) → Option R) (ko : Unit → Option R) (kr : (ByteArray × ByteArray) → Option R) (kp : Int → Option R) : Option R :=
  (addr_must n (decide (i < (s1.size : Int)))).bind fun x_1 => onX x_1 (fun p3 =>
    kp p3) (fun v5 =>
  if 0 ≤ i ∧ i < (s1.size : Int) then
    if ((bt s1 i) == (34 : Int)) = true then
      if 0 ≤ (IntKind.wrap .i64 (i + (1 : Int))) ∧ (IntKind.wrap .i64 (i + (1 : Int))) ≤ (s1.size : Int) then
        (strings_Builder_String_v1 n r1).bind fun v6 =>
        kr (v6.1, (s1.extract (Int.toNat (IntKind.wrap .i64 (i + (1 : Int)))) (Int.toNat (s1.size : Int))))
      else
        none
    else
      if 0 ≤ i ∧ i < (s1.size : Int) then
        if ((bt s1 i) == (92 : Int)) = true then
          (addr_must n (decide ((IntKind.wrap .i64 (i + (1 : Int))) < (s1.size : Int)))).bind fun x_2 => onX x_2 (fun p4 =>
            kp p4) (fun v7 =>
          if 0 ≤ (IntKind.wrap .i64 (i + (1 : Int))) ∧ (IntKind.wrap .i64 (i + (1 : Int))) < (s1.size : Int) then
            if (decide ((bt s1 (IntKind.wrap .i64 (i + (1 : Int)))) ≥ (32 : Int))) = true then
              if 0 ≤ (IntKind.wrap .i64 (i + (1 : Int))) ∧ (IntKind.wrap .i64 (i + (1 : Int))) < (s1.size : Int) then
                (addr_must n (decide ((bt s1 (IntKind.wrap .i64 (i + (1 : Int)))) ≤ (126 : Int)))).bind fun x_3 => onX x_3 (fun p5 =>
                  kp p5) (fun v8 =>
                if 0 ≤ (IntKind.wrap .i64 (i + (1 : Int))) ∧ (IntKind.wrap .i64 (i + (1 : Int))) < (s1.size : Int) then
                  (strings_Builder_WriteByte_v1 n (bt s1 (IntKind.wrap .i64 (i + (1 : Int)))) r1).bind fun v9 =>
                  kn s1 (IntKind.wrap .i64 ((IntKind.wrap .i64 (i + (1 : Int))) + (1 : Int))) v9.1
                else
                  none)
              else
                none
            else
              (addr_must n false).bind fun x_4 => onX x_4 (fun p6 =>
                kp p6) (fun v10 =>
              if 0 ≤ (IntKind.wrap .i64 (i + (1 : Int))) ∧ (IntKind.wrap .i64 (i + (1 : Int))) < (s1.size : Int) then
                (strings_Builder_WriteByte_v1 n (bt s1 (IntKind.wrap .i64 (i + (1 : Int)))) r1).bind fun v11 =>
                kn s1 (IntKind.wrap .i64 ((IntKind.wrap .i64 (i + (1 : Int))) + (1 : Int))) v11.1
              else
                none)
          else
            none)
        else
          if 0 ≤ i ∧ i < (s1.size : Int) then
            if (decide ((bt s1 i) ≥ (32 : Int))) = true then
              if 0 ≤ i ∧ i < (s1.size : Int) then
                (addr_must n (decide ((bt s1 i) ≤ (126 : Int)))).bind fun x_5 => onX x_5 (fun p7 =>
                  kp p7) (fun v12 =>
                if 0 ≤ i ∧ i < (s1.size : Int) then
                  (strings_Builder_WriteByte_v1 n (bt s1 i) r1).bind fun v13 =>
                  kn s1 (IntKind.wrap .i64 (i + (1 : Int))) v13.1
                else
                  none)
              else
                none
            else
              (addr_must n false).bind fun x_6 => onX x_6 (fun p8 =>
                kp p8) (fun v14 =>
              if 0 ≤ i ∧ i < (s1.size : Int) then
                (strings_Builder_WriteByte_v1 n (bt s1 i) r1).bind fun v15 =>
                kn s1 (IntKind.wrap .i64 (i + (1 : Int))) v15.1
              else
                none)
          else
            none
      else
        none
  else
    none)
theorem addr_quoted_B0_N (n : Nat) {R S : Type} (s1 : ByteArray) (i : Int) (r1 : (Sq Int)) (kn : ByteArray → Int → (Sq Int) → Option R) (ko : Unit → Option R) (kr : (ByteArray × ByteArray) → Option R) (kp : Int → Option R) (φ : R → Option S) : addr_quoted_B0 n s1 i r1 (fun s1 i r1 => (kn s1 i r1).bind φ) (fun a => (ko a).bind φ) (fun a => (kr a).bind φ) (fun a => (kp a).bind φ) = (addr_quoted_B0 n s1 i r1 kn ko kr kp).bind φ := by
  unfold addr_quoted_B0
  first | (simp only [ite_bind, bind_bind, onL_bind, onX_bind, none_bind]) | rfl
def addr_quoted_L0 (n : Nat) : Nat → ByteArray → Int → (Sq Int) → Option (Lx Unit (ByteArray × ByteArray))
  | 0, _, _, _ => none
  | m + 1, s1, i, r1 => addr_quoted_B0 n s1 i r1 (fun s1 i r1 => addr_quoted_L0 n m s1 i r1) (fun a => some (.out a)) (fun a => some (.ret a)) (fun p => some (.pan p))
def addr_quoted_L0_sp : List Sl := [.dat .str, .top, .top, .top, .ptr 0 0 0, .dat (.int .i64), .top, .top, .top, .top, .top, .top, .top, .top, .top, .top, .top, .top, .top, .top, .top, .top, .top, .top, .top, .top, .top, .top, .top, .top, .top, .top, .top, .top, .top, .top, .top, .top, .top, .top, .top, .top, .top, .top, .top, .top, .top, .top]
def addr_quoted_L0_rp : List RS := [.box 82 2 false [.ptr 0 0 0, .row 1], .row 5 1 (.int .u8) true false]
def addr_quoted_L0_ret_sp : List Sl := [.top, .top, .dat .str, .dat .str, .top, .top, .top, .top, .top, .top, .top, .top, .top, .top, .top, .top, .top, .top, .top, .top, .top, .top, .top, .top, .top, .top, .top, .top, .top, .top, .top, .top, .top, .top, .top, .top, .top, .top, .top, .top, .top, .top, .top, .top, .top, .top, .top, .top]
def addr_quoted_L0_ret_rp : List RS := []
def addr_quoted_L0_K (K : XE → List AV → AHeap → Option Out) : Lx Unit (ByteArray × ByteArray) → Option Out := fun x => onL x (fun _ => none) (fun a => K .ret (encF (nsOf addr_quoted_L0_ret_rp ()) addr_quoted_L0_ret_sp (a.1, (a.2, ()))) (encH (nsOf addr_quoted_L0_ret_rp ()) addr_quoted_L0_ret_rp ())) (fun p => K (.panic (wrongV 61 p)) (List.replicate 48 .top) [])
def addr_quoted_B (n : Nat) {R : Type} (s : ByteArray) (k : (ByteArray × ByteArray × Unit) → Option R) (kp : Int → Option R) : Option R :=
  (addr_must n (decide ((1 : Int) < (s.size : Int)))).bind fun x_1 => onX x_1 (fun p =>
    kp p) (fun v =>
  if 0 ≤ (1 : Int) ∧ (1 : Int) < (s.size : Int) then
    if ((bt s (1 : Int)) == (34 : Int)) = true then
      if 0 ≤ (IntKind.wrap .i64 ((1 : Int) + (1 : Int))) ∧ (IntKind.wrap .i64 ((1 : Int) + (1 : Int))) ≤ (s.size : Int) then
        (strings_Builder_String_v0 n).bind fun v1 =>
        k (v1.1, ((s.extract (Int.toNat (IntKind.wrap .i64 ((1 : Int) + (1 : Int)))) (Int.toNat (s.size : Int))), ()))
      else
        none
    else
      if 0 ≤ (1 : Int) ∧ (1 : Int) < (s.size : Int) then
        if ((bt s (1 : Int)) == (92 : Int)) = true then
          (addr_must n (decide ((IntKind.wrap .i64 ((1 : Int) + (1 : Int))) < (s.size : Int)))).bind fun x_2 => onX x_2 (fun p1 =>
            kp p1) (fun v2 =>
          if 0 ≤ (IntKind.wrap .i64 ((1 : Int) + (1 : Int))) ∧ (IntKind.wrap .i64 ((1 : Int) + (1 : Int))) < (s.size : Int) then
            if (decide ((bt s (IntKind.wrap .i64 ((1 : Int) + (1 : Int)))) ≥ (32 : Int))) = true then
              if 0 ≤ (IntKind.wrap .i64 ((1 : Int) + (1 : Int))) ∧ (IntKind.wrap .i64 ((1 : Int) + (1 : Int))) < (s.size : Int) then
                (addr_must n (decide ((bt s (IntKind.wrap .i64 ((1 : Int) + (1 : Int)))) ≤ (126 : Int)))).bind fun x_3 => onX x_3 (fun p2 =>
                  kp p2) (fun v3 =>
                if 0 ≤ (IntKind.wrap .i64 ((1 : Int) + (1 : Int))) ∧ (IntKind.wrap .i64 ((1 : Int) + (1 : Int))) < (s.size : Int) then
                  (strings_Builder_WriteByte_v0 n (bt s (IntKind.wrap .i64 ((1 : Int) + (1 : Int))))).bind fun v4 =>
                  (addr_quoted_L0 n n s (IntKind.wrap .i64 ((IntKind.wrap .i64 ((1 : Int) + (1 : Int))) + (1 : Int))) v4.1).bind fun x_4 => onL x_4
                    (fun _ => none)
                    (fun a_5 =>
                      k (a_5.1, (a_5.2, ())))
                    (fun p9 =>
                      kp p9)
                else
                  none)
              else
                none
            else
              (addr_must n false).bind fun x_6 => onX x_6 (fun p10 =>
                kp p10) (fun v16 =>
              if 0 ≤ (IntKind.wrap .i64 ((1 : Int) + (1 : Int))) ∧ (IntKind.wrap .i64 ((1 : Int) + (1 : Int))) < (s.size : Int) then
                (strings_Builder_WriteByte_v0 n (bt s (IntKind.wrap .i64 ((1 : Int) + (1 : Int))))).bind fun v17 =>
                (addr_quoted_L0 n n s (IntKind.wrap .i64 ((IntKind.wrap .i64 ((1 : Int) + (1 : Int))) + (1 : Int))) v17.1).bind fun x_7 => onL x_7
                  (fun _ => none)
                  (fun a_8 =>
                    k (a_8.1, (a_8.2, ())))
                  (fun p11 =>
                    kp p11)
              else
                none)
          else
            none)
        else
          if 0 ≤ (1 : Int) ∧ (1 : Int) < (s.size : Int) then
            if (decide ((bt s (1 : Int)) ≥ (32 : Int))) = true then
              if 0 ≤ (1 : Int) ∧ (1 : Int) < (s.size : Int) then
                (addr_must n (decide ((bt s (1 : Int)) ≤ (126 : Int)))).bind fun x_9 => onX x_9 (fun p12 =>
                  kp p12) (fun v18 =>
                if 0 ≤ (1 : Int) ∧ (1 : Int) < (s.size : Int) then
                  (strings_Builder_WriteByte_v0 n (bt s (1 : Int))).bind fun v19 =>
                  (addr_quoted_L0 n n s (IntKind.wrap .i64 ((1 : Int) + (1 : Int))) v19.1).bind fun x_10 => onL x_10
                    (fun _ => none)
                    (fun a_11 =>
                      k (a_11.1, (a_11.2, ())))
                    (fun p13 =>
                      kp p13)
                else
                  none)
              else
                none
            else
              (addr_must n false).bind fun x_12 => onX x_12 (fun p14 =>
                kp p14) (fun v20 =>
              if 0 ≤ (1 : Int) ∧ (1 : Int) < (s.size : Int) then
                (strings_Builder_WriteByte_v0 n (bt s (1 : Int))).bind fun v21 =>
                (addr_quoted_L0 n n s (IntKind.wrap .i64 ((1 : Int) + (1 : Int))) v21.1).bind fun x_13 => onL x_13
                  (fun _ => none)
                  (fun a_14 =>
                    k (a_14.1, (a_14.2, ())))
                  (fun p15 =>
                    kp p15)
              else
                none)
          else
            none
      else
        none
  else
    none)
def addr_quoted (n : Nat) (s : ByteArray) : Option (Except Int (ByteArray × ByteArray × Unit)) := addr_quoted_B n s (fun y => some (.ok y)) (fun p => some (.error p))
theorem addr_quoted_N (n : Nat) {R S : Type} (s : ByteArray) (k : (ByteArray × ByteArray × Unit) → Option R) (kp : Int → Option R) (φ : R → Option S) : addr_quoted_B n s (fun a => (k a).bind φ) (fun a => (kp a).bind φ) = (addr_quoted_B n s k kp).bind φ := by
  unfold addr_quoted_B
  first | (simp only [ite_bind, bind_bind, onL_bind, onX_bind, none_bind]) | rfl
def addr_quoted_hint (n : Nat) : Hint Out := { live := fun c => (cond (Nat.beq c 0) [(0, none), (4, none), (5, none)] []), run := fun c => (cond (Nat.beq c 0) (some (runL addr_quoted_L0_sp addr_quoted_L0_rp fun σ ρ K => (addr_quoted_L0 n n σ.1 σ.2.1 ρ.2.1).bind (addr_quoted_L0_K K))) none), xm := fun c q => (cond (Nat.beq c 1 && q.isNone) (some [(2, none), (3, none)]) none), sch := fun c => (cond (Nat.beq c 6) (some [(1, 0), (2, 0), (3, 0), (4, 0), (0, 2), (5, 0), (6, 0)]) none), pl := fun c => Nat.beq c 0 }
theorem addr_quoted_L0_E (n : Nat) (K : XE → List AV → AHeap → Option Out) : ∀ (m : Nat) (s1 : ByteArray) (i : Int) (r1 : (Sq Int)), loopI tys (callees Out (strings_Builder_WriteByte_v1_es n)) (addr_quoted_hint n) n (codeAt [1, 1, 1, 0, 0] (bodyOf Tryd.f49)) 0 addr_quoted_L0_sp addr_quoted_L0_rp K m (s1, (i, ())) ((), (r1, ())) = (addr_quoted_L0 n m s1 i r1).bind (addr_quoted_L0_K K)
  | 0, s1, i, r1 => by kernel_rfl
  | m + 1, s1, i, r1 => by
    have h1 : loopI tys (callees Out (strings_Builder_WriteByte_v1_es n)) (addr_quoted_hint n) n (codeAt [1, 1, 1, 0, 0] (bodyOf Tryd.f49)) 0 addr_quoted_L0_sp addr_quoted_L0_rp K (m + 1) (s1, (i, ())) ((), (r1, ())) = addr_quoted_B0 n s1 i r1 (fun (s1 : ByteArray) (i : Int) (r1 : (Sq Int)) => loopI tys (callees Out (strings_Builder_WriteByte_v1_es n)) (addr_quoted_hint n) n (codeAt [1, 1, 1, 0, 0] (bodyOf Tryd.f49)) 0 addr_quoted_L0_sp addr_quoted_L0_rp K m (s1, (i, ())) ((), (r1, ()))) (fun a => addr_quoted_L0_K K (.out a)) (fun a => addr_quoted_L0_K K (.ret a)) (fun p => addr_quoted_L0_K K (.pan p)) := by kernel_rfl
    have h2 : (fun (s1 : ByteArray) (i : Int) (r1 : (Sq Int)) => loopI tys (callees Out (strings_Builder_WriteByte_v1_es n)) (addr_quoted_hint n) n (codeAt [1, 1, 1, 0, 0] (bodyOf Tryd.f49)) 0 addr_quoted_L0_sp addr_quoted_L0_rp K m (s1, (i, ())) ((), (r1, ()))) = (fun (s1 : ByteArray) (i : Int) (r1 : (Sq Int)) => (addr_quoted_L0 n m s1 i r1).bind (addr_quoted_L0_K K)) := funext fun s1 => funext fun i => funext fun r1 => addr_quoted_L0_E n K m s1 i r1
    exact h1.trans ((congrArg (fun z => addr_quoted_B0 n s1 i r1 z (fun a => addr_quoted_L0_K K (.out a)) (fun a => addr_quoted_L0_K K (.ret a)) (fun p => addr_quoted_L0_K K (.pan p))) h2).trans (addr_quoted_B0_N n s1 i r1 (fun (s1 : ByteArray) (i : Int) (r1 : (Sq Int)) => addr_quoted_L0 n m s1 i r1) (fun a => some (.out a)) (fun a => some (.ret a)) (fun p => some (.pan p)) (addr_quoted_L0_K K)))
theorem addr_quoted_L0_ok (n : Nat) : RunOk tys (callees Out (strings_Builder_WriteByte_v1_es n)) (addr_quoted_hint n) n (codeAt [1, 1, 1, 0, 0] (bodyOf Tryd.f49)) 0 := runOk_of (sp := addr_quoted_L0_sp) (rp := addr_quoted_L0_rp) (F := fun σ ρ K => (addr_quoted_L0 n n σ.1 σ.2.1 ρ.2.1).bind (addr_quoted_L0_K K)) (by kernel_rfl) fun K σ ρ => addr_quoted_L0_E n K n σ.1 σ.2.1 ρ.2.1
theorem addr_quoted_runs (n : Nat) : RunsOk tys (callees Out (strings_Builder_WriteByte_v1_es n)) (addr_quoted_hint n) n (bodyOf Tryd.f49) 0 := ⟨trivial, ⟨trivial, ⟨trivial, ⟨addr_quoted_L0_ok n, ⟨⟨trivial, ⟨⟨trivial, ⟨⟨trivial, trivial⟩, trivial⟩⟩, ⟨⟨trivial, ⟨⟨trivial, trivial⟩, trivial⟩⟩, ⟨trivial, trivial⟩⟩⟩⟩, trivial⟩⟩⟩⟩⟩
theorem addr_quoted_at : Tryd.prog.funcs[49]? = some Tryd.f49 := by kernel_rfl
theorem addr_quoted_ent (n : Nat) : Enters Tryd.prog 49 := enters_of (c := bodyOf Tryd.f49) addr_quoted_at (by kernel_rfl) (by kernel_rfl)
theorem addr_quoted_E (n : Nat) (s : ByteArray) : fnA tys (callees Out (strings_Builder_WriteByte_v1_es n)) (addr_quoted_hint n) n Tryd.f49 (encL (.pair .str .unit) (s, ())) [] (soloA fun v => some (.ret v)) (soloA fun v => some (.pan v)) = addr_quoted_B n s (fun y => some (.ret (encR (.many (.pair .str (.pair .str .unit))) y))) (fun p => some (.pan (wrongV 61 p))) := by kernel_rfl
theorem addr_quoted_ok (n : Nat) : EntryOk Tryd.prog gl ⟨49, pcX 61 (.pair .str .unit) (.many (.pair .str (.pair .str .unit))) (fun xs => addr_quoted n xs.1), none, none⟩ :=
  pcX_ok (addr_quoted_ent n) (fun xs y h => ans_of_fn tys_ok (strings_Builder_WriteByte_v1_es_ok n) mixed (hint := addr_quoted_hint n) (n := n) (fn := Tryd.f49) addr_quoted_at (fun c hc => by
    have : bodyOf Tryd.f49 = c := by unfold bodyOf; rw [hc]; rfl
    exact this ▸ addr_quoted_runs n) (run_ret (φ := (fun r => onX r (fun p => some (Out.pan (wrongV 61 p))) fun y => some (Out.ret (encR (.many (.pair .str (.pair .str .unit))) y)))) ((addr_quoted_E n xs.1).trans (addr_quoted_N (R := Except Int (ByteArray × ByteArray × Unit)) (S := Out) n xs.1 (fun y => some (.ok y)) (fun p => some (.error p)) (fun r => onX r (fun p => some (Out.pan (wrongV 61 p))) fun y => some (Out.ret (encR (.many (.pair .str (.pair .str .unit))) y))))) h))
    (fun xs p h => ans_of_fn tys_ok (strings_Builder_WriteByte_v1_es_ok n) mixed (hint := addr_quoted_hint n) (n := n) (fn := Tryd.f49) addr_quoted_at (fun c hc => by
    have : bodyOf Tryd.f49 = c := by unfold bodyOf; rw [hc]; rfl
    exact this ▸ addr_quoted_runs n) (run_ret (φ := (fun r => onX r (fun p => some (Out.pan (wrongV 61 p))) fun y => some (Out.ret (encR (.many (.pair .str (.pair .str .unit))) y)))) ((addr_quoted_E n xs.1).trans (addr_quoted_N (R := Except Int (ByteArray × ByteArray × Unit)) (S := Out) n xs.1 (fun y => some (.ok y)) (fun p => some (.error p)) (fun r => onX r (fun p => some (Out.pan (wrongV 61 p))) fun y => some (Out.ret (encR (.many (.pair .str (.pair .str .unit))) y))))) h))
def addr_quoted_es (n : Nat) : List Entry := ⟨49, pcX 61 (.pair .str .unit) (.many (.pair .str (.pair .str .unit))) (fun xs => addr_quoted n xs.1), none, none⟩ :: strings_Builder_WriteByte_v1_es n
theorem addr_quoted_es_ok (n : Nat) : AllOk Tryd.prog gl (addr_quoted_es n) := .cons (addr_quoted_ok n) (strings_Builder_WriteByte_v1_es_ok n)

/- pouch/addr.sign -/
def addr_sign_B (n : Nat) {R : Type} (c : Int) (k : Bool → Option R) : Option R :=
  if (decide (c ≥ (97 : Int))) = true then
    if (decide (c ≤ (122 : Int))) = false then
      if (decide (c ≥ (48 : Int))) = true then
        k (decide (c ≤ (57 : Int)))
      else
        k false
    else
      k true
  else
    if (decide (c ≥ (48 : Int))) = true then
      k (decide (c ≤ (57 : Int)))
    else
      k false
def addr_sign (n : Nat) (c : Int) : Option Bool := addr_sign_B n c some
theorem addr_sign_N (n : Nat) {R S : Type} (c : Int) (k : Bool → Option R) (φ : R → Option S) : addr_sign_B n c (fun a => (k a).bind φ) = (addr_sign_B n c k).bind φ := by
  unfold addr_sign_B
  first | (simp only [ite_bind, bind_bind, onL_bind, onX_bind, none_bind]) | rfl
def addr_sign_hint (n : Nat) : Hint Out := { live := fun c => [], run := fun c => none, xm := fun c q => none }
theorem addr_sign_runs (n : Nat) : RunsOk tys (callees Out (addr_quoted_es n)) (addr_sign_hint n) n (bodyOf Tryd.f59) 0 := ⟨trivial, ⟨trivial, trivial⟩⟩
theorem addr_sign_at : Tryd.prog.funcs[59]? = some Tryd.f59 := by kernel_rfl
theorem addr_sign_ent (n : Nat) : Enters Tryd.prog 59 := enters_of (c := bodyOf Tryd.f59) addr_sign_at (by kernel_rfl) (by kernel_rfl)
theorem addr_sign_E (n : Nat) (c : Int) : fnA tys (callees Out (addr_quoted_es n)) (addr_sign_hint n) n Tryd.f59 (encL (.pair (.int .u8) .unit) (c, ())) [] (soloA fun v => some (.ret v)) (soloA fun v => some (.pan v)) = addr_sign_B n c (fun y => some (.ret (encR (.one .bool) y))) := by kernel_rfl
theorem addr_sign_ok (n : Nat) : EntryOk Tryd.prog gl ⟨59, pcT (.pair (.int .u8) .unit) (.one .bool) (fun xs => addr_sign n xs.1), none, none⟩ :=
  pcT_ok (addr_sign_ent n) fun xs y h => ans_of_fn tys_ok (addr_quoted_es_ok n) mixed (hint := addr_sign_hint n) (n := n) (fn := Tryd.f59) addr_sign_at (fun c hc => by
    have : bodyOf Tryd.f59 = c := by unfold bodyOf; rw [hc]; rfl
    exact this ▸ addr_sign_runs n) (run_ret (φ := (fun y => some (Out.ret (encR (.one .bool) y)))) ((addr_sign_E n xs.1).trans (addr_sign_N (R := Bool) (S := Out) n xs.1 some (fun y => some (Out.ret (encR (.one .bool) y))))) h)
def addr_sign_es (n : Nat) : List Entry := ⟨59, pcT (.pair (.int .u8) .unit) (.one .bool) (fun xs => addr_sign n xs.1), none, none⟩ :: addr_quoted_es n
theorem addr_sign_es_ok (n : Nat) : AllOk Tryd.prog gl (addr_sign_es n) := .cons (addr_sign_ok n) (addr_quoted_es_ok n)

/- internal/bytealg.IndexByteString -/
theorem internal_bytealg_IndexByteString_at : Tryd.prog.funcs[72]? = some Tryd.f72 := by kernel_rfl
theorem internal_bytealg_IndexByteString_ok : EntryOk Tryd.prog gl ⟨72, noPc, some (.flat xIndexByte), none⟩ := indexByte_entry internal_bytealg_IndexByteString_at (by kernel_rfl) (by kernel_rfl) (by kernel_rfl) (by kernel_rfl)
def internal_bytealg_IndexByteString_es (n : Nat) : List Entry := ⟨72, noPc, some (.flat xIndexByte), none⟩ :: addr_sign_es n
theorem internal_bytealg_IndexByteString_es_ok (n : Nat) : AllOk Tryd.prog gl (internal_bytealg_IndexByteString_es n) := .cons internal_bytealg_IndexByteString_ok (addr_sign_es_ok n)

/- internal/stringslite.IndexByte -/
def internal_stringslite_IndexByte_B (n : Nat) {R : Type} (s : ByteArray) (c : Int) (k : Int → Option R) : Option R :=
  k (Lib.indexByte s.data.toList (Nat.toUInt8 (Int.toNat c)))
def internal_stringslite_IndexByte (n : Nat) (s : ByteArray) (c : Int) : Option Int := internal_stringslite_IndexByte_B n s c some
theorem internal_stringslite_IndexByte_N (n : Nat) {R S : Type} (s : ByteArray) (c : Int) (k : Int → Option R) (φ : R → Option S) : internal_stringslite_IndexByte_B n s c (fun a => (k a).bind φ) = (internal_stringslite_IndexByte_B n s c k).bind φ := by
  unfold internal_stringslite_IndexByte_B
  first | (simp only [ite_bind, bind_bind, onL_bind, onX_bind, none_bind]) | rfl
def internal_stringslite_IndexByte_hint (n : Nat) : Hint Out := { live := fun c => [], run := fun c => none, xm := fun c q => none }
theorem internal_stringslite_IndexByte_runs (n : Nat) : RunsOk tys (callees Out (internal_bytealg_IndexByteString_es n)) (internal_stringslite_IndexByte_hint n) n (bodyOf Tryd.f62) 0 := ⟨trivial, ⟨trivial, trivial⟩⟩
theorem internal_stringslite_IndexByte_at : Tryd.prog.funcs[62]? = some Tryd.f62 := by kernel_rfl
theorem internal_stringslite_IndexByte_ent (n : Nat) : Enters Tryd.prog 62 := enters_of (c := bodyOf Tryd.f62) internal_stringslite_IndexByte_at (by kernel_rfl) (by kernel_rfl)
theorem internal_stringslite_IndexByte_E (n : Nat) (s : ByteArray) (c : Int) : fnA tys (callees Out (internal_bytealg_IndexByteString_es n)) (internal_stringslite_IndexByte_hint n) n Tryd.f62 (encL (.pair .str (.pair (.int .u8) .unit)) (s, (c, ()))) [] (soloA fun v => some (.ret v)) (soloA fun v => some (.pan v)) = internal_stringslite_IndexByte_B n s c (fun y => some (.ret (encR (.one (.int .i64)) y))) := by kernel_rfl
theorem internal_stringslite_IndexByte_ok (n : Nat) : EntryOk Tryd.prog gl ⟨62, pcT (.pair .str (.pair (.int .u8) .unit)) (.one (.int .i64)) (fun xs => internal_stringslite_IndexByte n xs.1 xs.2.1), none, none⟩ :=
  pcT_ok (internal_stringslite_IndexByte_ent n) fun xs y h => ans_of_fn tys_ok (internal_bytealg_IndexByteString_es_ok n) mixed (hint := internal_stringslite_IndexByte_hint n) (n := n) (fn := Tryd.f62) internal_stringslite_IndexByte_at (fun c hc => by
    have : bodyOf Tryd.f62 = c := by unfold bodyOf; rw [hc]; rfl
    exact this ▸ internal_stringslite_IndexByte_runs n) (run_ret (φ := (fun y => some (Out.ret (encR (.one (.int .i64)) y)))) ((internal_stringslite_IndexByte_E n xs.1 xs.2.1).trans (internal_stringslite_IndexByte_N (R := Int) (S := Out) n xs.1 xs.2.1 some (fun y => some (Out.ret (encR (.one (.int .i64)) y))))) h)
def internal_stringslite_IndexByte_es (n : Nat) : List Entry := ⟨62, pcT (.pair .str (.pair (.int .u8) .unit)) (.one (.int .i64)) (fun xs => internal_stringslite_IndexByte n xs.1 xs.2.1), none, none⟩ :: internal_bytealg_IndexByteString_es n
theorem internal_stringslite_IndexByte_es_ok (n : Nat) : AllOk Tryd.prog gl (internal_stringslite_IndexByte_es n) := .cons (internal_stringslite_IndexByte_ok n) (internal_bytealg_IndexByteString_es_ok n)

/- strings.IndexByte -/
def strings_IndexByte_B (n : Nat) {R : Type} (s : ByteArray) (c : Int) (k : Int → Option R) : Option R :=
  (internal_stringslite_IndexByte n s c).bind fun v =>
  k v
def strings_IndexByte (n : Nat) (s : ByteArray) (c : Int) : Option Int := strings_IndexByte_B n s c some
theorem strings_IndexByte_N (n : Nat) {R S : Type} (s : ByteArray) (c : Int) (k : Int → Option R) (φ : R → Option S) : strings_IndexByte_B n s c (fun a => (k a).bind φ) = (strings_IndexByte_B n s c k).bind φ := by
  unfold strings_IndexByte_B
  first | (simp only [ite_bind, bind_bind, onL_bind, onX_bind, none_bind]) | rfl
def strings_IndexByte_hint (n : Nat) : Hint Out := { live := fun c => [], run := fun c => none, xm := fun c q => none }
theorem strings_IndexByte_runs (n : Nat) : RunsOk tys (callees Out (internal_stringslite_IndexByte_es n)) (strings_IndexByte_hint n) n (bodyOf Tryd.f51) 0 := ⟨trivial, ⟨trivial, trivial⟩⟩
theorem strings_IndexByte_at : Tryd.prog.funcs[51]? = some Tryd.f51 := by kernel_rfl
theorem strings_IndexByte_ent (n : Nat) : Enters Tryd.prog 51 := enters_of (c := bodyOf Tryd.f51) strings_IndexByte_at (by kernel_rfl) (by kernel_rfl)
theorem strings_IndexByte_E (n : Nat) (s : ByteArray) (c : Int) : fnA tys (callees Out (internal_stringslite_IndexByte_es n)) (strings_IndexByte_hint n) n Tryd.f51 (encL (.pair .str (.pair (.int .u8) .unit)) (s, (c, ()))) [] (soloA fun v => some (.ret v)) (soloA fun v => some (.pan v)) = strings_IndexByte_B n s c (fun y => some (.ret (encR (.one (.int .i64)) y))) := by kernel_rfl
theorem strings_IndexByte_ok (n : Nat) : EntryOk Tryd.prog gl ⟨51, pcT (.pair .str (.pair (.int .u8) .unit)) (.one (.int .i64)) (fun xs => strings_IndexByte n xs.1 xs.2.1), none, none⟩ :=
  pcT_ok (strings_IndexByte_ent n) fun xs y h => ans_of_fn tys_ok (internal_stringslite_IndexByte_es_ok n) mixed (hint := strings_IndexByte_hint n) (n := n) (fn := Tryd.f51) strings_IndexByte_at (fun c hc => by
    have : bodyOf Tryd.f51 = c := by unfold bodyOf; rw [hc]; rfl
    exact this ▸ strings_IndexByte_runs n) (run_ret (φ := (fun y => some (Out.ret (encR (.one (.int .i64)) y)))) ((strings_IndexByte_E n xs.1 xs.2.1).trans (strings_IndexByte_N (R := Int) (S := Out) n xs.1 xs.2.1 some (fun y => some (Out.ret (encR (.one (.int .i64)) y))))) h)
def strings_IndexByte_es (n : Nat) : List Entry := ⟨51, pcT (.pair .str (.pair (.int .u8) .unit)) (.one (.int .i64)) (fun xs => strings_IndexByte n xs.1 xs.2.1), none, none⟩ :: internal_stringslite_IndexByte_es n
theorem strings_IndexByte_es_ok (n : Nat) : AllOk Tryd.prog gl (strings_IndexByte_es n) := .cons (strings_IndexByte_ok n) (internal_stringslite_IndexByte_es_ok n)

/- pouch/addr.atom -/
def addr_atom_B (n : Nat) {R : Type} (c : Int) (k : Bool → Option R) : Option R :=
  (addr_sign n c).bind fun v =>
  if v = false then
    if (decide (c ≥ (65 : Int))) = true then
      if (decide (c ≤ (90 : Int))) = false then
        (strings_IndexByte n (⟨#[33, 35, 36, 37, 38, 39, 42, 43, 45, 47, 61, 63, 94, 95, 96, 123, 124, 125, 126]⟩ : ByteArray) c).bind fun v1 =>
        k (decide (v1 ≥ (0 : Int)))
      else
        k true
    else
      (strings_IndexByte n (⟨#[33, 35, 36, 37, 38, 39, 42, 43, 45, 47, 61, 63, 94, 95, 96, 123, 124, 125, 126]⟩ : ByteArray) c).bind fun v2 =>
      k (decide (v2 ≥ (0 : Int)))
  else
    k true
def addr_atom (n : Nat) (c : Int) : Option Bool := addr_atom_B n c some
theorem addr_atom_N (n : Nat) {R S : Type} (c : Int) (k : Bool → Option R) (φ : R → Option S) : addr_atom_B n c (fun a => (k a).bind φ) = (addr_atom_B n c k).bind φ := by
  unfold addr_atom_B
  first | (simp only [ite_bind, bind_bind, onL_bind, onX_bind, none_bind]) | rfl
def addr_atom_hint (n : Nat) : Hint Out := { live := fun c => [], run := fun c => none, xm := fun c q => none }
theorem addr_atom_runs (n : Nat) : RunsOk tys (callees Out (strings_IndexByte_es n)) (addr_atom_hint n) n (bodyOf Tryd.f63) 0 := ⟨trivial, ⟨trivial, trivial⟩⟩
theorem addr_atom_at : Tryd.prog.funcs[63]? = some Tryd.f63 := by kernel_rfl
theorem addr_atom_ent (n : Nat) : Enters Tryd.prog 63 := enters_of (c := bodyOf Tryd.f63) addr_atom_at (by kernel_rfl) (by kernel_rfl)
theorem addr_atom_E (n : Nat) (c : Int) : fnA tys (callees Out (strings_IndexByte_es n)) (addr_atom_hint n) n Tryd.f63 (encL (.pair (.int .u8) .unit) (c, ())) [] (soloA fun v => some (.ret v)) (soloA fun v => some (.pan v)) = addr_atom_B n c (fun y => some (.ret (encR (.one .bool) y))) := by kernel_rfl
theorem addr_atom_ok (n : Nat) : EntryOk Tryd.prog gl ⟨63, pcT (.pair (.int .u8) .unit) (.one .bool) (fun xs => addr_atom n xs.1), none, none⟩ :=
  pcT_ok (addr_atom_ent n) fun xs y h => ans_of_fn tys_ok (strings_IndexByte_es_ok n) mixed (hint := addr_atom_hint n) (n := n) (fn := Tryd.f63) addr_atom_at (fun c hc => by
    have : bodyOf Tryd.f63 = c := by unfold bodyOf; rw [hc]; rfl
    exact this ▸ addr_atom_runs n) (run_ret (φ := (fun y => some (Out.ret (encR (.one .bool) y)))) ((addr_atom_E n xs.1).trans (addr_atom_N (R := Bool) (S := Out) n xs.1 some (fun y => some (Out.ret (encR (.one .bool) y))))) h)
def addr_atom_es (n : Nat) : List Entry := ⟨63, pcT (.pair (.int .u8) .unit) (.one .bool) (fun xs => addr_atom n xs.1), none, none⟩ :: strings_IndexByte_es n
theorem addr_atom_es_ok (n : Nat) : AllOk Tryd.prog gl (addr_atom_es n) := .cons (addr_atom_ok n) (strings_IndexByte_es_ok n)

/- pouch/addr.plain -/
def addr_plain_B0 (n : Nat) {R : Type} (s1 : ByteArray) (word : Int) (t6 : Int) (t7 : Int) (kn : ByteArray → Int → Int → Int → Option R) (ko : (Int) → Option R) (kr : (Bool) → Option R) (kp : Int → Option R) : Option R :=
  if (decide (t7 < t6)) = true then
    if 0 ≤ t7 ∧ t7 < (s1.size : Int) then
      if ((bt s1 t7) == (46 : Int)) = true then
        if (word == (0 : Int)) = false then
          if 0 ≤ t7 ∧ t7 < (s1.size : Int) then
            if ((bt s1 t7) != (46 : Int)) = true then
              if 0 ≤ t7 ∧ t7 < (s1.size : Int) then
                (addr_atom n (bt s1 t7)).bind fun v =>
                if (!v) = true then
                  kr false
                else
                  if 0 ≤ t7 ∧ t7 < (s1.size : Int) then
                    if ((bt s1 t7) == (46 : Int)) = true then
                      kn s1 (0 : Int) t6 (IntKind.wrap .i64 (t7 + (1 : Int)))
                    else
                      kn s1 (IntKind.wrap .i64 (word + (1 : Int))) t6 (IntKind.wrap .i64 (t7 + (1 : Int)))
                  else
                    none
              else
                none
            else
              if 0 ≤ t7 ∧ t7 < (s1.size : Int) then
                if ((bt s1 t7) == (46 : Int)) = true then
                  kn s1 (0 : Int) t6 (IntKind.wrap .i64 (t7 + (1 : Int)))
                else
                  kn s1 (IntKind.wrap .i64 (word + (1 : Int))) t6 (IntKind.wrap .i64 (t7 + (1 : Int)))
              else
                none
          else
            none
        else
          kr false
      else
        if 0 ≤ t7 ∧ t7 < (s1.size : Int) then
          if ((bt s1 t7) != (46 : Int)) = true then
            if 0 ≤ t7 ∧ t7 < (s1.size : Int) then
              (addr_atom n (bt s1 t7)).bind fun v1 =>
              if (!v1) = true then
                kr false
              else
                if 0 ≤ t7 ∧ t7 < (s1.size : Int) then
                  if ((bt s1 t7) == (46 : Int)) = true then
                    kn s1 (0 : Int) t6 (IntKind.wrap .i64 (t7 + (1 : Int)))
                  else
                    kn s1 (IntKind.wrap .i64 (word + (1 : Int))) t6 (IntKind.wrap .i64 (t7 + (1 : Int)))
                else
                  none
            else
              none
          else
            if 0 ≤ t7 ∧ t7 < (s1.size : Int) then
              if ((bt s1 t7) == (46 : Int)) = true then
                kn s1 (0 : Int) t6 (IntKind.wrap .i64 (t7 + (1 : Int)))
              else
                kn s1 (IntKind.wrap .i64 (word + (1 : Int))) t6 (IntKind.wrap .i64 (t7 + (1 : Int)))
            else
              none
        else
          none
    else
      none
  else
    ko word
theorem addr_plain_B0_N (n : Nat) {R S : Type} (s1 : ByteArray) (word : Int) (t6 : Int) (t7 : Int) (kn : ByteArray → Int → Int → Int → Option R) (ko : (Int) → Option R) (kr : (Bool) → Option R) (kp : Int → Option R) (φ : R → Option S) : addr_plain_B0 n s1 word t6 t7 (fun s1 word t6 t7 => (kn s1 word t6 t7).bind φ) (fun a => (ko a).bind φ) (fun a => (kr a).bind φ) (fun a => (kp a).bind φ) = (addr_plain_B0 n s1 word t6 t7 kn ko kr kp).bind φ := by
  unfold addr_plain_B0
  first | (simp only [ite_bind, bind_bind, onL_bind, onX_bind, none_bind]) | rfl
def addr_plain_L0 (n : Nat) : Nat → ByteArray → Int → Int → Int → Option (Lx (Int) (Bool))
  | 0, _, _, _, _ => none
  | m + 1, s1, word, t6, t7 => addr_plain_B0 n s1 word t6 t7 (fun s1 word t6 t7 => addr_plain_L0 n m s1 word t6 t7) (fun a => some (.out a)) (fun a => some (.ret a)) (fun p => some (.pan p))
def addr_plain_L0_sp : List Sl := [.dat .str, .top, .top, .dat (.int .i64), .top, .top, .dat (.int .i64), .dat (.int .i64), .top, .top, .top, .top, .top, .top, .top, .top, .top, .top, .top, .top, .top, .top, .top, .top, .top, .top, .top, .top, .top, .top, .top, .top, .top, .top, .top, .top, .top, .top, .top, .top]
def addr_plain_L0_rp : List RS := []
def addr_plain_L0_out_sp : List Sl := [.top, .top, .top, .dat (.int .i64), .top, .top, .top, .top, .top, .top, .top, .top, .top, .top, .top, .top, .top, .top, .top, .top, .top, .top, .top, .top, .top, .top, .top, .top, .top, .top, .top, .top, .top, .top, .top, .top, .top, .top, .top, .top]
def addr_plain_L0_out_rp : List RS := []
def addr_plain_L0_ret_sp : List Sl := [.top, .top, .dat .bool, .top, .top, .top, .top, .top, .top, .top, .top, .top, .top, .top, .top, .top, .top, .top, .top, .top, .top, .top, .top, .top, .top, .top, .top, .top, .top, .top, .top, .top, .top, .top, .top, .top, .top, .top, .top, .top]
def addr_plain_L0_ret_rp : List RS := []
def addr_plain_L0_K (K : XE → List AV → AHeap → Option Out) : Lx (Int) (Bool) → Option Out := fun x => onL x (fun a => K (.exit 0) (encF (nsOf addr_plain_L0_out_rp ()) addr_plain_L0_out_sp (a, ())) (encH (nsOf addr_plain_L0_out_rp ()) addr_plain_L0_out_rp ())) (fun a => K .ret (encF (nsOf addr_plain_L0_ret_rp ()) addr_plain_L0_ret_sp (a, ())) (encH (nsOf addr_plain_L0_ret_rp ()) addr_plain_L0_ret_rp ())) (fun _ => none)
def addr_plain_B (n : Nat) {R : Type} (s : ByteArray) (k : Bool → Option R) : Option R :=
  (addr_plain_L0 n n s (0 : Int) (s.size : Int) (0 : Int)).bind fun x_1 => onL x_1
    (fun a_2 =>
      k (decide (a_2 > (0 : Int))))
    (fun a_3 =>
      k a_3)
    (fun _ => none)
def addr_plain (n : Nat) (s : ByteArray) : Option Bool := addr_plain_B n s some
theorem addr_plain_N (n : Nat) {R S : Type} (s : ByteArray) (k : Bool → Option R) (φ : R → Option S) : addr_plain_B n s (fun a => (k a).bind φ) = (addr_plain_B n s k).bind φ := by
  unfold addr_plain_B
  first | (simp only [ite_bind, bind_bind, onL_bind, onX_bind, none_bind]) | rfl
def addr_plain_hint (n : Nat) : Hint Out := { live := fun c => (cond (Nat.beq c 0) [(0, none), (3, none), (6, none), (7, none)] []), run := fun c => (cond (Nat.beq c 0) (some (runL addr_plain_L0_sp addr_plain_L0_rp fun σ ρ K => (addr_plain_L0 n n σ.1 σ.2.1 σ.2.2.1 σ.2.2.2.1).bind (addr_plain_L0_K K))) none), xm := fun c q => (cond (Nat.beq c 0 && Nat.beq (q.getD 1000000) 0 && q.isSome) (some [(3, none)]) (cond (Nat.beq c 1 && q.isNone) (some [(2, none)]) none)) }
theorem addr_plain_L0_E (n : Nat) (K : XE → List AV → AHeap → Option Out) : ∀ (m : Nat) (s1 : ByteArray) (word : Int) (t6 : Int) (t7 : Int), loopI tys (callees Out (addr_atom_es n)) (addr_plain_hint n) n (codeAt [1, 1, 0, 1, 0, 0] (bodyOf Tryd.f52)) 0 addr_plain_L0_sp addr_plain_L0_rp K m (s1, (word, (t6, (t7, ())))) () = (addr_plain_L0 n m s1 word t6 t7).bind (addr_plain_L0_K K)
  | 0, s1, word, t6, t7 => by kernel_rfl
  | m + 1, s1, word, t6, t7 => by
    have h1 : loopI tys (callees Out (addr_atom_es n)) (addr_plain_hint n) n (codeAt [1, 1, 0, 1, 0, 0] (bodyOf Tryd.f52)) 0 addr_plain_L0_sp addr_plain_L0_rp K (m + 1) (s1, (word, (t6, (t7, ())))) () = addr_plain_B0 n s1 word t6 t7 (fun (s1 : ByteArray) (word : Int) (t6 : Int) (t7 : Int) => loopI tys (callees Out (addr_atom_es n)) (addr_plain_hint n) n (codeAt [1, 1, 0, 1, 0, 0] (bodyOf Tryd.f52)) 0 addr_plain_L0_sp addr_plain_L0_rp K m (s1, (word, (t6, (t7, ())))) ()) (fun a => addr_plain_L0_K K (.out a)) (fun a => addr_plain_L0_K K (.ret a)) (fun p => addr_plain_L0_K K (.pan p)) := by kernel_rfl
    have h2 : (fun (s1 : ByteArray) (word : Int) (t6 : Int) (t7 : Int) => loopI tys (callees Out (addr_atom_es n)) (addr_plain_hint n) n (codeAt [1, 1, 0, 1, 0, 0] (bodyOf Tryd.f52)) 0 addr_plain_L0_sp addr_plain_L0_rp K m (s1, (word, (t6, (t7, ())))) ()) = (fun (s1 : ByteArray) (word : Int) (t6 : Int) (t7 : Int) => (addr_plain_L0 n m s1 word t6 t7).bind (addr_plain_L0_K K)) := funext fun s1 => funext fun word => funext fun t6 => funext fun t7 => addr_plain_L0_E n K m s1 word t6 t7
    exact h1.trans ((congrArg (fun z => addr_plain_B0 n s1 word t6 t7 z (fun a => addr_plain_L0_K K (.out a)) (fun a => addr_plain_L0_K K (.ret a)) (fun p => addr_plain_L0_K K (.pan p))) h2).trans (addr_plain_B0_N n s1 word t6 t7 (fun (s1 : ByteArray) (word : Int) (t6 : Int) (t7 : Int) => addr_plain_L0 n m s1 word t6 t7) (fun a => some (.out a)) (fun a => some (.ret a)) (fun p => some (.pan p)) (addr_plain_L0_K K)))
theorem addr_plain_L0_ok (n : Nat) : RunOk tys (callees Out (addr_atom_es n)) (addr_plain_hint n) n (codeAt [1, 1, 0, 1, 0, 0] (bodyOf Tryd.f52)) 0 := runOk_of (sp := addr_plain_L0_sp) (rp := addr_plain_L0_rp) (F := fun σ ρ K => (addr_plain_L0 n n σ.1 σ.2.1 σ.2.2.1 σ.2.2.2.1).bind (addr_plain_L0_K K)) (by kernel_rfl) fun K σ ρ => addr_plain_L0_E n K n σ.1 σ.2.1 σ.2.2.1 σ.2.2.2.1
theorem addr_plain_runs (n : Nat) : RunsOk tys (callees Out (addr_atom_es n)) (addr_plain_hint n) n (bodyOf Tryd.f52) 0 := ⟨trivial, ⟨trivial, ⟨⟨trivial, ⟨addr_plain_L0_ok n, ⟨trivial, ⟨⟨trivial, trivial⟩, ⟨⟨trivial, ⟨⟨trivial, ⟨⟨trivial, trivial⟩, trivial⟩⟩, ⟨trivial, ⟨trivial, ⟨trivial, trivial⟩⟩⟩⟩⟩, trivial⟩⟩⟩⟩⟩, ⟨trivial, trivial⟩⟩⟩⟩
theorem addr_plain_at : Tryd.prog.funcs[52]? = some Tryd.f52 := by kernel_rfl
theorem addr_plain_ent (n : Nat) : Enters Tryd.prog 52 := enters_of (c := bodyOf Tryd.f52) addr_plain_at (by kernel_rfl) (by kernel_rfl)
theorem addr_plain_E (n : Nat) (s : ByteArray) : fnA tys (callees Out (addr_atom_es n)) (addr_plain_hint n) n Tryd.f52 (encL (.pair .str .unit) (s, ())) [] (soloA fun v => some (.ret v)) (soloA fun v => some (.pan v)) = addr_plain_B n s (fun y => some (.ret (encR (.one .bool) y))) := by kernel_rfl
theorem addr_plain_ok (n : Nat) : EntryOk Tryd.prog gl ⟨52, pcT (.pair .str .unit) (.one .bool) (fun xs => addr_plain n xs.1), none, none⟩ :=
  pcT_ok (addr_plain_ent n) fun xs y h => ans_of_fn tys_ok (addr_atom_es_ok n) mixed (hint := addr_plain_hint n) (n := n) (fn := Tryd.f52) addr_plain_at (fun c hc => by
    have : bodyOf Tryd.f52 = c := by unfold bodyOf; rw [hc]; rfl
    exact this ▸ addr_plain_runs n) (run_ret (φ := (fun y => some (Out.ret (encR (.one .bool) y)))) ((addr_plain_E n xs.1).trans (addr_plain_N (R := Bool) (S := Out) n xs.1 some (fun y => some (Out.ret (encR (.one .bool) y))))) h)
def addr_plain_es (n : Nat) : List Entry := ⟨52, pcT (.pair .str .unit) (.one .bool) (fun xs => addr_plain n xs.1), none, none⟩ :: addr_atom_es n
theorem addr_plain_es_ok (n : Nat) : AllOk Tryd.prog gl (addr_plain_es n) := .cons (addr_plain_ok n) (addr_atom_es_ok n)

/- pouch/addr.quote -/
def addr_quote_B0 (n : Nat) {R : Type} (s1 : ByteArray) (t10 : Int) (t11 : Int) (r1 : (Sq Int)) (kn : ByteArray → Int → Int → (Sq Int) → Option R) (ko : ((Sq Int)) → Option R) (kr : Unit → Option R) (kp : Int → Option R) : Option R :=
  if (decide (t11 < t10)) = true then
    if 0 ≤ t11 ∧ t11 < (s1.size : Int) then
      if ((bt s1 t11) == (34 : Int)) = false then
        if 0 ≤ t11 ∧ t11 < (s1.size : Int) then
          if ((bt s1 t11) == (92 : Int)) = true then
            (strings_Builder_WriteByte_v1 n (92 : Int) r1).bind fun v2 =>
            if 0 ≤ t11 ∧ t11 < (s1.size : Int) then
              (strings_Builder_WriteByte_v1 n (bt s1 t11) v2.1).bind fun v3 =>
              kn s1 t10 (IntKind.wrap .i64 (t11 + (1 : Int))) v3.1
            else
              none
          else
            if 0 ≤ t11 ∧ t11 < (s1.size : Int) then
              (strings_Builder_WriteByte_v1 n (bt s1 t11) r1).bind fun v4 =>
              kn s1 t10 (IntKind.wrap .i64 (t11 + (1 : Int))) v4.1
            else
              none
        else
          none
      else
        (strings_Builder_WriteByte_v1 n (92 : Int) r1).bind fun v5 =>
        if 0 ≤ t11 ∧ t11 < (s1.size : Int) then
          (strings_Builder_WriteByte_v1 n (bt s1 t11) v5.1).bind fun v6 =>
          kn s1 t10 (IntKind.wrap .i64 (t11 + (1 : Int))) v6.1
        else
          none
    else
      none
  else
    ko r1
theorem addr_quote_B0_N (n : Nat) {R S : Type} (s1 : ByteArray) (t10 : Int) (t11 : Int) (r1 : (Sq Int)) (kn : ByteArray → Int → Int → (Sq Int) → Option R) (ko : ((Sq Int)) → Option R) (kr : Unit → Option R) (kp : Int → Option R) (φ : R → Option S) : addr_quote_B0 n s1 t10 t11 r1 (fun s1 t10 t11 r1 => (kn s1 t10 t11 r1).bind φ) (fun a => (ko a).bind φ) (fun a => (kr a).bind φ) (fun a => (kp a).bind φ) = (addr_quote_B0 n s1 t10 t11 r1 kn ko kr kp).bind φ := by
  unfold addr_quote_B0
  first | (simp only [ite_bind, bind_bind, onL_bind, onX_bind, none_bind]) | rfl
def addr_quote_L0 (n : Nat) : Nat → ByteArray → Int → Int → (Sq Int) → Option (Lx ((Sq Int)) Unit)
  | 0, _, _, _, _ => none
  | m + 1, s1, t10, t11, r1 => addr_quote_B0 n s1 t10 t11 r1 (fun s1 t10 t11 r1 => addr_quote_L0 n m s1 t10 t11 r1) (fun a => some (.out a)) (fun a => some (.ret a)) (fun p => some (.pan p))
def addr_quote_L0_sp : List Sl := [.dat .str, .top, .top, .ptr 0 0 0, .top, .top, .top, .top, .top, .top, .dat (.int .i64), .dat (.int .i64), .top, .top, .top, .top, .top, .top, .top, .top, .top, .top, .top, .top, .top, .top, .top, .top, .top, .top, .top, .top]
def addr_quote_L0_rp : List RS := [.box 82 2 false [.ptr 0 0 0, .row 1], .row 5 1 (.int .u8) true false]
def addr_quote_L0_out_sp : List Sl := [.top, .top, .top, .ptr 0 0 0, .top, .top, .top, .top, .top, .top, .top, .top, .top, .top, .top, .top, .top, .top, .top, .top, .top, .top, .top, .top, .top, .top, .top, .top, .top, .top, .top, .top]
def addr_quote_L0_out_rp : List RS := [.box 82 2 false [.ptr 0 0 0, .row 1], .row 5 1 (.int .u8) true false]
def addr_quote_L0_K (K : XE → List AV → AHeap → Option Out) : Lx ((Sq Int)) Unit → Option Out := fun x => onL x (fun a => K (.exit 0) (encF (nsOf addr_quote_L0_out_rp ((), (a, ()))) addr_quote_L0_out_sp ()) (encH (nsOf addr_quote_L0_out_rp ((), (a, ()))) addr_quote_L0_out_rp ((), (a, ())))) (fun _ => none) (fun _ => none)
def addr_quote_B (n : Nat) {R : Type} (s : ByteArray) (k : ByteArray → Option R) : Option R :=
  (addr_plain n s).bind fun v =>
  if v = true then
    k s
  else
    (strings_Builder_WriteByte_v0 n (34 : Int)).bind fun v1 =>
    (addr_quote_L0 n n s (s.size : Int) (0 : Int) v1.1).bind fun x_1 => onL x_1
      (fun a_2 =>
        (strings_Builder_String_v1 n a_2).bind fun v7 =>
        if strFits v7.1 (⟨#[34]⟩ : ByteArray) = true then
          k (v7.1 ++ (⟨#[34]⟩ : ByteArray))
        else
          none)
      (fun _ => none)
      (fun _ => none)
def addr_quote (n : Nat) (s : ByteArray) : Option ByteArray := addr_quote_B n s some
theorem addr_quote_N (n : Nat) {R S : Type} (s : ByteArray) (k : ByteArray → Option R) (φ : R → Option S) : addr_quote_B n s (fun a => (k a).bind φ) = (addr_quote_B n s k).bind φ := by
  unfold addr_quote_B
  first | (simp only [ite_bind, bind_bind, onL_bind, onX_bind, none_bind]) | rfl
def addr_quote_hint (n : Nat) : Hint Out := { live := fun c => (cond (Nat.beq c 0) [(0, none), (3, none), (10, none), (11, none)] []), run := fun c => (cond (Nat.beq c 0) (some (runL addr_quote_L0_sp addr_quote_L0_rp fun σ ρ K => (addr_quote_L0 n n σ.1 σ.2.1 σ.2.2.1 ρ.2.1).bind (addr_quote_L0_K K))) none), xm := fun c q => (cond (Nat.beq c 0 && Nat.beq (q.getD 1000000) 0 && q.isSome) (some [(3, none)]) none) }
theorem addr_quote_L0_E (n : Nat) (K : XE → List AV → AHeap → Option Out) : ∀ (m : Nat) (s1 : ByteArray) (t10 : Int) (t11 : Int) (r1 : (Sq Int)), loopI tys (callees Out (addr_plain_es n)) (addr_quote_hint n) n (codeAt [1, 1, 1, 1, 0, 1, 0, 0] (bodyOf Tryd.f50)) 0 addr_quote_L0_sp addr_quote_L0_rp K m (s1, (t10, (t11, ()))) ((), (r1, ())) = (addr_quote_L0 n m s1 t10 t11 r1).bind (addr_quote_L0_K K)
  | 0, s1, t10, t11, r1 => by kernel_rfl
  | m + 1, s1, t10, t11, r1 => by
    have h1 : loopI tys (callees Out (addr_plain_es n)) (addr_quote_hint n) n (codeAt [1, 1, 1, 1, 0, 1, 0, 0] (bodyOf Tryd.f50)) 0 addr_quote_L0_sp addr_quote_L0_rp K (m + 1) (s1, (t10, (t11, ()))) ((), (r1, ())) = addr_quote_B0 n s1 t10 t11 r1 (fun (s1 : ByteArray) (t10 : Int) (t11 : Int) (r1 : (Sq Int)) => loopI tys (callees Out (addr_plain_es n)) (addr_quote_hint n) n (codeAt [1, 1, 1, 1, 0, 1, 0, 0] (bodyOf Tryd.f50)) 0 addr_quote_L0_sp addr_quote_L0_rp K m (s1, (t10, (t11, ()))) ((), (r1, ()))) (fun a => addr_quote_L0_K K (.out a)) (fun a => addr_quote_L0_K K (.ret a)) (fun p => addr_quote_L0_K K (.pan p)) := by kernel_rfl
    have h2 : (fun (s1 : ByteArray) (t10 : Int) (t11 : Int) (r1 : (Sq Int)) => loopI tys (callees Out (addr_plain_es n)) (addr_quote_hint n) n (codeAt [1, 1, 1, 1, 0, 1, 0, 0] (bodyOf Tryd.f50)) 0 addr_quote_L0_sp addr_quote_L0_rp K m (s1, (t10, (t11, ()))) ((), (r1, ()))) = (fun (s1 : ByteArray) (t10 : Int) (t11 : Int) (r1 : (Sq Int)) => (addr_quote_L0 n m s1 t10 t11 r1).bind (addr_quote_L0_K K)) := funext fun s1 => funext fun t10 => funext fun t11 => funext fun r1 => addr_quote_L0_E n K m s1 t10 t11 r1
    exact h1.trans ((congrArg (fun z => addr_quote_B0 n s1 t10 t11 r1 z (fun a => addr_quote_L0_K K (.out a)) (fun a => addr_quote_L0_K K (.ret a)) (fun p => addr_quote_L0_K K (.pan p))) h2).trans (addr_quote_B0_N n s1 t10 t11 r1 (fun (s1 : ByteArray) (t10 : Int) (t11 : Int) (r1 : (Sq Int)) => addr_quote_L0 n m s1 t10 t11 r1) (fun a => some (.out a)) (fun a => some (.ret a)) (fun p => some (.pan p)) (addr_quote_L0_K K)))
theorem addr_quote_L0_ok (n : Nat) : RunOk tys (callees Out (addr_plain_es n)) (addr_quote_hint n) n (codeAt [1, 1, 1, 1, 0, 1, 0, 0] (bodyOf Tryd.f50)) 0 := runOk_of (sp := addr_quote_L0_sp) (rp := addr_quote_L0_rp) (F := fun σ ρ K => (addr_quote_L0 n n σ.1 σ.2.1 σ.2.2.1 ρ.2.1).bind (addr_quote_L0_K K)) (by kernel_rfl) fun K σ ρ => addr_quote_L0_E n K n σ.1 σ.2.1 σ.2.2.1 ρ.2.1
theorem addr_quote_runs (n : Nat) : RunsOk tys (callees Out (addr_plain_es n)) (addr_quote_hint n) n (bodyOf Tryd.f50) 0 := ⟨trivial, ⟨⟨trivial, ⟨⟨trivial, trivial⟩, trivial⟩⟩, ⟨trivial, ⟨trivial, ⟨⟨trivial, ⟨addr_quote_L0_ok n, ⟨trivial, ⟨⟨trivial, trivial⟩, ⟨⟨trivial, ⟨⟨trivial, ⟨trivial, trivial⟩⟩, trivial⟩⟩, trivial⟩⟩⟩⟩⟩, ⟨trivial, trivial⟩⟩⟩⟩⟩⟩
theorem addr_quote_at : Tryd.prog.funcs[50]? = some Tryd.f50 := by kernel_rfl
theorem addr_quote_ent (n : Nat) : Enters Tryd.prog 50 := enters_of (c := bodyOf Tryd.f50) addr_quote_at (by kernel_rfl) (by kernel_rfl)
theorem addr_quote_E (n : Nat) (s : ByteArray) : fnA tys (callees Out (addr_plain_es n)) (addr_quote_hint n) n Tryd.f50 (encL (.pair .str .unit) (s, ())) [] (soloA fun v => some (.ret v)) (soloA fun v => some (.pan v)) = addr_quote_B n s (fun y => some (.ret (encR (.one .str) y))) := by kernel_rfl
theorem addr_quote_ok (n : Nat) : EntryOk Tryd.prog gl ⟨50, pcT (.pair .str .unit) (.one .str) (fun xs => addr_quote n xs.1), none, none⟩ :=
  pcT_ok (addr_quote_ent n) fun xs y h => ans_of_fn tys_ok (addr_plain_es_ok n) mixed (hint := addr_quote_hint n) (n := n) (fn := Tryd.f50) addr_quote_at (fun c hc => by
    have : bodyOf Tryd.f50 = c := by unfold bodyOf; rw [hc]; rfl
    exact this ▸ addr_quote_runs n) (run_ret (φ := (fun y => some (Out.ret (encR (.one .str) y)))) ((addr_quote_E n xs.1).trans (addr_quote_N (R := ByteArray) (S := Out) n xs.1 some (fun y => some (Out.ret (encR (.one .str) y))))) h)
def addr_quote_es (n : Nat) : List Entry := ⟨50, pcT (.pair .str .unit) (.one .str) (fun xs => addr_quote n xs.1), none, none⟩ :: addr_plain_es n
theorem addr_quote_es_ok (n : Nat) : AllOk Tryd.prog gl (addr_quote_es n) := .cons (addr_quote_ok n) (addr_plain_es_ok n)

/- pouch/addr.local -/
def addr_local_B (n : Nat) {R : Type} (s : ByteArray) (k : (ByteArray × ByteArray × Unit) → Option R) (kp : Int → Option R) : Option R :=
  (strings_HasPrefix n s (⟨#[34]⟩ : ByteArray)).bind fun v =>
  if v = true then
    (addr_quoted n s).bind fun x_1 => onX x_1 (fun p =>
      kp p) (fun v1 =>
    (addr_quote n v1.1).bind fun v2 =>
    k (v2, (v1.2.1, ())))
  else
    (strings_IndexByte n s (64 : Int)).bind fun v3 =>
    if (decide (v3 ≥ (0 : Int))) = true then
      if 0 ≤ v3 ∧ v3 ≤ (s.size : Int) then
        (addr_plain n (s.extract (Int.toNat (0 : Int)) (Int.toNat v3))).bind fun v4 =>
        (addr_must n v4).bind fun x_2 => onX x_2 (fun p1 =>
          kp p1) (fun v5 =>
        if 0 ≤ v3 ∧ v3 ≤ (s.size : Int) then
          if 0 ≤ v3 ∧ v3 ≤ (s.size : Int) then
            k ((s.extract (Int.toNat (0 : Int)) (Int.toNat v3)), ((s.extract (Int.toNat v3) (Int.toNat (s.size : Int))), ()))
          else
            none
        else
          none)
      else
        none
    else
      (addr_must n false).bind fun x_3 => onX x_3 (fun p2 =>
        kp p2) (fun v6 =>
      if 0 ≤ v3 ∧ v3 ≤ (s.size : Int) then
        if 0 ≤ v3 ∧ v3 ≤ (s.size : Int) then
          k ((s.extract (Int.toNat (0 : Int)) (Int.toNat v3)), ((s.extract (Int.toNat v3) (Int.toNat (s.size : Int))), ()))
        else
          none
      else
        none)
def addr_local (n : Nat) (s : ByteArray) : Option (Except Int (ByteArray × ByteArray × Unit)) := addr_local_B n s (fun y => some (.ok y)) (fun p => some (.error p))
theorem addr_local_N (n : Nat) {R S : Type} (s : ByteArray) (k : (ByteArray × ByteArray × Unit) → Option R) (kp : Int → Option R) (φ : R → Option S) : addr_local_B n s (fun a => (k a).bind φ) (fun a => (kp a).bind φ) = (addr_local_B n s k kp).bind φ := by
  unfold addr_local_B
  first | (simp only [ite_bind, bind_bind, onL_bind, onX_bind, none_bind]) | rfl
def addr_local_hint (n : Nat) : Hint Out := { live := fun c => [], run := fun c => none, xm := fun c q => none }
theorem addr_local_runs (n : Nat) : RunsOk tys (callees Out (addr_quote_es n)) (addr_local_hint n) n (bodyOf Tryd.f40) 0 := ⟨trivial, ⟨⟨trivial, ⟨⟨trivial, ⟨trivial, trivial⟩⟩, trivial⟩⟩, ⟨trivial, ⟨trivial, ⟨trivial, trivial⟩⟩⟩⟩⟩
theorem addr_local_at : Tryd.prog.funcs[40]? = some Tryd.f40 := by kernel_rfl
theorem addr_local_ent (n : Nat) : Enters Tryd.prog 40 := enters_of (c := bodyOf Tryd.f40) addr_local_at (by kernel_rfl) (by kernel_rfl)
theorem addr_local_E (n : Nat) (s : ByteArray) : fnA tys (callees Out (addr_quote_es n)) (addr_local_hint n) n Tryd.f40 (encL (.pair .str .unit) (s, ())) [] (soloA fun v => some (.ret v)) (soloA fun v => some (.pan v)) = addr_local_B n s (fun y => some (.ret (encR (.many (.pair .str (.pair .str .unit))) y))) (fun p => some (.pan (wrongV 61 p))) := by kernel_rfl
theorem addr_local_ok (n : Nat) : EntryOk Tryd.prog gl ⟨40, pcX 61 (.pair .str .unit) (.many (.pair .str (.pair .str .unit))) (fun xs => addr_local n xs.1), none, none⟩ :=
  pcX_ok (addr_local_ent n) (fun xs y h => ans_of_fn tys_ok (addr_quote_es_ok n) mixed (hint := addr_local_hint n) (n := n) (fn := Tryd.f40) addr_local_at (fun c hc => by
    have : bodyOf Tryd.f40 = c := by unfold bodyOf; rw [hc]; rfl
    exact this ▸ addr_local_runs n) (run_ret (φ := (fun r => onX r (fun p => some (Out.pan (wrongV 61 p))) fun y => some (Out.ret (encR (.many (.pair .str (.pair .str .unit))) y)))) ((addr_local_E n xs.1).trans (addr_local_N (R := Except Int (ByteArray × ByteArray × Unit)) (S := Out) n xs.1 (fun y => some (.ok y)) (fun p => some (.error p)) (fun r => onX r (fun p => some (Out.pan (wrongV 61 p))) fun y => some (Out.ret (encR (.many (.pair .str (.pair .str .unit))) y))))) h))
    (fun xs p h => ans_of_fn tys_ok (addr_quote_es_ok n) mixed (hint := addr_local_hint n) (n := n) (fn := Tryd.f40) addr_local_at (fun c hc => by
    have : bodyOf Tryd.f40 = c := by unfold bodyOf; rw [hc]; rfl
    exact this ▸ addr_local_runs n) (run_ret (φ := (fun r => onX r (fun p => some (Out.pan (wrongV 61 p))) fun y => some (Out.ret (encR (.many (.pair .str (.pair .str .unit))) y)))) ((addr_local_E n xs.1).trans (addr_local_N (R := Except Int (ByteArray × ByteArray × Unit)) (S := Out) n xs.1 (fun y => some (.ok y)) (fun p => some (.error p)) (fun r => onX r (fun p => some (Out.pan (wrongV 61 p))) fun y => some (Out.ret (encR (.many (.pair .str (.pair .str .unit))) y))))) h))
def addr_local_es (n : Nat) : List Entry := ⟨40, pcX 61 (.pair .str .unit) (.many (.pair .str (.pair .str .unit))) (fun xs => addr_local n xs.1), none, none⟩ :: addr_quote_es n
theorem addr_local_es_ok (n : Nat) : AllOk Tryd.prog gl (addr_local_es n) := .cons (addr_local_ok n) (addr_quote_es_ok n)

/- pouch/addr.small -/
def addr_small_B0 (n : Nat) {R : Type} (t9 : Int) (t10 : Int) (b : (Sq Int)) (kn : Int → Int → (Sq Int) → Option R) (ko : ((Sq Int)) → Option R) (kr : Unit → Option R) (kp : Int → Option R) : Option R :=
  if (decide (t10 < t9)) = true then
    if 0 ≤ t10 ∧ t10 < (b.n : Int) then
      if (decide ((b.at' (Int.toNat t10)) ≥ (65 : Int))) = true then
        if (decide ((b.at' (Int.toNat t10)) ≤ (90 : Int))) = true then
          if 0 ≤ t10 ∧ t10 < (b.n : Int) then
            kn t9 (IntKind.wrap .i64 (t10 + (1 : Int))) (⟨b.n, fun q => if q = (Int.toNat t10) ∧ q < b.n then (IntKind.wrap .u8 ((IntKind.wrap .u8 ((b.at' (Int.toNat t10)) + (97 : Int))) - (65 : Int))) else b.at' q⟩ : Sq Int)
          else
            none
        else
          kn t9 (IntKind.wrap .i64 (t10 + (1 : Int))) b
      else
        kn t9 (IntKind.wrap .i64 (t10 + (1 : Int))) b
    else
      none
  else
    ko b
theorem addr_small_B0_N (n : Nat) {R S : Type} (t9 : Int) (t10 : Int) (b : (Sq Int)) (kn : Int → Int → (Sq Int) → Option R) (ko : ((Sq Int)) → Option R) (kr : Unit → Option R) (kp : Int → Option R) (φ : R → Option S) : addr_small_B0 n t9 t10 b (fun t9 t10 b => (kn t9 t10 b).bind φ) (fun a => (ko a).bind φ) (fun a => (kr a).bind φ) (fun a => (kp a).bind φ) = (addr_small_B0 n t9 t10 b kn ko kr kp).bind φ := by
  unfold addr_small_B0
  first | (simp only [ite_bind, bind_bind, onL_bind, onX_bind, none_bind]) | rfl
def addr_small_L0 (n : Nat) : Nat → Int → Int → (Sq Int) → Option (Lx ((Sq Int)) Unit)
  | 0, _, _, _ => none
  | m + 1, t9, t10, b => addr_small_B0 n t9 t10 b (fun t9 t10 b => addr_small_L0 n m t9 t10 b) (fun a => some (.out a)) (fun a => some (.ret a)) (fun p => some (.pan p))
def addr_small_L0_sp : List Sl := [.top, .top, .top, .row 0, .top, .top, .top, .top, .row 0, .dat (.int .i64), .dat (.int .i64), .top, .top, .top, .top, .top, .top, .top, .top, .top, .top, .top, .top, .top, .top, .top, .top, .top, .top, .top]
def addr_small_L0_rp : List RS := [.row 5 1 (.int .u8) false true]
def addr_small_L0_out_sp : List Sl := [.top, .top, .top, .row 0, .top, .top, .top, .top, .top, .top, .top, .top, .top, .top, .top, .top, .top, .top, .top, .top, .top, .top, .top, .top, .top, .top, .top, .top, .top, .top]
def addr_small_L0_out_rp : List RS := [.row 5 1 (.int .u8) false true]
def addr_small_L0_K (K : XE → List AV → AHeap → Option Out) : Lx ((Sq Int)) Unit → Option Out := fun x => onL x (fun a => K (.exit 0) (encF (nsOf addr_small_L0_out_rp (a, ())) addr_small_L0_out_sp ()) (encH (nsOf addr_small_L0_out_rp (a, ())) addr_small_L0_out_rp (a, ()))) (fun _ => none) (fun _ => none)
def addr_small_B (n : Nat) {R : Type} (s : ByteArray) (k : ByteArray → Option R) : Option R :=
  (addr_small_L0 n n (s.size : Int) (0 : Int) (⟨s.size, fun q => bt s q⟩ : Sq Int)).bind fun x_1 => onL x_1
    (fun a_2 =>
      k (strOf a_2.n a_2.at'))
    (fun _ => none)
    (fun _ => none)
def addr_small (n : Nat) (s : ByteArray) : Option ByteArray := addr_small_B n s some
theorem addr_small_N (n : Nat) {R S : Type} (s : ByteArray) (k : ByteArray → Option R) (φ : R → Option S) : addr_small_B n s (fun a => (k a).bind φ) = (addr_small_B n s k).bind φ := by
  unfold addr_small_B
  first | (simp only [ite_bind, bind_bind, onL_bind, onX_bind, none_bind]) | rfl
def addr_small_hint (n : Nat) : Hint Out := { live := fun c => (cond (Nat.beq c 0) [(3, some (.sl (.int .u8))), (8, some (.sl (.int .u8))), (9, none), (10, none)] []), run := fun c => (cond (Nat.beq c 0) (some (runL addr_small_L0_sp addr_small_L0_rp fun σ ρ K => (addr_small_L0 n n σ.1 σ.2.1 ρ.1).bind (addr_small_L0_K K))) none), xm := fun c q => (cond (Nat.beq c 0 && Nat.beq (q.getD 1000000) 0 && q.isSome) (some [(3, some (.sl (.int .u8)))]) none) }
theorem addr_small_L0_E (n : Nat) (K : XE → List AV → AHeap → Option Out) : ∀ (m : Nat) (t9 : Int) (t10 : Int) (b : (Sq Int)), loopI tys (callees Out (addr_local_es n)) (addr_small_hint n) n (codeAt [1, 1, 0, 1, 0, 0] (bodyOf Tryd.f33)) 0 addr_small_L0_sp addr_small_L0_rp K m (t9, (t10, ())) (b, ()) = (addr_small_L0 n m t9 t10 b).bind (addr_small_L0_K K)
  | 0, t9, t10, b => by kernel_rfl
  | m + 1, t9, t10, b => by
    have h1 : loopI tys (callees Out (addr_local_es n)) (addr_small_hint n) n (codeAt [1, 1, 0, 1, 0, 0] (bodyOf Tryd.f33)) 0 addr_small_L0_sp addr_small_L0_rp K (m + 1) (t9, (t10, ())) (b, ()) = addr_small_B0 n t9 t10 b (fun (t9 : Int) (t10 : Int) (b : (Sq Int)) => loopI tys (callees Out (addr_local_es n)) (addr_small_hint n) n (codeAt [1, 1, 0, 1, 0, 0] (bodyOf Tryd.f33)) 0 addr_small_L0_sp addr_small_L0_rp K m (t9, (t10, ())) (b, ())) (fun a => addr_small_L0_K K (.out a)) (fun a => addr_small_L0_K K (.ret a)) (fun p => addr_small_L0_K K (.pan p)) := by kernel_rfl
    have h2 : (fun (t9 : Int) (t10 : Int) (b : (Sq Int)) => loopI tys (callees Out (addr_local_es n)) (addr_small_hint n) n (codeAt [1, 1, 0, 1, 0, 0] (bodyOf Tryd.f33)) 0 addr_small_L0_sp addr_small_L0_rp K m (t9, (t10, ())) (b, ())) = (fun (t9 : Int) (t10 : Int) (b : (Sq Int)) => (addr_small_L0 n m t9 t10 b).bind (addr_small_L0_K K)) := funext fun t9 => funext fun t10 => funext fun b => addr_small_L0_E n K m t9 t10 b
    exact h1.trans ((congrArg (fun z => addr_small_B0 n t9 t10 b z (fun a => addr_small_L0_K K (.out a)) (fun a => addr_small_L0_K K (.ret a)) (fun p => addr_small_L0_K K (.pan p))) h2).trans (addr_small_B0_N n t9 t10 b (fun (t9 : Int) (t10 : Int) (b : (Sq Int)) => addr_small_L0 n m t9 t10 b) (fun a => some (.out a)) (fun a => some (.ret a)) (fun p => some (.pan p)) (addr_small_L0_K K)))
theorem addr_small_L0_ok (n : Nat) : RunOk tys (callees Out (addr_local_es n)) (addr_small_hint n) n (codeAt [1, 1, 0, 1, 0, 0] (bodyOf Tryd.f33)) 0 := runOk_of (sp := addr_small_L0_sp) (rp := addr_small_L0_rp) (F := fun σ ρ K => (addr_small_L0 n n σ.1 σ.2.1 ρ.1).bind (addr_small_L0_K K)) (by kernel_rfl) fun K σ ρ => addr_small_L0_E n K n σ.1 σ.2.1 ρ.1
theorem addr_small_runs (n : Nat) : RunsOk tys (callees Out (addr_local_es n)) (addr_small_hint n) n (bodyOf Tryd.f33) 0 := ⟨trivial, ⟨trivial, ⟨⟨trivial, ⟨addr_small_L0_ok n, ⟨trivial, ⟨⟨trivial, trivial⟩, ⟨⟨trivial, ⟨trivial, ⟨trivial, trivial⟩⟩⟩, trivial⟩⟩⟩⟩⟩, ⟨trivial, trivial⟩⟩⟩⟩
theorem addr_small_at : Tryd.prog.funcs[33]? = some Tryd.f33 := by kernel_rfl
theorem addr_small_ent (n : Nat) : Enters Tryd.prog 33 := enters_of (c := bodyOf Tryd.f33) addr_small_at (by kernel_rfl) (by kernel_rfl)
theorem addr_small_E (n : Nat) (s : ByteArray) : fnA tys (callees Out (addr_local_es n)) (addr_small_hint n) n Tryd.f33 (encL (.pair .str .unit) (s, ())) [] (soloA fun v => some (.ret v)) (soloA fun v => some (.pan v)) = addr_small_B n s (fun y => some (.ret (encR (.one .str) y))) := by kernel_rfl
theorem addr_small_ok (n : Nat) : EntryOk Tryd.prog gl ⟨33, pcT (.pair .str .unit) (.one .str) (fun xs => addr_small n xs.1), none, none⟩ :=
  pcT_ok (addr_small_ent n) fun xs y h => ans_of_fn tys_ok (addr_local_es_ok n) mixed (hint := addr_small_hint n) (n := n) (fn := Tryd.f33) addr_small_at (fun c hc => by
    have : bodyOf Tryd.f33 = c := by unfold bodyOf; rw [hc]; rfl
    exact this ▸ addr_small_runs n) (run_ret (φ := (fun y => some (Out.ret (encR (.one .str) y)))) ((addr_small_E n xs.1).trans (addr_small_N (R := ByteArray) (S := Out) n xs.1 some (fun y => some (Out.ret (encR (.one .str) y))))) h)
def addr_small_es (n : Nat) : List Entry := ⟨33, pcT (.pair .str .unit) (.one .str) (fun xs => addr_small n xs.1), none, none⟩ :: addr_local_es n
theorem addr_small_es_ok (n : Nat) : AllOk Tryd.prog gl (addr_small_es n) := .cons (addr_small_ok n) (addr_local_es_ok n)

/- pouch/addr.IsLiteral -/
def addr_IsLiteral_B (n : Nat) {R : Type} (s : ByteArray) (k : Bool → Option R) : Option R :=
  (strings_HasPrefix n s (⟨#[91]⟩ : ByteArray)).bind fun v =>
  k v
def addr_IsLiteral (n : Nat) (s : ByteArray) : Option Bool := addr_IsLiteral_B n s some
theorem addr_IsLiteral_N (n : Nat) {R S : Type} (s : ByteArray) (k : Bool → Option R) (φ : R → Option S) : addr_IsLiteral_B n s (fun a => (k a).bind φ) = (addr_IsLiteral_B n s k).bind φ := by
  unfold addr_IsLiteral_B
  first | (simp only [ite_bind, bind_bind, onL_bind, onX_bind, none_bind]) | rfl
def addr_IsLiteral_hint (n : Nat) : Hint Out := { live := fun c => [], run := fun c => none, xm := fun c q => none }
theorem addr_IsLiteral_runs (n : Nat) : RunsOk tys (callees Out (addr_small_es n)) (addr_IsLiteral_hint n) n (bodyOf Tryd.f44) 0 := ⟨trivial, ⟨trivial, trivial⟩⟩
theorem addr_IsLiteral_at : Tryd.prog.funcs[44]? = some Tryd.f44 := by kernel_rfl
theorem addr_IsLiteral_ent (n : Nat) : Enters Tryd.prog 44 := enters_of (c := bodyOf Tryd.f44) addr_IsLiteral_at (by kernel_rfl) (by kernel_rfl)
theorem addr_IsLiteral_E (n : Nat) (s : ByteArray) : fnA tys (callees Out (addr_small_es n)) (addr_IsLiteral_hint n) n Tryd.f44 (encL (.pair .str .unit) (s, ())) [] (soloA fun v => some (.ret v)) (soloA fun v => some (.pan v)) = addr_IsLiteral_B n s (fun y => some (.ret (encR (.one .bool) y))) := by kernel_rfl
theorem addr_IsLiteral_ok (n : Nat) : EntryOk Tryd.prog gl ⟨44, pcT (.pair .str .unit) (.one .bool) (fun xs => addr_IsLiteral n xs.1), none, none⟩ :=
  pcT_ok (addr_IsLiteral_ent n) fun xs y h => ans_of_fn tys_ok (addr_small_es_ok n) mixed (hint := addr_IsLiteral_hint n) (n := n) (fn := Tryd.f44) addr_IsLiteral_at (fun c hc => by
    have : bodyOf Tryd.f44 = c := by unfold bodyOf; rw [hc]; rfl
    exact this ▸ addr_IsLiteral_runs n) (run_ret (φ := (fun y => some (Out.ret (encR (.one .bool) y)))) ((addr_IsLiteral_E n xs.1).trans (addr_IsLiteral_N (R := Bool) (S := Out) n xs.1 some (fun y => some (Out.ret (encR (.one .bool) y))))) h)
def addr_IsLiteral_es (n : Nat) : List Entry := ⟨44, pcT (.pair .str .unit) (.one .bool) (fun xs => addr_IsLiteral n xs.1), none, none⟩ :: addr_small_es n
theorem addr_IsLiteral_es_ok (n : Nat) : AllOk Tryd.prog gl (addr_IsLiteral_es n) := .cons (addr_IsLiteral_ok n) (addr_small_es_ok n)

/- internal/stringslite.HasSuffix -/
def internal_stringslite_HasSuffix_B (n : Nat) {R : Type} (s : ByteArray) (suffix : ByteArray) (k : Bool → Option R) : Option R :=
  if (decide ((s.size : Int) ≥ (suffix.size : Int))) = true then
    if 0 ≤ (IntKind.wrap .i64 ((s.size : Int) - (suffix.size : Int))) ∧ (IntKind.wrap .i64 ((s.size : Int) - (suffix.size : Int))) ≤ (s.size : Int) then
      k ((s.extract (Int.toNat (IntKind.wrap .i64 ((s.size : Int) - (suffix.size : Int)))) (Int.toNat (s.size : Int))).toList == suffix.toList)
    else
      none
  else
    k false
def internal_stringslite_HasSuffix (n : Nat) (s : ByteArray) (suffix : ByteArray) : Option Bool := internal_stringslite_HasSuffix_B n s suffix some
theorem internal_stringslite_HasSuffix_N (n : Nat) {R S : Type} (s : ByteArray) (suffix : ByteArray) (k : Bool → Option R) (φ : R → Option S) : internal_stringslite_HasSuffix_B n s suffix (fun a => (k a).bind φ) = (internal_stringslite_HasSuffix_B n s suffix k).bind φ := by
  unfold internal_stringslite_HasSuffix_B
  first | (simp only [ite_bind, bind_bind, onL_bind, onX_bind, none_bind]) | rfl
def internal_stringslite_HasSuffix_hint (n : Nat) : Hint Out := { live := fun c => [], run := fun c => none, xm := fun c q => none }
theorem internal_stringslite_HasSuffix_runs (n : Nat) : RunsOk tys (callees Out (addr_IsLiteral_es n)) (internal_stringslite_HasSuffix_hint n) n (bodyOf Tryd.f54) 0 := ⟨trivial, ⟨trivial, trivial⟩⟩
theorem internal_stringslite_HasSuffix_at : Tryd.prog.funcs[54]? = some Tryd.f54 := by kernel_rfl
theorem internal_stringslite_HasSuffix_ent (n : Nat) : Enters Tryd.prog 54 := enters_of (c := bodyOf Tryd.f54) internal_stringslite_HasSuffix_at (by kernel_rfl) (by kernel_rfl)
theorem internal_stringslite_HasSuffix_E (n : Nat) (s : ByteArray) (suffix : ByteArray) : fnA tys (callees Out (addr_IsLiteral_es n)) (internal_stringslite_HasSuffix_hint n) n Tryd.f54 (encL (.pair .str (.pair .str .unit)) (s, (suffix, ()))) [] (soloA fun v => some (.ret v)) (soloA fun v => some (.pan v)) = internal_stringslite_HasSuffix_B n s suffix (fun y => some (.ret (encR (.one .bool) y))) := by kernel_rfl
theorem internal_stringslite_HasSuffix_ok (n : Nat) : EntryOk Tryd.prog gl ⟨54, pcT (.pair .str (.pair .str .unit)) (.one .bool) (fun xs => internal_stringslite_HasSuffix n xs.1 xs.2.1), none, none⟩ :=
  pcT_ok (internal_stringslite_HasSuffix_ent n) fun xs y h => ans_of_fn tys_ok (addr_IsLiteral_es_ok n) mixed (hint := internal_stringslite_HasSuffix_hint n) (n := n) (fn := Tryd.f54) internal_stringslite_HasSuffix_at (fun c hc => by
    have : bodyOf Tryd.f54 = c := by unfold bodyOf; rw [hc]; rfl
    exact this ▸ internal_stringslite_HasSuffix_runs n) (run_ret (φ := (fun y => some (Out.ret (encR (.one .bool) y)))) ((internal_stringslite_HasSuffix_E n xs.1 xs.2.1).trans (internal_stringslite_HasSuffix_N (R := Bool) (S := Out) n xs.1 xs.2.1 some (fun y => some (Out.ret (encR (.one .bool) y))))) h)
def internal_stringslite_HasSuffix_es (n : Nat) : List Entry := ⟨54, pcT (.pair .str (.pair .str .unit)) (.one .bool) (fun xs => internal_stringslite_HasSuffix n xs.1 xs.2.1), none, none⟩ :: addr_IsLiteral_es n
theorem internal_stringslite_HasSuffix_es_ok (n : Nat) : AllOk Tryd.prog gl (internal_stringslite_HasSuffix_es n) := .cons (internal_stringslite_HasSuffix_ok n) (addr_IsLiteral_es_ok n)

/- strings.HasSuffix -/
def strings_HasSuffix_B (n : Nat) {R : Type} (s : ByteArray) (suffix : ByteArray) (k : Bool → Option R) : Option R :=
  (internal_stringslite_HasSuffix n s suffix).bind fun v =>
  k v
def strings_HasSuffix (n : Nat) (s : ByteArray) (suffix : ByteArray) : Option Bool := strings_HasSuffix_B n s suffix some
theorem strings_HasSuffix_N (n : Nat) {R S : Type} (s : ByteArray) (suffix : ByteArray) (k : Bool → Option R) (φ : R → Option S) : strings_HasSuffix_B n s suffix (fun a => (k a).bind φ) = (strings_HasSuffix_B n s suffix k).bind φ := by
  unfold strings_HasSuffix_B
  first | (simp only [ite_bind, bind_bind, onL_bind, onX_bind, none_bind]) | rfl
def strings_HasSuffix_hint (n : Nat) : Hint Out := { live := fun c => [], run := fun c => none, xm := fun c q => none }
theorem strings_HasSuffix_runs (n : Nat) : RunsOk tys (callees Out (internal_stringslite_HasSuffix_es n)) (strings_HasSuffix_hint n) n (bodyOf Tryd.f45) 0 := ⟨trivial, ⟨trivial, trivial⟩⟩
theorem strings_HasSuffix_at : Tryd.prog.funcs[45]? = some Tryd.f45 := by kernel_rfl
theorem strings_HasSuffix_ent (n : Nat) : Enters Tryd.prog 45 := enters_of (c := bodyOf Tryd.f45) strings_HasSuffix_at (by kernel_rfl) (by kernel_rfl)
theorem strings_HasSuffix_E (n : Nat) (s : ByteArray) (suffix : ByteArray) : fnA tys (callees Out (internal_stringslite_HasSuffix_es n)) (strings_HasSuffix_hint n) n Tryd.f45 (encL (.pair .str (.pair .str .unit)) (s, (suffix, ()))) [] (soloA fun v => some (.ret v)) (soloA fun v => some (.pan v)) = strings_HasSuffix_B n s suffix (fun y => some (.ret (encR (.one .bool) y))) := by kernel_rfl
theorem strings_HasSuffix_ok (n : Nat) : EntryOk Tryd.prog gl ⟨45, pcT (.pair .str (.pair .str .unit)) (.one .bool) (fun xs => strings_HasSuffix n xs.1 xs.2.1), none, none⟩ :=
  pcT_ok (strings_HasSuffix_ent n) fun xs y h => ans_of_fn tys_ok (internal_stringslite_HasSuffix_es_ok n) mixed (hint := strings_HasSuffix_hint n) (n := n) (fn := Tryd.f45) strings_HasSuffix_at (fun c hc => by
    have : bodyOf Tryd.f45 = c := by unfold bodyOf; rw [hc]; rfl
    exact this ▸ strings_HasSuffix_runs n) (run_ret (φ := (fun y => some (Out.ret (encR (.one .bool) y)))) ((strings_HasSuffix_E n xs.1 xs.2.1).trans (strings_HasSuffix_N (R := Bool) (S := Out) n xs.1 xs.2.1 some (fun y => some (Out.ret (encR (.one .bool) y))))) h)
def strings_HasSuffix_es (n : Nat) : List Entry := ⟨45, pcT (.pair .str (.pair .str .unit)) (.one .bool) (fun xs => strings_HasSuffix n xs.1 xs.2.1), none, none⟩ :: internal_stringslite_HasSuffix_es n
theorem strings_HasSuffix_es_ok (n : Nat) : AllOk Tryd.prog gl (strings_HasSuffix_es n) := .cons (strings_HasSuffix_ok n) (internal_stringslite_HasSuffix_es_ok n)

/- internal/bytealg.CountString -/
theorem internal_bytealg_CountString_at : Tryd.prog.funcs[85]? = some Tryd.f85 := by kernel_rfl
theorem internal_bytealg_CountString_ok : EntryOk Tryd.prog gl ⟨85, noPc, some (.flat xCount), none⟩ := count_entry internal_bytealg_CountString_at (by kernel_rfl) (by kernel_rfl) (by kernel_rfl) (by kernel_rfl)
def internal_bytealg_CountString_es (n : Nat) : List Entry := ⟨85, noPc, some (.flat xCount), none⟩ :: strings_HasSuffix_es n
theorem internal_bytealg_CountString_es_ok (n : Nat) : AllOk Tryd.prog gl (internal_bytealg_CountString_es n) := .cons internal_bytealg_CountString_ok (strings_HasSuffix_es_ok n)

/- internal/stringslite.Index -/
def internal_stringslite_Index_B (n : Nat) {R : Type} (s : ByteArray) (substr : ByteArray) (k : Int → Option R) : Option R :=
  if ((substr.size : Int) == (0 : Int)) = false then
    if (substr.toList == s.toList) = true then
      k (0 : Int)
    else
      if ((substr.size : Int) == (1 : Int)) = true then
        if 0 ≤ (0 : Int) ∧ (0 : Int) < (substr.size : Int) then
          (internal_stringslite_IndexByte n s (bt substr (0 : Int))).bind fun v =>
          k v
        else
          none
      else
        if (decide ((substr.size : Int) ≥ (s.size : Int))) = true then
          k (-1 : Int)
        else
          none
  else
    k (0 : Int)
def internal_stringslite_Index (n : Nat) (s : ByteArray) (substr : ByteArray) : Option Int := internal_stringslite_Index_B n s substr some
theorem internal_stringslite_Index_N (n : Nat) {R S : Type} (s : ByteArray) (substr : ByteArray) (k : Int → Option R) (φ : R → Option S) : internal_stringslite_Index_B n s substr (fun a => (k a).bind φ) = (internal_stringslite_Index_B n s substr k).bind φ := by
  unfold internal_stringslite_Index_B
  first | (simp only [ite_bind, bind_bind, onL_bind, onX_bind, none_bind]) | rfl
def internal_stringslite_Index_hint (n : Nat) : Hint Out := { live := fun c => [], run := fun c => none, xm := fun c q => none }
theorem internal_stringslite_Index_runs (n : Nat) : RunsOk tys (callees Out (internal_bytealg_CountString_es n)) (internal_stringslite_Index_hint n) n (bodyOf Tryd.f82) 0 := ⟨trivial, ⟨trivial, ⟨⟨trivial, ⟨⟨trivial, trivial⟩, ⟨trivial, ⟨⟨trivial, trivial⟩, ⟨trivial, ⟨⟨trivial, trivial⟩, ⟨trivial, ⟨⟨trivial, trivial⟩, trivial⟩⟩⟩⟩⟩⟩⟩⟩, ⟨trivial, ⟨trivial, ⟨trivial, ⟨trivial, ⟨trivial, ⟨⟨runOk_none (by kernel_rfl), ⟨⟨trivial, ⟨trivial, trivial⟩⟩, ⟨⟨trivial, ⟨⟨trivial, ⟨⟨trivial, ⟨⟨trivial, trivial⟩, trivial⟩⟩, trivial⟩⟩, trivial⟩⟩, ⟨⟨trivial, ⟨⟨trivial, trivial⟩, trivial⟩⟩, ⟨trivial, ⟨trivial, ⟨trivial, ⟨⟨trivial, ⟨⟨trivial, ⟨⟨trivial, trivial⟩, trivial⟩⟩, ⟨trivial, trivial⟩⟩⟩, ⟨trivial, ⟨⟨trivial, ⟨⟨trivial, ⟨⟨trivial, trivial⟩, trivial⟩⟩, ⟨trivial, trivial⟩⟩⟩, trivial⟩⟩⟩⟩⟩⟩⟩⟩⟩⟩, ⟨trivial, trivial⟩⟩⟩⟩⟩⟩⟩⟩⟩⟩
theorem internal_stringslite_Index_at : Tryd.prog.funcs[82]? = some Tryd.f82 := by kernel_rfl
theorem internal_stringslite_Index_ent (n : Nat) : Enters Tryd.prog 82 := enters_of (c := bodyOf Tryd.f82) internal_stringslite_Index_at (by kernel_rfl) (by kernel_rfl)
theorem internal_stringslite_Index_E (n : Nat) (s : ByteArray) (substr : ByteArray) : fnA tys (callees Out (internal_bytealg_CountString_es n)) (internal_stringslite_Index_hint n) n Tryd.f82 (encL (.pair .str (.pair .str .unit)) (s, (substr, ()))) [] (soloA fun v => some (.ret v)) (soloA fun v => some (.pan v)) = internal_stringslite_Index_B n s substr (fun y => some (.ret (encR (.one (.int .i64)) y))) := by kernel_rfl
theorem internal_stringslite_Index_ok (n : Nat) : EntryOk Tryd.prog gl ⟨82, pcT (.pair .str (.pair .str .unit)) (.one (.int .i64)) (fun xs => internal_stringslite_Index n xs.1 xs.2.1), none, none⟩ :=
  pcT_ok (internal_stringslite_Index_ent n) fun xs y h => ans_of_fn tys_ok (internal_bytealg_CountString_es_ok n) mixed (hint := internal_stringslite_Index_hint n) (n := n) (fn := Tryd.f82) internal_stringslite_Index_at (fun c hc => by
    have : bodyOf Tryd.f82 = c := by unfold bodyOf; rw [hc]; rfl
    exact this ▸ internal_stringslite_Index_runs n) (run_ret (φ := (fun y => some (Out.ret (encR (.one (.int .i64)) y)))) ((internal_stringslite_Index_E n xs.1 xs.2.1).trans (internal_stringslite_Index_N (R := Int) (S := Out) n xs.1 xs.2.1 some (fun y => some (Out.ret (encR (.one (.int .i64)) y))))) h)
def internal_stringslite_Index_es (n : Nat) : List Entry := ⟨82, pcT (.pair .str (.pair .str .unit)) (.one (.int .i64)) (fun xs => internal_stringslite_Index n xs.1 xs.2.1), none, none⟩ :: internal_bytealg_CountString_es n
theorem internal_stringslite_Index_es_ok (n : Nat) : AllOk Tryd.prog gl (internal_stringslite_Index_es n) := .cons (internal_stringslite_Index_ok n) (internal_bytealg_CountString_es_ok n)

/- strings.Index -/
def strings_Index_B (n : Nat) {R : Type} (s : ByteArray) (substr : ByteArray) (k : Int → Option R) : Option R :=
  (internal_stringslite_Index n s substr).bind fun v =>
  k v
def strings_Index (n : Nat) (s : ByteArray) (substr : ByteArray) : Option Int := strings_Index_B n s substr some
theorem strings_Index_N (n : Nat) {R S : Type} (s : ByteArray) (substr : ByteArray) (k : Int → Option R) (φ : R → Option S) : strings_Index_B n s substr (fun a => (k a).bind φ) = (strings_Index_B n s substr k).bind φ := by
  unfold strings_Index_B
  first | (simp only [ite_bind, bind_bind, onL_bind, onX_bind, none_bind]) | rfl
def strings_Index_hint (n : Nat) : Hint Out := { live := fun c => [], run := fun c => none, xm := fun c q => none }
theorem strings_Index_runs (n : Nat) : RunsOk tys (callees Out (internal_stringslite_Index_es n)) (strings_Index_hint n) n (bodyOf Tryd.f70) 0 := ⟨trivial, ⟨trivial, trivial⟩⟩
theorem strings_Index_at : Tryd.prog.funcs[70]? = some Tryd.f70 := by kernel_rfl
theorem strings_Index_ent (n : Nat) : Enters Tryd.prog 70 := enters_of (c := bodyOf Tryd.f70) strings_Index_at (by kernel_rfl) (by kernel_rfl)
theorem strings_Index_E (n : Nat) (s : ByteArray) (substr : ByteArray) : fnA tys (callees Out (internal_stringslite_Index_es n)) (strings_Index_hint n) n Tryd.f70 (encL (.pair .str (.pair .str .unit)) (s, (substr, ()))) [] (soloA fun v => some (.ret v)) (soloA fun v => some (.pan v)) = strings_Index_B n s substr (fun y => some (.ret (encR (.one (.int .i64)) y))) := by kernel_rfl
theorem strings_Index_ok (n : Nat) : EntryOk Tryd.prog gl ⟨70, pcT (.pair .str (.pair .str .unit)) (.one (.int .i64)) (fun xs => strings_Index n xs.1 xs.2.1), none, none⟩ :=
  pcT_ok (strings_Index_ent n) fun xs y h => ans_of_fn tys_ok (internal_stringslite_Index_es_ok n) mixed (hint := strings_Index_hint n) (n := n) (fn := Tryd.f70) strings_Index_at (fun c hc => by
    have : bodyOf Tryd.f70 = c := by unfold bodyOf; rw [hc]; rfl
    exact this ▸ strings_Index_runs n) (run_ret (φ := (fun y => some (Out.ret (encR (.one (.int .i64)) y)))) ((strings_Index_E n xs.1 xs.2.1).trans (strings_Index_N (R := Int) (S := Out) n xs.1 xs.2.1 some (fun y => some (Out.ret (encR (.one (.int .i64)) y))))) h)
def strings_Index_es (n : Nat) : List Entry := ⟨70, pcT (.pair .str (.pair .str .unit)) (.one (.int .i64)) (fun xs => strings_Index n xs.1 xs.2.1), none, none⟩ :: internal_stringslite_Index_es n
theorem strings_Index_es_ok (n : Nat) : AllOk Tryd.prog gl (strings_Index_es n) := .cons (strings_Index_ok n) (internal_stringslite_Index_es_ok n)

/- strings.Count -/
def strings_Count_B0 (n : Nat) {R : Type} (s1 : ByteArray) (substr1 : ByteArray) (n0 : Int) (kn : ByteArray → ByteArray → Int → Option R) (ko : Unit → Option R) (kr : (Int) → Option R) (kp : Int → Option R) : Option R :=
  (strings_Index n s1 substr1).bind fun v =>
  if (v == (-1 : Int)) = true then
    kr n0
  else
    if 0 ≤ (IntKind.wrap .i64 (v + (substr1.size : Int))) ∧ (IntKind.wrap .i64 (v + (substr1.size : Int))) ≤ (s1.size : Int) then
      kn (s1.extract (Int.toNat (IntKind.wrap .i64 (v + (substr1.size : Int)))) (Int.toNat (s1.size : Int))) substr1 (IntKind.wrap .i64 (n0 + (1 : Int)))
    else
      none
theorem strings_Count_B0_N (n : Nat) {R S : Type} (s1 : ByteArray) (substr1 : ByteArray) (n0 : Int) (kn : ByteArray → ByteArray → Int → Option R) (ko : Unit → Option R) (kr : (Int) → Option R) (kp : Int → Option R) (φ : R → Option S) : strings_Count_B0 n s1 substr1 n0 (fun s1 substr1 n0 => (kn s1 substr1 n0).bind φ) (fun a => (ko a).bind φ) (fun a => (kr a).bind φ) (fun a => (kp a).bind φ) = (strings_Count_B0 n s1 substr1 n0 kn ko kr kp).bind φ := by
  unfold strings_Count_B0
  first | (simp only [ite_bind, bind_bind, onL_bind, onX_bind, none_bind]) | rfl
def strings_Count_L0 (n : Nat) : Nat → ByteArray → ByteArray → Int → Option (Lx Unit (Int))
  | 0, _, _, _ => none
  | m + 1, s1, substr1, n0 => strings_Count_B0 n s1 substr1 n0 (fun s1 substr1 n0 => strings_Count_L0 n m s1 substr1 n0) (fun a => some (.out a)) (fun a => some (.ret a)) (fun p => some (.pan p))
def strings_Count_L0_sp : List Sl := [.dat .str, .dat .str, .top, .top, .top, .dat (.int .i64), .top, .top, .top, .top, .top, .top, .top, .top, .top, .top, .top, .top, .top, .top, .top, .top, .top, .top, .top, .top, .top, .top, .top, .top, .top, .top, .top, .top]
def strings_Count_L0_rp : List RS := []
def strings_Count_L0_ret_sp : List Sl := [.top, .top, .top, .top, .dat (.int .i64), .top, .top, .top, .top, .top, .top, .top, .top, .top, .top, .top, .top, .top, .top, .top, .top, .top, .top, .top, .top, .top, .top, .top, .top, .top, .top, .top, .top, .top]
def strings_Count_L0_ret_rp : List RS := []
def strings_Count_L0_K (K : XE → List AV → AHeap → Option Out) : Lx Unit (Int) → Option Out := fun x => onL x (fun _ => none) (fun a => K .ret (encF (nsOf strings_Count_L0_ret_rp ()) strings_Count_L0_ret_sp (a, ())) (encH (nsOf strings_Count_L0_ret_rp ()) strings_Count_L0_ret_rp ())) (fun _ => none)
def strings_Count_B (n : Nat) {R : Type} (s : ByteArray) (substr : ByteArray) (k : Int → Option R) : Option R :=
  if ((substr.size : Int) == (0 : Int)) = true then
    none
  else
    if ((substr.size : Int) == (1 : Int)) = true then
      if 0 ≤ (0 : Int) ∧ (0 : Int) < (substr.size : Int) then
        k ((Lib.countByte s.data.toList (Nat.toUInt8 (Int.toNat (bt substr (0 : Int)))) : Nat) : Int)
      else
        none
    else
      (strings_Count_L0 n n s substr (0 : Int)).bind fun x_1 => onL x_1
        (fun _ => none)
        (fun a_2 =>
          k a_2)
        (fun _ => none)
def strings_Count (n : Nat) (s : ByteArray) (substr : ByteArray) : Option Int := strings_Count_B n s substr some
theorem strings_Count_N (n : Nat) {R S : Type} (s : ByteArray) (substr : ByteArray) (k : Int → Option R) (φ : R → Option S) : strings_Count_B n s substr (fun a => (k a).bind φ) = (strings_Count_B n s substr k).bind φ := by
  unfold strings_Count_B
  first | (simp only [ite_bind, bind_bind, onL_bind, onX_bind, none_bind]) | rfl
def strings_Count_hint (n : Nat) : Hint Out := { live := fun c => (cond (Nat.beq c 0) [(0, none), (1, none), (5, none)] []), run := fun c => (cond (Nat.beq c 0) (some (runL strings_Count_L0_sp strings_Count_L0_rp fun σ ρ K => (strings_Count_L0 n n σ.1 σ.2.1 σ.2.2.1).bind (strings_Count_L0_K K))) none), xm := fun c q => (cond (Nat.beq c 1 && q.isNone) (some [(4, none)]) none) }
theorem strings_Count_L0_E (n : Nat) (K : XE → List AV → AHeap → Option Out) : ∀ (m : Nat) (s1 : ByteArray) (substr1 : ByteArray) (n0 : Int), loopI tys (callees Out (strings_Index_es n)) (strings_Count_hint n) n (codeAt [1, 1, 1, 1, 0, 0] (bodyOf Tryd.f74)) 0 strings_Count_L0_sp strings_Count_L0_rp K m (s1, (substr1, (n0, ()))) () = (strings_Count_L0 n m s1 substr1 n0).bind (strings_Count_L0_K K)
  | 0, s1, substr1, n0 => by kernel_rfl
  | m + 1, s1, substr1, n0 => by
    have h1 : loopI tys (callees Out (strings_Index_es n)) (strings_Count_hint n) n (codeAt [1, 1, 1, 1, 0, 0] (bodyOf Tryd.f74)) 0 strings_Count_L0_sp strings_Count_L0_rp K (m + 1) (s1, (substr1, (n0, ()))) () = strings_Count_B0 n s1 substr1 n0 (fun (s1 : ByteArray) (substr1 : ByteArray) (n0 : Int) => loopI tys (callees Out (strings_Index_es n)) (strings_Count_hint n) n (codeAt [1, 1, 1, 1, 0, 0] (bodyOf Tryd.f74)) 0 strings_Count_L0_sp strings_Count_L0_rp K m (s1, (substr1, (n0, ()))) ()) (fun a => strings_Count_L0_K K (.out a)) (fun a => strings_Count_L0_K K (.ret a)) (fun p => strings_Count_L0_K K (.pan p)) := by kernel_rfl
    have h2 : (fun (s1 : ByteArray) (substr1 : ByteArray) (n0 : Int) => loopI tys (callees Out (strings_Index_es n)) (strings_Count_hint n) n (codeAt [1, 1, 1, 1, 0, 0] (bodyOf Tryd.f74)) 0 strings_Count_L0_sp strings_Count_L0_rp K m (s1, (substr1, (n0, ()))) ()) = (fun (s1 : ByteArray) (substr1 : ByteArray) (n0 : Int) => (strings_Count_L0 n m s1 substr1 n0).bind (strings_Count_L0_K K)) := funext fun s1 => funext fun substr1 => funext fun n0 => strings_Count_L0_E n K m s1 substr1 n0
    exact h1.trans ((congrArg (fun z => strings_Count_B0 n s1 substr1 n0 z (fun a => strings_Count_L0_K K (.out a)) (fun a => strings_Count_L0_K K (.ret a)) (fun p => strings_Count_L0_K K (.pan p))) h2).trans (strings_Count_B0_N n s1 substr1 n0 (fun (s1 : ByteArray) (substr1 : ByteArray) (n0 : Int) => strings_Count_L0 n m s1 substr1 n0) (fun a => some (.out a)) (fun a => some (.ret a)) (fun p => some (.pan p)) (strings_Count_L0_K K)))
theorem strings_Count_L0_ok (n : Nat) : RunOk tys (callees Out (strings_Index_es n)) (strings_Count_hint n) n (codeAt [1, 1, 1, 1, 0, 0] (bodyOf Tryd.f74)) 0 := runOk_of (sp := strings_Count_L0_sp) (rp := strings_Count_L0_rp) (F := fun σ ρ K => (strings_Count_L0 n n σ.1 σ.2.1 σ.2.2.1).bind (strings_Count_L0_K K)) (by kernel_rfl) fun K σ ρ => strings_Count_L0_E n K n σ.1 σ.2.1 σ.2.2.1
theorem strings_Count_runs (n : Nat) : RunsOk tys (callees Out (strings_Index_es n)) (strings_Count_hint n) n (bodyOf Tryd.f74) 0 := ⟨trivial, ⟨⟨trivial, ⟨⟨trivial, trivial⟩, trivial⟩⟩, ⟨⟨trivial, ⟨⟨trivial, trivial⟩, trivial⟩⟩, ⟨trivial, ⟨strings_Count_L0_ok n, ⟨trivial, ⟨⟨trivial, ⟨⟨trivial, trivial⟩, trivial⟩⟩, ⟨trivial, trivial⟩⟩⟩⟩⟩⟩⟩⟩
theorem strings_Count_at : Tryd.prog.funcs[74]? = some Tryd.f74 := by kernel_rfl
theorem strings_Count_ent (n : Nat) : Enters Tryd.prog 74 := enters_of (c := bodyOf Tryd.f74) strings_Count_at (by kernel_rfl) (by kernel_rfl)
theorem strings_Count_E (n : Nat) (s : ByteArray) (substr : ByteArray) : fnA tys (callees Out (strings_Index_es n)) (strings_Count_hint n) n Tryd.f74 (encL (.pair .str (.pair .str .unit)) (s, (substr, ()))) [] (soloA fun v => some (.ret v)) (soloA fun v => some (.pan v)) = strings_Count_B n s substr (fun y => some (.ret (encR (.one (.int .i64)) y))) := by kernel_rfl
theorem strings_Count_ok (n : Nat) : EntryOk Tryd.prog gl ⟨74, pcT (.pair .str (.pair .str .unit)) (.one (.int .i64)) (fun xs => strings_Count n xs.1 xs.2.1), none, none⟩ :=
  pcT_ok (strings_Count_ent n) fun xs y h => ans_of_fn tys_ok (strings_Index_es_ok n) mixed (hint := strings_Count_hint n) (n := n) (fn := Tryd.f74) strings_Count_at (fun c hc => by
    have : bodyOf Tryd.f74 = c := by unfold bodyOf; rw [hc]; rfl
    exact this ▸ strings_Count_runs n) (run_ret (φ := (fun y => some (Out.ret (encR (.one (.int .i64)) y)))) ((strings_Count_E n xs.1 xs.2.1).trans (strings_Count_N (R := Int) (S := Out) n xs.1 xs.2.1 some (fun y => some (Out.ret (encR (.one (.int .i64)) y))))) h)
def strings_Count_es (n : Nat) : List Entry := ⟨74, pcT (.pair .str (.pair .str .unit)) (.one (.int .i64)) (fun xs => strings_Count n xs.1 xs.2.1), none, none⟩ :: strings_Index_es n
theorem strings_Count_es_ok (n : Nat) : AllOk Tryd.prog gl (strings_Count_es n) := .cons (strings_Count_ok n) (strings_Index_es_ok n)

/- strings.genSplit -/
def strings_genSplit_B0 (n : Nat) {R : Type} (s1 : ByteArray) (sep1 : ByteArray) (sepSave1 : Int) (n01 : Int) (i : Int) (a : (Sq ByteArray)) (kn : ByteArray → ByteArray → Int → Int → Int → (Sq ByteArray) → Option R) (ko : (ByteArray × Int × (Sq ByteArray)) → Option R) (kr : Unit → Option R) (kp : Int → Option R) : Option R :=
  if (decide (i < n01)) = true then
    (strings_Index n s1 sep1).bind fun v1 =>
    if (decide (v1 < (0 : Int))) = true then
      ko (s1, i, a)
    else
      if 0 ≤ (IntKind.wrap .i64 (v1 + sepSave1)) ∧ (IntKind.wrap .i64 (v1 + sepSave1)) ≤ (s1.size : Int) then
        if 0 ≤ i ∧ i < (a.n : Int) then
          if 0 ≤ (IntKind.wrap .i64 (v1 + (sep1.size : Int))) ∧ (IntKind.wrap .i64 (v1 + (sep1.size : Int))) ≤ (s1.size : Int) then
            kn (s1.extract (Int.toNat (IntKind.wrap .i64 (v1 + (sep1.size : Int)))) (Int.toNat (s1.size : Int))) sep1 sepSave1 n01 (IntKind.wrap .i64 (i + (1 : Int))) (⟨a.n, fun q => if q = (Int.toNat i) ∧ q < a.n then (s1.extract (Int.toNat (0 : Int)) (Int.toNat (IntKind.wrap .i64 (v1 + sepSave1)))) else a.at' q⟩ : Sq ByteArray)
          else
            none
        else
          none
      else
        none
  else
    ko (s1, i, a)
theorem strings_genSplit_B0_N (n : Nat) {R S : Type} (s1 : ByteArray) (sep1 : ByteArray) (sepSave1 : Int) (n01 : Int) (i : Int) (a : (Sq ByteArray)) (kn : ByteArray → ByteArray → Int → Int → Int → (Sq ByteArray) → Option R) (ko : (ByteArray × Int × (Sq ByteArray)) → Option R) (kr : Unit → Option R) (kp : Int → Option R) (φ : R → Option S) : strings_genSplit_B0 n s1 sep1 sepSave1 n01 i a (fun s1 sep1 sepSave1 n01 i a => (kn s1 sep1 sepSave1 n01 i a).bind φ) (fun a => (ko a).bind φ) (fun a => (kr a).bind φ) (fun a => (kp a).bind φ) = (strings_genSplit_B0 n s1 sep1 sepSave1 n01 i a kn ko kr kp).bind φ := by
  unfold strings_genSplit_B0
  first | (simp only [ite_bind, bind_bind, onL_bind, onX_bind, none_bind]) | rfl
def strings_genSplit_L0 (n : Nat) : Nat → ByteArray → ByteArray → Int → Int → Int → (Sq ByteArray) → Option (Lx (ByteArray × Int × (Sq ByteArray)) Unit)
  | 0, _, _, _, _, _, _ => none
  | m + 1, s1, sep1, sepSave1, n01, i, a => strings_genSplit_B0 n s1 sep1 sepSave1 n01 i a (fun s1 sep1 sepSave1 n01 i a => strings_genSplit_L0 n m s1 sep1 sepSave1 n01 i a) (fun a => some (.out a)) (fun a => some (.ret a)) (fun p => some (.pan p))
def strings_genSplit_L0_sp : List Sl := [.dat .str, .dat .str, .dat (.int .i64), .dat (.int .i64), .top, .top, .top, .top, .top, .row 0, .dat (.int .i64), .top, .top, .top, .top, .top, .top, .top, .top, .top, .top, .top, .top, .top, .top, .top, .top, .top, .top, .top, .top, .top, .top, .top, .top, .top, .top, .top, .top, .top, .top, .top, .top, .top, .top, .top, .top, .top, .top, .top, .top, .top, .top, .top, .top, .top, .top, .top, .top, .top, .top, .top, .top, .top, .top, .top]
def strings_genSplit_L0_rp : List RS := [.row 9 1 .str false false]
def strings_genSplit_L0_out_sp : List Sl := [.dat .str, .top, .top, .top, .top, .top, .top, .top, .top, .row 0, .dat (.int .i64), .top, .top, .top, .top, .top, .top, .top, .top, .top, .top, .top, .top, .top, .top, .top, .top, .top, .top, .top, .top, .top, .top, .top, .top, .top, .top, .top, .top, .top, .top, .top, .top, .top, .top, .top, .top, .top, .top, .top, .top, .top, .top, .top, .top, .top, .top, .top, .top, .top, .top, .top, .top, .top, .top, .top]
def strings_genSplit_L0_out_rp : List RS := [.row 9 1 .str false false]
def strings_genSplit_L0_K (K : XE → List AV → AHeap → Option Out) : Lx (ByteArray × Int × (Sq ByteArray)) Unit → Option Out := fun x => onL x (fun a => K (.exit 0) (encF (nsOf strings_genSplit_L0_out_rp (a.2.2, ())) strings_genSplit_L0_out_sp (a.1, (a.2.1, ()))) (encH (nsOf strings_genSplit_L0_out_rp (a.2.2, ())) strings_genSplit_L0_out_rp (a.2.2, ()))) (fun _ => none) (fun _ => none)
def strings_genSplit_B (n : Nat) {R : Type} (s : ByteArray) (sep : ByteArray) (sepSave : Int) (n0 : Int) (k : (Sq ByteArray) → Option R) : Option R :=
  if (n0 == (0 : Int)) = true then
    k (⟨0, fun _ => zeroEl .str⟩ : Sq ByteArray)
  else
    if (sep.toList == (⟨#[]⟩ : ByteArray).toList) = true then
      none
    else
      if (decide (n0 < (0 : Int))) = true then
        (strings_Count n s sep).bind fun v =>
        if 0 ≤ (if (IntKind.wrap .i64 ((s.size : Int) + (1 : Int))) < (IntKind.wrap .i64 (v + (1 : Int))) then (IntKind.wrap .i64 ((s.size : Int) + (1 : Int))) else (IntKind.wrap .i64 (v + (1 : Int)))) ∧ (if (IntKind.wrap .i64 ((s.size : Int) + (1 : Int))) < (IntKind.wrap .i64 (v + (1 : Int))) then (IntKind.wrap .i64 ((s.size : Int) + (1 : Int))) else (IntKind.wrap .i64 (v + (1 : Int)))) ≤ (if (IntKind.wrap .i64 ((s.size : Int) + (1 : Int))) < (IntKind.wrap .i64 (v + (1 : Int))) then (IntKind.wrap .i64 ((s.size : Int) + (1 : Int))) else (IntKind.wrap .i64 (v + (1 : Int)))) then
          if rowFits (Int.toNat (if (IntKind.wrap .i64 ((s.size : Int) + (1 : Int))) < (IntKind.wrap .i64 (v + (1 : Int))) then (IntKind.wrap .i64 ((s.size : Int) + (1 : Int))) else (IntKind.wrap .i64 (v + (1 : Int))))) 16 = true then
            (strings_genSplit_L0 n n s sep sepSave (IntKind.wrap .i64 ((if (IntKind.wrap .i64 ((s.size : Int) + (1 : Int))) < (IntKind.wrap .i64 (v + (1 : Int))) then (IntKind.wrap .i64 ((s.size : Int) + (1 : Int))) else (IntKind.wrap .i64 (v + (1 : Int)))) - (1 : Int))) (0 : Int) (⟨(Int.toNat (if (IntKind.wrap .i64 ((s.size : Int) + (1 : Int))) < (IntKind.wrap .i64 (v + (1 : Int))) then (IntKind.wrap .i64 ((s.size : Int) + (1 : Int))) else (IntKind.wrap .i64 (v + (1 : Int))))), fun _ => (⟨#[]⟩ : ByteArray)⟩ : Sq ByteArray)).bind fun x_1 => onL x_1
              (fun a_2 =>
                if 0 ≤ a_2.2.1 ∧ a_2.2.1 < (a_2.2.2.n : Int) then
                  if 0 ≤ (IntKind.wrap .i64 (a_2.2.1 + (1 : Int))) ∧ (IntKind.wrap .i64 (a_2.2.1 + (1 : Int))) ≤ (a_2.2.2.n : Int) then
                    k (⟨((Int.toNat (IntKind.wrap .i64 (a_2.2.1 + (1 : Int)))) - (Int.toNat (0 : Int))), fun i => (fun q => if q = (Int.toNat a_2.2.1) ∧ q < a_2.2.2.n then a_2.1 else a_2.2.2.at' q) ((Int.toNat (0 : Int)) + i)⟩ : Sq ByteArray)
                  else
                    none
                else
                  none)
              (fun _ => none)
              (fun _ => none)
          else
            none
        else
          none
      else
        if 0 ≤ (if (IntKind.wrap .i64 ((s.size : Int) + (1 : Int))) < n0 then (IntKind.wrap .i64 ((s.size : Int) + (1 : Int))) else n0) ∧ (if (IntKind.wrap .i64 ((s.size : Int) + (1 : Int))) < n0 then (IntKind.wrap .i64 ((s.size : Int) + (1 : Int))) else n0) ≤ (if (IntKind.wrap .i64 ((s.size : Int) + (1 : Int))) < n0 then (IntKind.wrap .i64 ((s.size : Int) + (1 : Int))) else n0) then
          if rowFits (Int.toNat (if (IntKind.wrap .i64 ((s.size : Int) + (1 : Int))) < n0 then (IntKind.wrap .i64 ((s.size : Int) + (1 : Int))) else n0)) 16 = true then
            (strings_genSplit_L0 n n s sep sepSave (IntKind.wrap .i64 ((if (IntKind.wrap .i64 ((s.size : Int) + (1 : Int))) < n0 then (IntKind.wrap .i64 ((s.size : Int) + (1 : Int))) else n0) - (1 : Int))) (0 : Int) (⟨(Int.toNat (if (IntKind.wrap .i64 ((s.size : Int) + (1 : Int))) < n0 then (IntKind.wrap .i64 ((s.size : Int) + (1 : Int))) else n0)), fun _ => (⟨#[]⟩ : ByteArray)⟩ : Sq ByteArray)).bind fun x_3 => onL x_3
              (fun a_4 =>
                if 0 ≤ a_4.2.1 ∧ a_4.2.1 < (a_4.2.2.n : Int) then
                  if 0 ≤ (IntKind.wrap .i64 (a_4.2.1 + (1 : Int))) ∧ (IntKind.wrap .i64 (a_4.2.1 + (1 : Int))) ≤ (a_4.2.2.n : Int) then
                    k (⟨((Int.toNat (IntKind.wrap .i64 (a_4.2.1 + (1 : Int)))) - (Int.toNat (0 : Int))), fun i => (fun q => if q = (Int.toNat a_4.2.1) ∧ q < a_4.2.2.n then a_4.1 else a_4.2.2.at' q) ((Int.toNat (0 : Int)) + i)⟩ : Sq ByteArray)
                  else
                    none
                else
                  none)
              (fun _ => none)
              (fun _ => none)
          else
            none
        else
          none
def strings_genSplit (n : Nat) (s : ByteArray) (sep : ByteArray) (sepSave : Int) (n0 : Int) : Option (Sq ByteArray) := strings_genSplit_B n s sep sepSave n0 some
theorem strings_genSplit_N (n : Nat) {R S : Type} (s : ByteArray) (sep : ByteArray) (sepSave : Int) (n0 : Int) (k : (Sq ByteArray) → Option R) (φ : R → Option S) : strings_genSplit_B n s sep sepSave n0 (fun a => (k a).bind φ) = (strings_genSplit_B n s sep sepSave n0 k).bind φ := by
  unfold strings_genSplit_B
  first | (simp only [ite_bind, bind_bind, onL_bind, onX_bind, none_bind]) | rfl
def strings_genSplit_hint (n : Nat) : Hint Out := { live := fun c => (cond (Nat.beq c 0) [(0, none), (1, none), (2, none), (3, none), (9, some (.sl .str)), (10, none)] []), run := fun c => (cond (Nat.beq c 0) (some (runL strings_genSplit_L0_sp strings_genSplit_L0_rp fun σ ρ K => (strings_genSplit_L0 n n σ.1 σ.2.1 σ.2.2.1 σ.2.2.2.1 σ.2.2.2.2.1 ρ.1).bind (strings_genSplit_L0_K K))) none), xm := fun c q => (cond (Nat.beq c 0 && Nat.beq (q.getD 1000000) 0 && q.isSome) (some [(0, none), (9, some (.sl .str)), (10, none)]) (cond (Nat.beq c 1 && Nat.beq (q.getD 1000000) 0 && q.isSome) (some [(0, none), (9, some (.sl .str)), (10, none)]) none)) }
theorem strings_genSplit_L0_E (n : Nat) (K : XE → List AV → AHeap → Option Out) : ∀ (m : Nat) (s1 : ByteArray) (sep1 : ByteArray) (sepSave1 : Int) (n01 : Int) (i : Int) (a : (Sq ByteArray)), loopI tys (callees Out (strings_Count_es n)) (strings_genSplit_hint n) n (codeAt [1, 1, 1, 1, 1, 1, 1, 1, 0, 0, 0] (bodyOf Tryd.f64)) 0 strings_genSplit_L0_sp strings_genSplit_L0_rp K m (s1, (sep1, (sepSave1, (n01, (i, ()))))) (a, ()) = (strings_genSplit_L0 n m s1 sep1 sepSave1 n01 i a).bind (strings_genSplit_L0_K K)
  | 0, s1, sep1, sepSave1, n01, i, a => by kernel_rfl
  | m + 1, s1, sep1, sepSave1, n01, i, a => by
    have h1 : loopI tys (callees Out (strings_Count_es n)) (strings_genSplit_hint n) n (codeAt [1, 1, 1, 1, 1, 1, 1, 1, 0, 0, 0] (bodyOf Tryd.f64)) 0 strings_genSplit_L0_sp strings_genSplit_L0_rp K (m + 1) (s1, (sep1, (sepSave1, (n01, (i, ()))))) (a, ()) = strings_genSplit_B0 n s1 sep1 sepSave1 n01 i a (fun (s1 : ByteArray) (sep1 : ByteArray) (sepSave1 : Int) (n01 : Int) (i : Int) (a : (Sq ByteArray)) => loopI tys (callees Out (strings_Count_es n)) (strings_genSplit_hint n) n (codeAt [1, 1, 1, 1, 1, 1, 1, 1, 0, 0, 0] (bodyOf Tryd.f64)) 0 strings_genSplit_L0_sp strings_genSplit_L0_rp K m (s1, (sep1, (sepSave1, (n01, (i, ()))))) (a, ())) (fun a => strings_genSplit_L0_K K (.out a)) (fun a => strings_genSplit_L0_K K (.ret a)) (fun p => strings_genSplit_L0_K K (.pan p)) := by kernel_rfl
    have h2 : (fun (s1 : ByteArray) (sep1 : ByteArray) (sepSave1 : Int) (n01 : Int) (i : Int) (a : (Sq ByteArray)) => loopI tys (callees Out (strings_Count_es n)) (strings_genSplit_hint n) n (codeAt [1, 1, 1, 1, 1, 1, 1, 1, 0, 0, 0] (bodyOf Tryd.f64)) 0 strings_genSplit_L0_sp strings_genSplit_L0_rp K m (s1, (sep1, (sepSave1, (n01, (i, ()))))) (a, ())) = (fun (s1 : ByteArray) (sep1 : ByteArray) (sepSave1 : Int) (n01 : Int) (i : Int) (a : (Sq ByteArray)) => (strings_genSplit_L0 n m s1 sep1 sepSave1 n01 i a).bind (strings_genSplit_L0_K K)) := funext fun s1 => funext fun sep1 => funext fun sepSave1 => funext fun n01 => funext fun i => funext fun a => strings_genSplit_L0_E n K m s1 sep1 sepSave1 n01 i a
    exact h1.trans ((congrArg (fun z => strings_genSplit_B0 n s1 sep1 sepSave1 n01 i a z (fun a => strings_genSplit_L0_K K (.out a)) (fun a => strings_genSplit_L0_K K (.ret a)) (fun p => strings_genSplit_L0_K K (.pan p))) h2).trans (strings_genSplit_B0_N n s1 sep1 sepSave1 n01 i a (fun (s1 : ByteArray) (sep1 : ByteArray) (sepSave1 : Int) (n01 : Int) (i : Int) (a : (Sq ByteArray)) => strings_genSplit_L0 n m s1 sep1 sepSave1 n01 i a) (fun a => some (.out a)) (fun a => some (.ret a)) (fun p => some (.pan p)) (strings_genSplit_L0_K K)))
theorem strings_genSplit_L0_ok (n : Nat) : RunOk tys (callees Out (strings_Count_es n)) (strings_genSplit_hint n) n (codeAt [1, 1, 1, 1, 1, 1, 1, 1, 0, 0, 0] (bodyOf Tryd.f64)) 0 := runOk_of (sp := strings_genSplit_L0_sp) (rp := strings_genSplit_L0_rp) (F := fun σ ρ K => (strings_genSplit_L0 n n σ.1 σ.2.1 σ.2.2.1 σ.2.2.2.1 σ.2.2.2.2.1 ρ.1).bind (strings_genSplit_L0_K K)) (by kernel_rfl) fun K σ ρ => strings_genSplit_L0_E n K n σ.1 σ.2.1 σ.2.2.1 σ.2.2.2.1 σ.2.2.2.2.1 ρ.1
theorem strings_genSplit_runs (n : Nat) : RunsOk tys (callees Out (strings_Count_es n)) (strings_genSplit_hint n) n (bodyOf Tryd.f64) 0 := ⟨trivial, ⟨⟨trivial, ⟨⟨trivial, trivial⟩, trivial⟩⟩, ⟨⟨trivial, ⟨⟨trivial, trivial⟩, trivial⟩⟩, ⟨⟨trivial, ⟨trivial, trivial⟩⟩, ⟨trivial, ⟨trivial, ⟨trivial, ⟨trivial, ⟨⟨strings_genSplit_L0_ok n, ⟨⟨trivial, ⟨trivial, trivial⟩⟩, ⟨trivial, ⟨⟨trivial, ⟨trivial, trivial⟩⟩, ⟨trivial, ⟨trivial, trivial⟩⟩⟩⟩⟩⟩, ⟨trivial, ⟨trivial, trivial⟩⟩⟩⟩⟩⟩⟩⟩⟩⟩⟩
theorem strings_genSplit_at : Tryd.prog.funcs[64]? = some Tryd.f64 := by kernel_rfl
theorem strings_genSplit_ent (n : Nat) : Enters Tryd.prog 64 := enters_of (c := bodyOf Tryd.f64) strings_genSplit_at (by kernel_rfl) (by kernel_rfl)
theorem strings_genSplit_E (n : Nat) (s : ByteArray) (sep : ByteArray) (sepSave : Int) (n0 : Int) : fnA tys (callees Out (strings_Count_es n)) (strings_genSplit_hint n) n Tryd.f64 (encL (.pair .str (.pair .str (.pair (.int .i64) (.pair (.int .i64) .unit)))) (s, (sep, (sepSave, (n0, ()))))) [] (soloA fun v => some (.ret v)) (soloA fun v => some (.pan v)) = strings_genSplit_B n s sep sepSave n0 (fun y => some (.ret (encR (.one (.sl .str)) y))) := by kernel_rfl
theorem strings_genSplit_ok (n : Nat) : EntryOk Tryd.prog gl ⟨64, pcT (.pair .str (.pair .str (.pair (.int .i64) (.pair (.int .i64) .unit)))) (.one (.sl .str)) (fun xs => strings_genSplit n xs.1 xs.2.1 xs.2.2.1 xs.2.2.2.1), none, none⟩ :=
  pcT_ok (strings_genSplit_ent n) fun xs y h => ans_of_fn tys_ok (strings_Count_es_ok n) mixed (hint := strings_genSplit_hint n) (n := n) (fn := Tryd.f64) strings_genSplit_at (fun c hc => by
    have : bodyOf Tryd.f64 = c := by unfold bodyOf; rw [hc]; rfl
    exact this ▸ strings_genSplit_runs n) (run_ret (φ := (fun y => some (Out.ret (encR (.one (.sl .str)) y)))) ((strings_genSplit_E n xs.1 xs.2.1 xs.2.2.1 xs.2.2.2.1).trans (strings_genSplit_N (R := (Sq ByteArray)) (S := Out) n xs.1 xs.2.1 xs.2.2.1 xs.2.2.2.1 some (fun y => some (Out.ret (encR (.one (.sl .str)) y))))) h)
def strings_genSplit_es (n : Nat) : List Entry := ⟨64, pcT (.pair .str (.pair .str (.pair (.int .i64) (.pair (.int .i64) .unit)))) (.one (.sl .str)) (fun xs => strings_genSplit n xs.1 xs.2.1 xs.2.2.1 xs.2.2.2.1), none, none⟩ :: strings_Count_es n
theorem strings_genSplit_es_ok (n : Nat) : AllOk Tryd.prog gl (strings_genSplit_es n) := .cons (strings_genSplit_ok n) (strings_Count_es_ok n)

/- strings.Split -/
def strings_Split_B (n : Nat) {R : Type} (s : ByteArray) (sep : ByteArray) (k : (Sq ByteArray) → Option R) : Option R :=
  (strings_genSplit n s sep (0 : Int) (-1 : Int)).bind fun v =>
  k v
def strings_Split (n : Nat) (s : ByteArray) (sep : ByteArray) : Option (Sq ByteArray) := strings_Split_B n s sep some
theorem strings_Split_N (n : Nat) {R S : Type} (s : ByteArray) (sep : ByteArray) (k : (Sq ByteArray) → Option R) (φ : R → Option S) : strings_Split_B n s sep (fun a => (k a).bind φ) = (strings_Split_B n s sep k).bind φ := by
  unfold strings_Split_B
  first | (simp only [ite_bind, bind_bind, onL_bind, onX_bind, none_bind]) | rfl
def strings_Split_hint (n : Nat) : Hint Out := { live := fun c => [], run := fun c => none, xm := fun c q => none }
theorem strings_Split_runs (n : Nat) : RunsOk tys (callees Out (strings_genSplit_es n)) (strings_Split_hint n) n (bodyOf Tryd.f55) 0 := ⟨trivial, ⟨trivial, trivial⟩⟩
theorem strings_Split_at : Tryd.prog.funcs[55]? = some Tryd.f55 := by kernel_rfl
theorem strings_Split_ent (n : Nat) : Enters Tryd.prog 55 := enters_of (c := bodyOf Tryd.f55) strings_Split_at (by kernel_rfl) (by kernel_rfl)
theorem strings_Split_E (n : Nat) (s : ByteArray) (sep : ByteArray) : fnA tys (callees Out (strings_genSplit_es n)) (strings_Split_hint n) n Tryd.f55 (encL (.pair .str (.pair .str .unit)) (s, (sep, ()))) [] (soloA fun v => some (.ret v)) (soloA fun v => some (.pan v)) = strings_Split_B n s sep (fun y => some (.ret (encR (.one (.sl .str)) y))) := by kernel_rfl
theorem strings_Split_ok (n : Nat) : EntryOk Tryd.prog gl ⟨55, pcT (.pair .str (.pair .str .unit)) (.one (.sl .str)) (fun xs => strings_Split n xs.1 xs.2.1), none, none⟩ :=
  pcT_ok (strings_Split_ent n) fun xs y h => ans_of_fn tys_ok (strings_genSplit_es_ok n) mixed (hint := strings_Split_hint n) (n := n) (fn := Tryd.f55) strings_Split_at (fun c hc => by
    have : bodyOf Tryd.f55 = c := by unfold bodyOf; rw [hc]; rfl
    exact this ▸ strings_Split_runs n) (run_ret (φ := (fun y => some (Out.ret (encR (.one (.sl .str)) y)))) ((strings_Split_E n xs.1 xs.2.1).trans (strings_Split_N (R := (Sq ByteArray)) (S := Out) n xs.1 xs.2.1 some (fun y => some (Out.ret (encR (.one (.sl .str)) y))))) h)
def strings_Split_es (n : Nat) : List Entry := ⟨55, pcT (.pair .str (.pair .str .unit)) (.one (.sl .str)) (fun xs => strings_Split n xs.1 xs.2.1), none, none⟩ :: strings_genSplit_es n
theorem strings_Split_es_ok (n : Nat) : AllOk Tryd.prog gl (strings_Split_es n) := .cons (strings_Split_ok n) (strings_genSplit_es_ok n)

/- strconv.Atoi, by contract (Lib) -/
def strconv_Atoi_es (n : Nat) : List Entry := ⟨56, fun {R} => pcAtoi (R := R) 95, none, none⟩ :: strings_Split_es n
theorem strconv_Atoi_es_ok (n : Nat) : AllOk Tryd.prog gl (strconv_Atoi_es n) := .cons atoi_ok (strings_Split_es_ok n)

/- strconv.Itoa, by contract (Lib) -/
def strconv_Itoa_es (n : Nat) : List Entry := ⟨57, pcT (.pair (.int .i64) .unit) (.one .str) (fun xs => itoaF xs.1), none, none⟩ :: strconv_Atoi_es n
theorem strconv_Itoa_es_ok (n : Nat) : AllOk Tryd.prog gl (strconv_Itoa_es n) := .cons itoa_ok (strconv_Atoi_es_ok n)

/- pouch/addr.literal -/
def addr_literal_B0 (n : Nat) {R : Type} (l : (Sq ByteArray)) (t10 : (Sq ByteArray)) (t11 : Int) (t12 : Int) (kn : (Sq ByteArray) → (Sq ByteArray) → Int → Int → Option R) (ko : ((Sq ByteArray)) → Option R) (kr : (Bool) → Option R) (kp : Int → Option R) : Option R :=
  if (decide (t12 < t11)) = true then
    if 0 ≤ t12 ∧ t12 < (t10.n : Int) then
      (atoiF (t10.at' (Int.toNat t12))).bind fun v1 =>
      if v1.2 = true then
        if (decide (v1.1 < (0 : Int))) = false then
          if (decide (v1.1 > (255 : Int))) = false then
            (itoaF v1.1).bind fun v2 =>
            if (!(v2.toList == (t10.at' (Int.toNat t12)).toList)) = true then
              kr false
            else
              kn l t10 t11 (IntKind.wrap .i64 (t12 + (1 : Int)))
          else
            kr false
        else
          kr false
      else
        kr false
    else
      none
  else
    ko l
theorem addr_literal_B0_N (n : Nat) {R S : Type} (l : (Sq ByteArray)) (t10 : (Sq ByteArray)) (t11 : Int) (t12 : Int) (kn : (Sq ByteArray) → (Sq ByteArray) → Int → Int → Option R) (ko : ((Sq ByteArray)) → Option R) (kr : (Bool) → Option R) (kp : Int → Option R) (φ : R → Option S) : addr_literal_B0 n l t10 t11 t12 (fun l t10 t11 t12 => (kn l t10 t11 t12).bind φ) (fun a => (ko a).bind φ) (fun a => (kr a).bind φ) (fun a => (kp a).bind φ) = (addr_literal_B0 n l t10 t11 t12 kn ko kr kp).bind φ := by
  unfold addr_literal_B0
  first | (simp only [ite_bind, bind_bind, onL_bind, onX_bind, none_bind]) | rfl
def addr_literal_L0 (n : Nat) : Nat → (Sq ByteArray) → (Sq ByteArray) → Int → Int → Option (Lx ((Sq ByteArray)) (Bool))
  | 0, _, _, _, _ => none
  | m + 1, l, t10, t11, t12 => addr_literal_B0 n l t10 t11 t12 (fun l t10 t11 t12 => addr_literal_L0 n m l t10 t11 t12) (fun a => some (.out a)) (fun a => some (.ret a)) (fun p => some (.pan p))
def addr_literal_L0_sp : List Sl := [.top, .top, .top, .dat (.sl .str), .top, .top, .top, .top, .top, .top, .dat (.sl .str), .dat (.int .i64), .dat (.int .i64), .top, .top, .top, .top, .top, .top, .top, .top, .top, .top, .top, .top, .top, .top, .top, .top, .top, .top, .top, .top, .top, .top, .top, .top, .top, .top, .top, .top]
def addr_literal_L0_rp : List RS := []
def addr_literal_L0_out_sp : List Sl := [.top, .top, .top, .dat (.sl .str), .top, .top, .top, .top, .top, .top, .top, .top, .top, .top, .top, .top, .top, .top, .top, .top, .top, .top, .top, .top, .top, .top, .top, .top, .top, .top, .top, .top, .top, .top, .top, .top, .top, .top, .top, .top, .top]
def addr_literal_L0_out_rp : List RS := []
def addr_literal_L0_ret_sp : List Sl := [.top, .top, .dat .bool, .top, .top, .top, .top, .top, .top, .top, .top, .top, .top, .top, .top, .top, .top, .top, .top, .top, .top, .top, .top, .top, .top, .top, .top, .top, .top, .top, .top, .top, .top, .top, .top, .top, .top, .top, .top, .top, .top]
def addr_literal_L0_ret_rp : List RS := []
def addr_literal_L0_K (K : XE → List AV → AHeap → Option Out) : Lx ((Sq ByteArray)) (Bool) → Option Out := fun x => onL x (fun a => K (.exit 0) (encF (nsOf addr_literal_L0_out_rp ()) addr_literal_L0_out_sp (a, ())) (encH (nsOf addr_literal_L0_out_rp ()) addr_literal_L0_out_rp ())) (fun a => K .ret (encF (nsOf addr_literal_L0_ret_rp ()) addr_literal_L0_ret_sp (a, ())) (encH (nsOf addr_literal_L0_ret_rp ()) addr_literal_L0_ret_rp ())) (fun _ => none)
def addr_literal_B (n : Nat) {R : Type} (s : ByteArray) (k : Bool → Option R) : Option R :=
  (strings_Split n s (⟨#[46]⟩ : ByteArray)).bind fun v =>
  (addr_literal_L0 n n v v (v.n : Int) (0 : Int)).bind fun x_1 => onL x_1
    (fun a_2 =>
      k ((a_2.n : Int) == (4 : Int)))
    (fun a_3 =>
      k a_3)
    (fun _ => none)
def addr_literal (n : Nat) (s : ByteArray) : Option Bool := addr_literal_B n s some
theorem addr_literal_N (n : Nat) {R S : Type} (s : ByteArray) (k : Bool → Option R) (φ : R → Option S) : addr_literal_B n s (fun a => (k a).bind φ) = (addr_literal_B n s k).bind φ := by
  unfold addr_literal_B
  first | (simp only [ite_bind, bind_bind, onL_bind, onX_bind, none_bind]) | rfl
def addr_literal_hint (n : Nat) : Hint Out := { live := fun c => (cond (Nat.beq c 0) [(3, some (.sl .str)), (10, some (.sl .str)), (11, none), (12, none)] []), run := fun c => (cond (Nat.beq c 0) (some (runL addr_literal_L0_sp addr_literal_L0_rp fun σ ρ K => (addr_literal_L0 n n σ.1 σ.2.1 σ.2.2.1 σ.2.2.2.1).bind (addr_literal_L0_K K))) none), xm := fun c q => (cond (Nat.beq c 0 && Nat.beq (q.getD 1000000) 0 && q.isSome) (some [(3, some (.sl .str))]) (cond (Nat.beq c 1 && q.isNone) (some [(2, none)]) none)) }
theorem addr_literal_L0_E (n : Nat) (K : XE → List AV → AHeap → Option Out) : ∀ (m : Nat) (l : (Sq ByteArray)) (t10 : (Sq ByteArray)) (t11 : Int) (t12 : Int), loopI tys (callees Out (strconv_Itoa_es n)) (addr_literal_hint n) n (codeAt [1, 1, 0, 1, 0, 0] (bodyOf Tryd.f46)) 0 addr_literal_L0_sp addr_literal_L0_rp K m (l, (t10, (t11, (t12, ())))) () = (addr_literal_L0 n m l t10 t11 t12).bind (addr_literal_L0_K K)
  | 0, l, t10, t11, t12 => by kernel_rfl
  | m + 1, l, t10, t11, t12 => by
    have h1 : loopI tys (callees Out (strconv_Itoa_es n)) (addr_literal_hint n) n (codeAt [1, 1, 0, 1, 0, 0] (bodyOf Tryd.f46)) 0 addr_literal_L0_sp addr_literal_L0_rp K (m + 1) (l, (t10, (t11, (t12, ())))) () = addr_literal_B0 n l t10 t11 t12 (fun (l : (Sq ByteArray)) (t10 : (Sq ByteArray)) (t11 : Int) (t12 : Int) => loopI tys (callees Out (strconv_Itoa_es n)) (addr_literal_hint n) n (codeAt [1, 1, 0, 1, 0, 0] (bodyOf Tryd.f46)) 0 addr_literal_L0_sp addr_literal_L0_rp K m (l, (t10, (t11, (t12, ())))) ()) (fun a => addr_literal_L0_K K (.out a)) (fun a => addr_literal_L0_K K (.ret a)) (fun p => addr_literal_L0_K K (.pan p)) := by kernel_rfl
    have h2 : (fun (l : (Sq ByteArray)) (t10 : (Sq ByteArray)) (t11 : Int) (t12 : Int) => loopI tys (callees Out (strconv_Itoa_es n)) (addr_literal_hint n) n (codeAt [1, 1, 0, 1, 0, 0] (bodyOf Tryd.f46)) 0 addr_literal_L0_sp addr_literal_L0_rp K m (l, (t10, (t11, (t12, ())))) ()) = (fun (l : (Sq ByteArray)) (t10 : (Sq ByteArray)) (t11 : Int) (t12 : Int) => (addr_literal_L0 n m l t10 t11 t12).bind (addr_literal_L0_K K)) := funext fun l => funext fun t10 => funext fun t11 => funext fun t12 => addr_literal_L0_E n K m l t10 t11 t12
    exact h1.trans ((congrArg (fun z => addr_literal_B0 n l t10 t11 t12 z (fun a => addr_literal_L0_K K (.out a)) (fun a => addr_literal_L0_K K (.ret a)) (fun p => addr_literal_L0_K K (.pan p))) h2).trans (addr_literal_B0_N n l t10 t11 t12 (fun (l : (Sq ByteArray)) (t10 : (Sq ByteArray)) (t11 : Int) (t12 : Int) => addr_literal_L0 n m l t10 t11 t12) (fun a => some (.out a)) (fun a => some (.ret a)) (fun p => some (.pan p)) (addr_literal_L0_K K)))
theorem addr_literal_L0_ok (n : Nat) : RunOk tys (callees Out (strconv_Itoa_es n)) (addr_literal_hint n) n (codeAt [1, 1, 0, 1, 0, 0] (bodyOf Tryd.f46)) 0 := runOk_of (sp := addr_literal_L0_sp) (rp := addr_literal_L0_rp) (F := fun σ ρ K => (addr_literal_L0 n n σ.1 σ.2.1 σ.2.2.1 σ.2.2.2.1).bind (addr_literal_L0_K K)) (by kernel_rfl) fun K σ ρ => addr_literal_L0_E n K n σ.1 σ.2.1 σ.2.2.1 σ.2.2.2.1
theorem addr_literal_runs (n : Nat) : RunsOk tys (callees Out (strconv_Itoa_es n)) (addr_literal_hint n) n (bodyOf Tryd.f46) 0 := ⟨trivial, ⟨trivial, ⟨⟨trivial, ⟨addr_literal_L0_ok n, ⟨trivial, ⟨⟨trivial, trivial⟩, ⟨⟨trivial, ⟨trivial, ⟨trivial, ⟨⟨trivial, trivial⟩, trivial⟩⟩⟩⟩, trivial⟩⟩⟩⟩⟩, ⟨trivial, trivial⟩⟩⟩⟩
theorem addr_literal_at : Tryd.prog.funcs[46]? = some Tryd.f46 := by kernel_rfl
theorem addr_literal_ent (n : Nat) : Enters Tryd.prog 46 := enters_of (c := bodyOf Tryd.f46) addr_literal_at (by kernel_rfl) (by kernel_rfl)
theorem addr_literal_E (n : Nat) (s : ByteArray) : fnA tys (callees Out (strconv_Itoa_es n)) (addr_literal_hint n) n Tryd.f46 (encL (.pair .str .unit) (s, ())) [] (soloA fun v => some (.ret v)) (soloA fun v => some (.pan v)) = addr_literal_B n s (fun y => some (.ret (encR (.one .bool) y))) := by kernel_rfl
theorem addr_literal_ok (n : Nat) : EntryOk Tryd.prog gl ⟨46, pcT (.pair .str .unit) (.one .bool) (fun xs => addr_literal n xs.1), none, none⟩ :=
  pcT_ok (addr_literal_ent n) fun xs y h => ans_of_fn tys_ok (strconv_Itoa_es_ok n) mixed (hint := addr_literal_hint n) (n := n) (fn := Tryd.f46) addr_literal_at (fun c hc => by
    have : bodyOf Tryd.f46 = c := by unfold bodyOf; rw [hc]; rfl
    exact this ▸ addr_literal_runs n) (run_ret (φ := (fun y => some (Out.ret (encR (.one .bool) y)))) ((addr_literal_E n xs.1).trans (addr_literal_N (R := Bool) (S := Out) n xs.1 some (fun y => some (Out.ret (encR (.one .bool) y))))) h)
def addr_literal_es (n : Nat) : List Entry := ⟨46, pcT (.pair .str .unit) (.one .bool) (fun xs => addr_literal n xs.1), none, none⟩ :: strconv_Itoa_es n
theorem addr_literal_es_ok (n : Nat) : AllOk Tryd.prog gl (addr_literal_es n) := .cons (addr_literal_ok n) (strconv_Itoa_es_ok n)

/- pouch/addr.label -/
def addr_label_B0 (n : Nat) {R : Type} (s1 : ByteArray) (t5 : Int) (t6 : Int) (kn : ByteArray → Int → Int → Option R) (ko : (ByteArray) → Option R) (kr : (Bool) → Option R) (kp : Int → Option R) : Option R :=
  if (decide (t6 < t5)) = true then
    if 0 ≤ t6 ∧ t6 < (s1.size : Int) then
      (addr_sign n (bt s1 t6)).bind fun v =>
      if (!v) = true then
        if 0 ≤ t6 ∧ t6 < (s1.size : Int) then
          if ((bt s1 t6) != (45 : Int)) = false then
            if (t6 == (0 : Int)) = false then
              if (t6 == (IntKind.wrap .i64 ((s1.size : Int) - (1 : Int)))) = true then
                kr false
              else
                kn s1 t5 (IntKind.wrap .i64 (t6 + (1 : Int)))
            else
              kr false
          else
            kr false
        else
          none
      else
        kn s1 t5 (IntKind.wrap .i64 (t6 + (1 : Int)))
    else
      none
  else
    ko s1
theorem addr_label_B0_N (n : Nat) {R S : Type} (s1 : ByteArray) (t5 : Int) (t6 : Int) (kn : ByteArray → Int → Int → Option R) (ko : (ByteArray) → Option R) (kr : (Bool) → Option R) (kp : Int → Option R) (φ : R → Option S) : addr_label_B0 n s1 t5 t6 (fun s1 t5 t6 => (kn s1 t5 t6).bind φ) (fun a => (ko a).bind φ) (fun a => (kr a).bind φ) (fun a => (kp a).bind φ) = (addr_label_B0 n s1 t5 t6 kn ko kr kp).bind φ := by
  unfold addr_label_B0
  first | (simp only [ite_bind, bind_bind, onL_bind, onX_bind, none_bind]) | rfl
def addr_label_L0 (n : Nat) : Nat → ByteArray → Int → Int → Option (Lx (ByteArray) (Bool))
  | 0, _, _, _ => none
  | m + 1, s1, t5, t6 => addr_label_B0 n s1 t5 t6 (fun s1 t5 t6 => addr_label_L0 n m s1 t5 t6) (fun a => some (.out a)) (fun a => some (.ret a)) (fun p => some (.pan p))
def addr_label_L0_sp : List Sl := [.dat .str, .top, .top, .top, .top, .dat (.int .i64), .dat (.int .i64), .top, .top, .top, .top, .top, .top, .top, .top, .top, .top, .top, .top, .top, .top, .top, .top, .top, .top, .top, .top, .top, .top, .top, .top, .top, .top, .top, .top, .top, .top, .top, .top, .top]
def addr_label_L0_rp : List RS := []
def addr_label_L0_out_sp : List Sl := [.dat .str, .top, .top, .top, .top, .top, .top, .top, .top, .top, .top, .top, .top, .top, .top, .top, .top, .top, .top, .top, .top, .top, .top, .top, .top, .top, .top, .top, .top, .top, .top, .top, .top, .top, .top, .top, .top, .top, .top, .top]
def addr_label_L0_out_rp : List RS := []
def addr_label_L0_ret_sp : List Sl := [.top, .top, .dat .bool, .top, .top, .top, .top, .top, .top, .top, .top, .top, .top, .top, .top, .top, .top, .top, .top, .top, .top, .top, .top, .top, .top, .top, .top, .top, .top, .top, .top, .top, .top, .top, .top, .top, .top, .top, .top, .top]
def addr_label_L0_ret_rp : List RS := []
def addr_label_L0_K (K : XE → List AV → AHeap → Option Out) : Lx (ByteArray) (Bool) → Option Out := fun x => onL x (fun a => K (.exit 0) (encF (nsOf addr_label_L0_out_rp ()) addr_label_L0_out_sp (a, ())) (encH (nsOf addr_label_L0_out_rp ()) addr_label_L0_out_rp ())) (fun a => K .ret (encF (nsOf addr_label_L0_ret_rp ()) addr_label_L0_ret_sp (a, ())) (encH (nsOf addr_label_L0_ret_rp ()) addr_label_L0_ret_rp ())) (fun _ => none)
def addr_label_B (n : Nat) {R : Type} (s : ByteArray) (k : Bool → Option R) : Option R :=
  (addr_label_L0 n n s (s.size : Int) (0 : Int)).bind fun x_1 => onL x_1
    (fun a_2 =>
      if (decide ((a_2.size : Int) ≥ (1 : Int))) = true then
        k (decide ((a_2.size : Int) ≤ (63 : Int)))
      else
        k false)
    (fun a_3 =>
      k a_3)
    (fun _ => none)
def addr_label (n : Nat) (s : ByteArray) : Option Bool := addr_label_B n s some
theorem addr_label_N (n : Nat) {R S : Type} (s : ByteArray) (k : Bool → Option R) (φ : R → Option S) : addr_label_B n s (fun a => (k a).bind φ) = (addr_label_B n s k).bind φ := by
  unfold addr_label_B
  first | (simp only [ite_bind, bind_bind, onL_bind, onX_bind, none_bind]) | rfl
def addr_label_hint (n : Nat) : Hint Out := { live := fun c => (cond (Nat.beq c 0) [(0, none), (5, none), (6, none)] []), run := fun c => (cond (Nat.beq c 0) (some (runL addr_label_L0_sp addr_label_L0_rp fun σ ρ K => (addr_label_L0 n n σ.1 σ.2.1 σ.2.2.1).bind (addr_label_L0_K K))) none), xm := fun c q => (cond (Nat.beq c 0 && Nat.beq (q.getD 1000000) 0 && q.isSome) (some [(0, none)]) (cond (Nat.beq c 1 && q.isNone) (some [(2, none)]) none)) }
theorem addr_label_L0_E (n : Nat) (K : XE → List AV → AHeap → Option Out) : ∀ (m : Nat) (s1 : ByteArray) (t5 : Int) (t6 : Int), loopI tys (callees Out (addr_literal_es n)) (addr_label_hint n) n (codeAt [1, 0, 1, 0, 0] (bodyOf Tryd.f48)) 0 addr_label_L0_sp addr_label_L0_rp K m (s1, (t5, (t6, ()))) () = (addr_label_L0 n m s1 t5 t6).bind (addr_label_L0_K K)
  | 0, s1, t5, t6 => by kernel_rfl
  | m + 1, s1, t5, t6 => by
    have h1 : loopI tys (callees Out (addr_literal_es n)) (addr_label_hint n) n (codeAt [1, 0, 1, 0, 0] (bodyOf Tryd.f48)) 0 addr_label_L0_sp addr_label_L0_rp K (m + 1) (s1, (t5, (t6, ()))) () = addr_label_B0 n s1 t5 t6 (fun (s1 : ByteArray) (t5 : Int) (t6 : Int) => loopI tys (callees Out (addr_literal_es n)) (addr_label_hint n) n (codeAt [1, 0, 1, 0, 0] (bodyOf Tryd.f48)) 0 addr_label_L0_sp addr_label_L0_rp K m (s1, (t5, (t6, ()))) ()) (fun a => addr_label_L0_K K (.out a)) (fun a => addr_label_L0_K K (.ret a)) (fun p => addr_label_L0_K K (.pan p)) := by kernel_rfl
    have h2 : (fun (s1 : ByteArray) (t5 : Int) (t6 : Int) => loopI tys (callees Out (addr_literal_es n)) (addr_label_hint n) n (codeAt [1, 0, 1, 0, 0] (bodyOf Tryd.f48)) 0 addr_label_L0_sp addr_label_L0_rp K m (s1, (t5, (t6, ()))) ()) = (fun (s1 : ByteArray) (t5 : Int) (t6 : Int) => (addr_label_L0 n m s1 t5 t6).bind (addr_label_L0_K K)) := funext fun s1 => funext fun t5 => funext fun t6 => addr_label_L0_E n K m s1 t5 t6
    exact h1.trans ((congrArg (fun z => addr_label_B0 n s1 t5 t6 z (fun a => addr_label_L0_K K (.out a)) (fun a => addr_label_L0_K K (.ret a)) (fun p => addr_label_L0_K K (.pan p))) h2).trans (addr_label_B0_N n s1 t5 t6 (fun (s1 : ByteArray) (t5 : Int) (t6 : Int) => addr_label_L0 n m s1 t5 t6) (fun a => some (.out a)) (fun a => some (.ret a)) (fun p => some (.pan p)) (addr_label_L0_K K)))
theorem addr_label_L0_ok (n : Nat) : RunOk tys (callees Out (addr_literal_es n)) (addr_label_hint n) n (codeAt [1, 0, 1, 0, 0] (bodyOf Tryd.f48)) 0 := runOk_of (sp := addr_label_L0_sp) (rp := addr_label_L0_rp) (F := fun σ ρ K => (addr_label_L0 n n σ.1 σ.2.1 σ.2.2.1).bind (addr_label_L0_K K)) (by kernel_rfl) fun K σ ρ => addr_label_L0_E n K n σ.1 σ.2.1 σ.2.2.1
theorem addr_label_runs (n : Nat) : RunsOk tys (callees Out (addr_literal_es n)) (addr_label_hint n) n (bodyOf Tryd.f48) 0 := ⟨trivial, ⟨⟨trivial, ⟨addr_label_L0_ok n, ⟨trivial, ⟨⟨trivial, trivial⟩, ⟨⟨trivial, ⟨trivial, ⟨⟨trivial, trivial⟩, trivial⟩⟩⟩, trivial⟩⟩⟩⟩⟩, ⟨trivial, trivial⟩⟩⟩
theorem addr_label_at : Tryd.prog.funcs[48]? = some Tryd.f48 := by kernel_rfl
theorem addr_label_ent (n : Nat) : Enters Tryd.prog 48 := enters_of (c := bodyOf Tryd.f48) addr_label_at (by kernel_rfl) (by kernel_rfl)
theorem addr_label_E (n : Nat) (s : ByteArray) : fnA tys (callees Out (addr_literal_es n)) (addr_label_hint n) n Tryd.f48 (encL (.pair .str .unit) (s, ())) [] (soloA fun v => some (.ret v)) (soloA fun v => some (.pan v)) = addr_label_B n s (fun y => some (.ret (encR (.one .bool) y))) := by kernel_rfl
theorem addr_label_ok (n : Nat) : EntryOk Tryd.prog gl ⟨48, pcT (.pair .str .unit) (.one .bool) (fun xs => addr_label n xs.1), none, none⟩ :=
  pcT_ok (addr_label_ent n) fun xs y h => ans_of_fn tys_ok (addr_literal_es_ok n) mixed (hint := addr_label_hint n) (n := n) (fn := Tryd.f48) addr_label_at (fun c hc => by
    have : bodyOf Tryd.f48 = c := by unfold bodyOf; rw [hc]; rfl
    exact this ▸ addr_label_runs n) (run_ret (φ := (fun y => some (Out.ret (encR (.one .bool) y)))) ((addr_label_E n xs.1).trans (addr_label_N (R := Bool) (S := Out) n xs.1 some (fun y => some (Out.ret (encR (.one .bool) y))))) h)
def addr_label_es (n : Nat) : List Entry := ⟨48, pcT (.pair .str .unit) (.one .bool) (fun xs => addr_label n xs.1), none, none⟩ :: addr_literal_es n
theorem addr_label_es_ok (n : Nat) : AllOk Tryd.prog gl (addr_label_es n) := .cons (addr_label_ok n) (addr_literal_es_ok n)

/- pouch/addr.IsDomain, by hand (Dom) -/
def addr_IsDomain (n : Nat) (s : ByteArray) : Option Bool :=
  (addr_IsLiteral n s).bind fun b => if b = true then (strings_HasSuffix n s ⟨#[93]⟩).bind fun c => if c = true then (if 2 ≤ (s.size : Int) ∧ (s.size : Int) ≤ 9223372036854775807 then addr_literal n (s.extract 1 (s.size - 1)) else none) else some false
  else Dom.domT (fun x => strings_Index n x Dom.dot) (addr_label n) n s
theorem addr_IsDomain_at : Tryd.prog.funcs[34]? = some Tryd.f34 := by kernel_rfl
theorem addr_IsDomain_ok (n : Nat) : EntryOk Tryd.prog gl ⟨34, pcT (.pair .str .unit) (.one .bool) (fun xs => addr_IsDomain n xs.1), none, none⟩ := pcT_ok (enters_of (c := bodyOf Tryd.f34) addr_IsDomain_at (by kernel_rfl) (by kernel_rfl)) fun xs y h => by
  refine ans_flat (args := [.string xs.1]) (v := .bool y) (fun w0 hg hn => ?_)
  have hlit : ∀ b, addr_IsLiteral n xs.1 = some b → ∀ (w : World), Below w0.heap.size w0 w → Calls Tryd.prog 44 #[.string xs.1] w fun e w' => e = .returned (.bool b) ∧ Below w.heap.size w w' := fun b hb' w hb =>
    ent_flat (addr_IsLiteral_ok n) (args := [.string xs.1]) (v := .bool b) (by show (addr_IsLiteral n xs.1).bind _ = _; rw [hb']; rfl) hg hn hb
  have hsuf : ∀ b, strings_HasSuffix n xs.1 ⟨#[93]⟩ = some b → ∀ (w : World), Below w0.heap.size w0 w → Calls Tryd.prog 45 #[.string xs.1, .string ⟨#[93]⟩] w fun e w' => e = .returned (.bool b) ∧ Below w.heap.size w w' := fun b hb' w hb =>
    ent_flat (strings_HasSuffix_ok n) (args := [.string xs.1, .string ⟨#[93]⟩]) (v := .bool b) (by show (strings_HasSuffix n xs.1 ⟨#[93]⟩).bind _ = _; rw [hb']; rfl) hg hn hb
  unfold addr_IsDomain at h
  obtain ⟨b, hb, h⟩ := Option.bind_eq_some_iff.1 h
  cases b with
  | true =>
    rw [if_pos rfl] at h
    obtain ⟨c, hc, h⟩ := Option.bind_eq_some_iff.1 h
    refine Dom.dom2 xs.1 c y w0 (hlit true hb) (hsuf c hc) (fun hc' => ?_) (fun hc' => ?_)
    · rw [if_pos hc'] at h
      split at h
      · rename_i hsz
        exact ⟨hsz, fun w hbw => ent_flat (addr_literal_ok n) (args := [.string (xs.1.extract 1 (xs.1.size - 1))]) (v := .bool y) (by show (addr_literal n (xs.1.extract 1 (xs.1.size - 1))).bind _ = _; rw [h]; rfl) hg hn hbw⟩
      · cases h
    · rw [if_neg (by rw [hc']; simp)] at h
      exact (Option.some.inj h).symm
  | false =>
    rw [if_neg (by simp)] at h
    exact Dom.dom1 _ _ n xs.1 y w0 (fun x i w hbw hx => ent_flat (strings_Index_ok n) (args := [.string x, .string Dom.dot]) (v := .int .i64 i) (by show (strings_Index n x Dom.dot).bind _ = _; rw [hx]; rfl) hg hn hbw)
      (fun x i w hbw hx => ent_flat (addr_label_ok n) (args := [.string x]) (v := .bool i) (by show (addr_label n x).bind _ = _; rw [hx]; rfl) hg hn hbw) (hlit false hb) h
def addr_IsDomain_es (n : Nat) : List Entry := ⟨34, pcT (.pair .str .unit) (.one .bool) (fun xs => addr_IsDomain n xs.1), none, none⟩ :: addr_label_es n
theorem addr_IsDomain_es_ok (n : Nat) : AllOk Tryd.prog gl (addr_IsDomain_es n) := .cons (addr_IsDomain_ok n) (addr_label_es_ok n)

/- pouch/addr.read -/
def addr_read_B (n : Nat) {R : Type} (s : ByteArray) (k : (ByteArray × (ByteArray × Unit)) → Option R) (kp : Int → Option R) : Option R :=
  (addr_local n s).bind fun x_1 => onX x_1 (fun p =>
    kp p) (fun v =>
  if (decide ((v.1.size : Int) ≤ (64 : Int))) = true then
    (strings_HasPrefix n v.2.1 (⟨#[64]⟩ : ByteArray)).bind fun v1 =>
    (addr_must n v1).bind fun x_2 => onX x_2 (fun p1 =>
      kp p1) (fun v2 =>
    if 0 ≤ (1 : Int) ∧ (1 : Int) ≤ (v.2.1.size : Int) then
      (addr_small n (v.2.1.extract (Int.toNat (1 : Int)) (Int.toNat (v.2.1.size : Int)))).bind fun v3 =>
      (addr_IsDomain n v3).bind fun v4 =>
      (addr_must n v4).bind fun x_3 => onX x_3 (fun p2 =>
        kp p2) (fun v5 =>
      k (v.1, (v3, ())))
    else
      none)
  else
    (addr_must n false).bind fun x_4 => onX x_4 (fun p3 =>
      kp p3) (fun v6 =>
    if 0 ≤ (1 : Int) ∧ (1 : Int) ≤ (v.2.1.size : Int) then
      (addr_small n (v.2.1.extract (Int.toNat (1 : Int)) (Int.toNat (v.2.1.size : Int)))).bind fun v7 =>
      (addr_IsDomain n v7).bind fun v8 =>
      (addr_must n v8).bind fun x_5 => onX x_5 (fun p4 =>
        kp p4) (fun v9 =>
      k (v.1, (v7, ())))
    else
      none))
def addr_read (n : Nat) (s : ByteArray) : Option (Except Int (ByteArray × (ByteArray × Unit))) := addr_read_B n s (fun y => some (.ok y)) (fun p => some (.error p))
theorem addr_read_N (n : Nat) {R S : Type} (s : ByteArray) (k : (ByteArray × (ByteArray × Unit)) → Option R) (kp : Int → Option R) (φ : R → Option S) : addr_read_B n s (fun a => (k a).bind φ) (fun a => (kp a).bind φ) = (addr_read_B n s k kp).bind φ := by
  unfold addr_read_B
  first | (simp only [ite_bind, bind_bind, onL_bind, onX_bind, none_bind]) | rfl
def addr_read_hint (n : Nat) : Hint Out := { live := fun c => [], run := fun c => none, xm := fun c q => none }
theorem addr_read_runs (n : Nat) : RunsOk tys (callees Out (addr_IsDomain_es n)) (addr_read_hint n) n (bodyOf Tryd.f29) 0 := ⟨trivial, ⟨trivial, ⟨trivial, ⟨trivial, ⟨trivial, ⟨trivial, trivial⟩⟩⟩⟩⟩⟩
theorem addr_read_at : Tryd.prog.funcs[29]? = some Tryd.f29 := by kernel_rfl
theorem addr_read_ent (n : Nat) : Enters Tryd.prog 29 := enters_of (c := bodyOf Tryd.f29) addr_read_at (by kernel_rfl) (by kernel_rfl)
theorem addr_read_E (n : Nat) (s : ByteArray) : fnA tys (callees Out (addr_IsDomain_es n)) (addr_read_hint n) n Tryd.f29 (encL (.pair .str .unit) (s, ())) [] (soloA fun v => some (.ret v)) (soloA fun v => some (.pan v)) = addr_read_B n s (fun y => some (.ret (encR (.one (.pair .str (.pair .str .unit))) y))) (fun p => some (.pan (wrongV 61 p))) := by kernel_rfl
theorem addr_read_ok (n : Nat) : EntryOk Tryd.prog gl ⟨29, pcX 61 (.pair .str .unit) (.one (.pair .str (.pair .str .unit))) (fun xs => addr_read n xs.1), none, none⟩ :=
  pcX_ok (addr_read_ent n) (fun xs y h => ans_of_fn tys_ok (addr_IsDomain_es_ok n) mixed (hint := addr_read_hint n) (n := n) (fn := Tryd.f29) addr_read_at (fun c hc => by
    have : bodyOf Tryd.f29 = c := by unfold bodyOf; rw [hc]; rfl
    exact this ▸ addr_read_runs n) (run_ret (φ := (fun r => onX r (fun p => some (Out.pan (wrongV 61 p))) fun y => some (Out.ret (encR (.one (.pair .str (.pair .str .unit))) y)))) ((addr_read_E n xs.1).trans (addr_read_N (R := Except Int (ByteArray × (ByteArray × Unit))) (S := Out) n xs.1 (fun y => some (.ok y)) (fun p => some (.error p)) (fun r => onX r (fun p => some (Out.pan (wrongV 61 p))) fun y => some (Out.ret (encR (.one (.pair .str (.pair .str .unit))) y))))) h))
    (fun xs p h => ans_of_fn tys_ok (addr_IsDomain_es_ok n) mixed (hint := addr_read_hint n) (n := n) (fn := Tryd.f29) addr_read_at (fun c hc => by
    have : bodyOf Tryd.f29 = c := by unfold bodyOf; rw [hc]; rfl
    exact this ▸ addr_read_runs n) (run_ret (φ := (fun r => onX r (fun p => some (Out.pan (wrongV 61 p))) fun y => some (Out.ret (encR (.one (.pair .str (.pair .str .unit))) y)))) ((addr_read_E n xs.1).trans (addr_read_N (R := Except Int (ByteArray × (ByteArray × Unit))) (S := Out) n xs.1 (fun y => some (.ok y)) (fun p => some (.error p)) (fun r => onX r (fun p => some (Out.pan (wrongV 61 p))) fun y => some (Out.ret (encR (.one (.pair .str (.pair .str .unit))) y))))) h))
def addr_read_es (n : Nat) : List Entry := ⟨29, pcX 61 (.pair .str .unit) (.one (.pair .str (.pair .str .unit))) (fun xs => addr_read n xs.1), none, none⟩ :: addr_IsDomain_es n
theorem addr_read_es_ok (n : Nat) : AllOk Tryd.prog gl (addr_read_es n) := .cons (addr_read_ok n) (addr_IsDomain_es_ok n)

/- pouch/addr.Parse -/
def addr_Parse_B (n : Nat) {R : Type} (s : ByteArray) (k : ((ByteArray × (ByteArray × Unit)) × Int × Unit) → Option R) : Option R :=
  (addr_read n s).bind fun x_1 => onX x_1 (fun p =>
    k (((⟨#[]⟩ : ByteArray), ((⟨#[]⟩ : ByteArray), ())), (p, ()))) (fun v =>
  k ((v.1, (v.2.1, ())), ((0 : Int), ())))
def addr_Parse (n : Nat) (s : ByteArray) : Option ((ByteArray × (ByteArray × Unit)) × Int × Unit) := addr_Parse_B n s some
theorem addr_Parse_N (n : Nat) {R S : Type} (s : ByteArray) (k : ((ByteArray × (ByteArray × Unit)) × Int × Unit) → Option R) (φ : R → Option S) : addr_Parse_B n s (fun a => (k a).bind φ) = (addr_Parse_B n s k).bind φ := by
  unfold addr_Parse_B
  first | (simp only [ite_bind, bind_bind, onL_bind, onX_bind, none_bind]) | rfl
def addr_Parse_hint (n : Nat) : Hint Out := { live := fun c => [], run := fun c => none, xm := fun c q => none, pm := some [(2, none), (3, none)] }
theorem addr_Parse_runs (n : Nat) : RunsOk tys (callees Out (addr_read_es n)) (addr_Parse_hint n) n (codeAt [0] (bodyOf Tryd.f12)) 0 ∧ RunsOk tys (callees Out (addr_read_es n)) (addr_Parse_hint n) n (codeAt [1, 1] (bodyOf Tryd.f12)) 0 := ⟨trivial, ⟨trivial, trivial⟩⟩
theorem addr_Parse_at : Tryd.prog.funcs[12]? = some Tryd.f12 := by kernel_rfl
theorem addr_Parse_ent (n : Nat) : Enters Tryd.prog 12 := enters_of (c := bodyOf Tryd.f12) addr_Parse_at (by kernel_rfl) (by kernel_rfl)
theorem addr_Parse_dat : Tryd.prog.funcs[28]? = some Tryd.f28 := by kernel_rfl
theorem addr_Parse_dent : Enters Tryd.prog 28 := enters_of (c := bodyOf Tryd.f28) addr_Parse_dat (by kernel_rfl) (by kernel_rfl)
theorem addr_Parse_druns (n : Nat) : RunsOk tys (callees Out (addr_read_es n)) hint0 n (codeAt [1] (bodyOf Tryd.f28)) 0 := ⟨⟨trivial, ⟨trivial, trivial⟩⟩, ⟨trivial, ⟨⟨trivial, ⟨trivial, trivial⟩⟩, trivial⟩⟩⟩
theorem addr_Parse_E (n : Nat) (s : ByteArray) : fnD tys (callees Out (addr_read_es n)) (addr_Parse_hint n) n 28 Tryd.f28 Tryd.f12 (encL (.pair .str .unit) (s, ())) (soloA fun v => some (.ret v)) = addr_Parse_B n s (fun y => some (.ret (encR (.many (.pair (.pair .str (.pair .str .unit)) (.pair (.int .i64) .unit))) y))) := by kernel_rfl
theorem addr_Parse_ok (n : Nat) : EntryOk Tryd.prog gl ⟨12, pcT (.pair .str .unit) (.many (.pair (.pair .str (.pair .str .unit)) (.pair (.int .i64) .unit))) (fun xs => addr_Parse n xs.1), none, none⟩ :=
  pcT_ok (addr_Parse_ent n) fun xs y h => ans_of_fnD tys_ok (addr_read_es_ok n) mixed (hint := addr_Parse_hint n) (n := n) (fn := Tryd.f12) (f2 := Tryd.f28) addr_Parse_at addr_Parse_dat addr_Parse_dent (runsD (addr_Parse_runs n)) (runsD2 (addr_Parse_druns n)) (run_ret (φ := (fun y => some (Out.ret (encR (.many (.pair (.pair .str (.pair .str .unit)) (.pair (.int .i64) .unit))) y)))) ((addr_Parse_E n xs.1).trans (addr_Parse_N (R := ((ByteArray × (ByteArray × Unit)) × Int × Unit)) (S := Out) n xs.1 some (fun y => some (Out.ret (encR (.many (.pair (.pair .str (.pair .str .unit)) (.pair (.int .i64) .unit))) y))))) h)
def addr_Parse_es (n : Nat) : List Entry := ⟨12, pcT (.pair .str .unit) (.many (.pair (.pair .str (.pair .str .unit)) (.pair (.int .i64) .unit))) (fun xs => addr_Parse n xs.1), none, none⟩ :: addr_read_es n
theorem addr_Parse_es_ok (n : Nat) : AllOk Tryd.prog gl (addr_Parse_es n) := .cons (addr_Parse_ok n) (addr_read_es_ok n)

/- pouch/pouchlaw4.heavy -/
def pouchlaw4_heavy_B (n : Nat) {R : Type} (p : ((ByteArray × (ByteArray × Unit)) × (ByteArray × Unit))) (k : Bool → Option R) : Option R :=
  if (decide ((IntKind.wrap .i64 ((p.1.1.size : Int) + (p.1.2.1.size : Int))) > (2000 : Int))) = false then
    k (decide ((p.2.1.size : Int) > (2000 : Int)))
  else
    k true
def pouchlaw4_heavy (n : Nat) (p : ((ByteArray × (ByteArray × Unit)) × (ByteArray × Unit))) : Option Bool := pouchlaw4_heavy_B n p some
theorem pouchlaw4_heavy_N (n : Nat) {R S : Type} (p : ((ByteArray × (ByteArray × Unit)) × (ByteArray × Unit))) (k : Bool → Option R) (φ : R → Option S) : pouchlaw4_heavy_B n p (fun a => (k a).bind φ) = (pouchlaw4_heavy_B n p k).bind φ := by
  unfold pouchlaw4_heavy_B
  first | (simp only [ite_bind, bind_bind, onL_bind, onX_bind, none_bind]) | rfl
def pouchlaw4_heavy_hint (n : Nat) : Hint Out := { live := fun c => [], run := fun c => none, xm := fun c q => none }
theorem pouchlaw4_heavy_runs (n : Nat) : RunsOk tys (callees Out (addr_Parse_es n)) (pouchlaw4_heavy_hint n) n (bodyOf Tryd.f10) 0 := ⟨trivial, ⟨trivial, trivial⟩⟩
theorem pouchlaw4_heavy_at : Tryd.prog.funcs[10]? = some Tryd.f10 := by kernel_rfl
theorem pouchlaw4_heavy_ent (n : Nat) : Enters Tryd.prog 10 := enters_of (c := bodyOf Tryd.f10) pouchlaw4_heavy_at (by kernel_rfl) (by kernel_rfl)
theorem pouchlaw4_heavy_E (n : Nat) (p : ((ByteArray × (ByteArray × Unit)) × (ByteArray × Unit))) : fnA tys (callees Out (addr_Parse_es n)) (pouchlaw4_heavy_hint n) n Tryd.f10 (encL (.pair (.pair (.pair .str (.pair .str .unit)) (.pair .str .unit)) .unit) (p, ())) [] (soloA fun v => some (.ret v)) (soloA fun v => some (.pan v)) = pouchlaw4_heavy_B n p (fun y => some (.ret (encR (.one .bool) y))) := by kernel_rfl
theorem pouchlaw4_heavy_ok (n : Nat) : EntryOk Tryd.prog gl ⟨10, pcT (.pair (.pair (.pair .str (.pair .str .unit)) (.pair .str .unit)) .unit) (.one .bool) (fun xs => pouchlaw4_heavy n xs.1), none, none⟩ :=
  pcT_ok (pouchlaw4_heavy_ent n) fun xs y h => ans_of_fn tys_ok (addr_Parse_es_ok n) mixed (hint := pouchlaw4_heavy_hint n) (n := n) (fn := Tryd.f10) pouchlaw4_heavy_at (fun c hc => by
    have : bodyOf Tryd.f10 = c := by unfold bodyOf; rw [hc]; rfl
    exact this ▸ pouchlaw4_heavy_runs n) (run_ret (φ := (fun y => some (Out.ret (encR (.one .bool) y)))) ((pouchlaw4_heavy_E n xs.1).trans (pouchlaw4_heavy_N (R := Bool) (S := Out) n xs.1 some (fun y => some (Out.ret (encR (.one .bool) y))))) h)
def pouchlaw4_heavy_es (n : Nat) : List Entry := ⟨10, pcT (.pair (.pair (.pair .str (.pair .str .unit)) (.pair .str .unit)) .unit) (.one .bool) (fun xs => pouchlaw4_heavy n xs.1), none, none⟩ :: addr_Parse_es n
theorem pouchlaw4_heavy_es_ok (n : Nat) : AllOk Tryd.prog gl (pouchlaw4_heavy_es n) := .cons (pouchlaw4_heavy_ok n) (addr_Parse_es_ok n)

/- pouch/pouchref4.inner -/
def pouchref4_inner_B0 (n : Nat) {R : Type} (s1 : ByteArray) (i : Int) (b : (Sq Int)) (kn : ByteArray → Int → (Sq Int) → Option R) (ko : (Unit) → Option R) (kr : (ByteArray × Int × Bool) → Option R) (kp : Int → Option R) : Option R :=
  if (decide (i < (s1.size : Int))) = true then
    if 0 ≤ i ∧ i < (s1.size : Int) then
      if ((bt s1 i) == (34 : Int)) = true then
        kr ((strOf b.n b.at'), (IntKind.wrap .i64 (i + (1 : Int))), true)
      else
        if ((bt s1 i) == (92 : Int)) = true then
          if (decide ((IntKind.wrap .i64 (i + (1 : Int))) ≥ (s1.size : Int))) = true then
            ko ()
          else
            if 0 ≤ (IntKind.wrap .i64 (i + (1 : Int))) ∧ (IntKind.wrap .i64 (i + (1 : Int))) < (s1.size : Int) then
              if (decide ((bt s1 (IntKind.wrap .i64 (i + (1 : Int)))) < (32 : Int))) = false then
                if (decide ((bt s1 (IntKind.wrap .i64 (i + (1 : Int)))) > (126 : Int))) = true then
                  ko ()
                else
                  if rowFits (b.n + 1) 1 = true then
                    kn s1 (IntKind.wrap .i64 ((IntKind.wrap .i64 (i + (1 : Int))) + (1 : Int))) (⟨(b.n + 1), fun q => if q < b.n then b.at' q else (fun q => List.getD (α := Int) [(bt s1 (IntKind.wrap .i64 (i + (1 : Int))))] q (zeroEl (.int .u8))) (q - b.n)⟩ : Sq Int)
                  else
                    none
              else
                ko ()
            else
              none
        else
          if (decide ((bt s1 i) < (32 : Int))) = false then
            if (decide ((bt s1 i) > (126 : Int))) = true then
              ko ()
            else
              if rowFits (b.n + 1) 1 = true then
                kn s1 (IntKind.wrap .i64 (i + (1 : Int))) (⟨(b.n + 1), fun q => if q < b.n then b.at' q else (fun q => List.getD (α := Int) [(bt s1 i)] q (zeroEl (.int .u8))) (q - b.n)⟩ : Sq Int)
              else
                none
          else
            ko ()
    else
      none
  else
    ko ()
theorem pouchref4_inner_B0_N (n : Nat) {R S : Type} (s1 : ByteArray) (i : Int) (b : (Sq Int)) (kn : ByteArray → Int → (Sq Int) → Option R) (ko : (Unit) → Option R) (kr : (ByteArray × Int × Bool) → Option R) (kp : Int → Option R) (φ : R → Option S) : pouchref4_inner_B0 n s1 i b (fun s1 i b => (kn s1 i b).bind φ) (fun a => (ko a).bind φ) (fun a => (kr a).bind φ) (fun a => (kp a).bind φ) = (pouchref4_inner_B0 n s1 i b kn ko kr kp).bind φ := by
  unfold pouchref4_inner_B0
  first | (simp only [ite_bind, bind_bind, onL_bind, onX_bind, none_bind]) | rfl
def pouchref4_inner_L0 (n : Nat) : Nat → ByteArray → Int → (Sq Int) → Option (Lx (Unit) (ByteArray × Int × Bool))
  | 0, _, _, _ => none
  | m + 1, s1, i, b => pouchref4_inner_B0 n s1 i b (fun s1 i b => pouchref4_inner_L0 n m s1 i b) (fun a => some (.out a)) (fun a => some (.ret a)) (fun p => some (.pan p))
def pouchref4_inner_L0_sp : List Sl := [.dat .str, .top, .top, .top, .top, .row 0, .dat (.int .i64), .top, .top, .top, .top, .top, .top, .top, .top, .top, .top, .top, .top, .top, .top, .top, .top, .top, .top, .top, .top, .top, .top, .top, .top, .top, .top, .top, .top, .top, .top, .top, .top, .top, .top, .top, .top, .top]
def pouchref4_inner_L0_rp : List RS := [.row 5 1 (.int .u8) true false]
def pouchref4_inner_L0_out_sp : List Sl := [.top, .top, .top, .top, .top, .top, .top, .top, .top, .top, .top, .top, .top, .top, .top, .top, .top, .top, .top, .top, .top, .top, .top, .top, .top, .top, .top, .top, .top, .top, .top, .top, .top, .top, .top, .top, .top, .top, .top, .top, .top, .top, .top, .top]
def pouchref4_inner_L0_out_rp : List RS := []
def pouchref4_inner_L0_ret_sp : List Sl := [.top, .top, .dat .str, .dat (.int .i64), .dat .bool, .top, .top, .top, .top, .top, .top, .top, .top, .top, .top, .top, .top, .top, .top, .top, .top, .top, .top, .top, .top, .top, .top, .top, .top, .top, .top, .top, .top, .top, .top, .top, .top, .top, .top, .top, .top, .top, .top, .top]
def pouchref4_inner_L0_ret_rp : List RS := []
def pouchref4_inner_L0_K (K : XE → List AV → AHeap → Option Out) : Lx (Unit) (ByteArray × Int × Bool) → Option Out := fun x => onL x (fun a => K (.exit 0) (encF (nsOf pouchref4_inner_L0_out_rp ()) pouchref4_inner_L0_out_sp ()) (encH (nsOf pouchref4_inner_L0_out_rp ()) pouchref4_inner_L0_out_rp ())) (fun a => K .ret (encF (nsOf pouchref4_inner_L0_ret_rp ()) pouchref4_inner_L0_ret_sp (a.1, (a.2.1, (a.2.2, ())))) (encH (nsOf pouchref4_inner_L0_ret_rp ()) pouchref4_inner_L0_ret_rp ())) (fun _ => none)
def pouchref4_inner_B (n : Nat) {R : Type} (s : ByteArray) (k : (ByteArray × Int × Bool × Unit) → Option R) : Option R :=
  (pouchref4_inner_L0 n n s (1 : Int) (⟨0, fun _ => zeroEl (.int .u8)⟩ : Sq Int)).bind fun x_1 => onL x_1
    (fun a_2 =>
      k ((⟨#[]⟩ : ByteArray), ((0 : Int), (false, ()))))
    (fun a_3 =>
      k (a_3.1, (a_3.2.1, (a_3.2.2, ()))))
    (fun _ => none)
def pouchref4_inner (n : Nat) (s : ByteArray) : Option (ByteArray × Int × Bool × Unit) := pouchref4_inner_B n s some
theorem pouchref4_inner_N (n : Nat) {R S : Type} (s : ByteArray) (k : (ByteArray × Int × Bool × Unit) → Option R) (φ : R → Option S) : pouchref4_inner_B n s (fun a => (k a).bind φ) = (pouchref4_inner_B n s k).bind φ := by
  unfold pouchref4_inner_B
  first | (simp only [ite_bind, bind_bind, onL_bind, onX_bind, none_bind]) | rfl
def pouchref4_inner_hint (n : Nat) : Hint Out := { live := fun c => (cond (Nat.beq c 0) [(0, none), (5, some (.sl (.int .u8))), (6, none)] []), run := fun c => (cond (Nat.beq c 0) (some (runL pouchref4_inner_L0_sp pouchref4_inner_L0_rp fun σ ρ K => (pouchref4_inner_L0 n n σ.1 σ.2.1 ρ.1).bind (pouchref4_inner_L0_K K))) none), xm := fun c q => (cond (Nat.beq c 0 && Nat.beq (q.getD 1000000) 0 && q.isSome) (some []) (cond (Nat.beq c 1 && Nat.beq (q.getD 1000000) 0 && q.isSome) (some []) (cond (Nat.beq c 1 && q.isNone) (some [(2, none), (3, none), (4, none)]) none))) }
theorem pouchref4_inner_L0_E (n : Nat) (K : XE → List AV → AHeap → Option Out) : ∀ (m : Nat) (s1 : ByteArray) (i : Int) (b : (Sq Int)), loopI tys (callees Out (pouchlaw4_heavy_es n)) (pouchref4_inner_hint n) n (codeAt [1, 1, 0, 1, 0, 0] (bodyOf Tryd.f25)) 0 pouchref4_inner_L0_sp pouchref4_inner_L0_rp K m (s1, (i, ())) (b, ()) = (pouchref4_inner_L0 n m s1 i b).bind (pouchref4_inner_L0_K K)
  | 0, s1, i, b => by kernel_rfl
  | m + 1, s1, i, b => by
    have h1 : loopI tys (callees Out (pouchlaw4_heavy_es n)) (pouchref4_inner_hint n) n (codeAt [1, 1, 0, 1, 0, 0] (bodyOf Tryd.f25)) 0 pouchref4_inner_L0_sp pouchref4_inner_L0_rp K (m + 1) (s1, (i, ())) (b, ()) = pouchref4_inner_B0 n s1 i b (fun (s1 : ByteArray) (i : Int) (b : (Sq Int)) => loopI tys (callees Out (pouchlaw4_heavy_es n)) (pouchref4_inner_hint n) n (codeAt [1, 1, 0, 1, 0, 0] (bodyOf Tryd.f25)) 0 pouchref4_inner_L0_sp pouchref4_inner_L0_rp K m (s1, (i, ())) (b, ())) (fun a => pouchref4_inner_L0_K K (.out a)) (fun a => pouchref4_inner_L0_K K (.ret a)) (fun p => pouchref4_inner_L0_K K (.pan p)) := by kernel_rfl
    have h2 : (fun (s1 : ByteArray) (i : Int) (b : (Sq Int)) => loopI tys (callees Out (pouchlaw4_heavy_es n)) (pouchref4_inner_hint n) n (codeAt [1, 1, 0, 1, 0, 0] (bodyOf Tryd.f25)) 0 pouchref4_inner_L0_sp pouchref4_inner_L0_rp K m (s1, (i, ())) (b, ())) = (fun (s1 : ByteArray) (i : Int) (b : (Sq Int)) => (pouchref4_inner_L0 n m s1 i b).bind (pouchref4_inner_L0_K K)) := funext fun s1 => funext fun i => funext fun b => pouchref4_inner_L0_E n K m s1 i b
    exact h1.trans ((congrArg (fun z => pouchref4_inner_B0 n s1 i b z (fun a => pouchref4_inner_L0_K K (.out a)) (fun a => pouchref4_inner_L0_K K (.ret a)) (fun p => pouchref4_inner_L0_K K (.pan p))) h2).trans (pouchref4_inner_B0_N n s1 i b (fun (s1 : ByteArray) (i : Int) (b : (Sq Int)) => pouchref4_inner_L0 n m s1 i b) (fun a => some (.out a)) (fun a => some (.ret a)) (fun p => some (.pan p)) (pouchref4_inner_L0_K K)))
theorem pouchref4_inner_L0_ok (n : Nat) : RunOk tys (callees Out (pouchlaw4_heavy_es n)) (pouchref4_inner_hint n) n (codeAt [1, 1, 0, 1, 0, 0] (bodyOf Tryd.f25)) 0 := runOk_of (sp := pouchref4_inner_L0_sp) (rp := pouchref4_inner_L0_rp) (F := fun σ ρ K => (pouchref4_inner_L0 n n σ.1 σ.2.1 ρ.1).bind (pouchref4_inner_L0_K K)) (by kernel_rfl) fun K σ ρ => pouchref4_inner_L0_E n K n σ.1 σ.2.1 ρ.1
theorem pouchref4_inner_runs (n : Nat) : RunsOk tys (callees Out (pouchlaw4_heavy_es n)) (pouchref4_inner_hint n) n (bodyOf Tryd.f25) 0 := ⟨trivial, ⟨trivial, ⟨⟨trivial, ⟨pouchref4_inner_L0_ok n, ⟨⟨trivial, ⟨trivial, trivial⟩⟩, ⟨⟨trivial, ⟨⟨trivial, ⟨⟨trivial, trivial⟩, trivial⟩⟩, ⟨⟨trivial, ⟨⟨trivial, ⟨⟨trivial, ⟨trivial, trivial⟩⟩, trivial⟩⟩, trivial⟩⟩, ⟨⟨trivial, ⟨trivial, trivial⟩⟩, trivial⟩⟩⟩⟩, trivial⟩⟩⟩⟩, ⟨trivial, trivial⟩⟩⟩⟩
theorem pouchref4_inner_at : Tryd.prog.funcs[25]? = some Tryd.f25 := by kernel_rfl
theorem pouchref4_inner_ent (n : Nat) : Enters Tryd.prog 25 := enters_of (c := bodyOf Tryd.f25) pouchref4_inner_at (by kernel_rfl) (by kernel_rfl)
theorem pouchref4_inner_E (n : Nat) (s : ByteArray) : fnA tys (callees Out (pouchlaw4_heavy_es n)) (pouchref4_inner_hint n) n Tryd.f25 (encL (.pair .str .unit) (s, ())) [] (soloA fun v => some (.ret v)) (soloA fun v => some (.pan v)) = pouchref4_inner_B n s (fun y => some (.ret (encR (.many (.pair .str (.pair (.int .i64) (.pair .bool .unit)))) y))) := by kernel_rfl
theorem pouchref4_inner_ok (n : Nat) : EntryOk Tryd.prog gl ⟨25, pcT (.pair .str .unit) (.many (.pair .str (.pair (.int .i64) (.pair .bool .unit)))) (fun xs => pouchref4_inner n xs.1), none, none⟩ :=
  pcT_ok (pouchref4_inner_ent n) fun xs y h => ans_of_fn tys_ok (pouchlaw4_heavy_es_ok n) mixed (hint := pouchref4_inner_hint n) (n := n) (fn := Tryd.f25) pouchref4_inner_at (fun c hc => by
    have : bodyOf Tryd.f25 = c := by unfold bodyOf; rw [hc]; rfl
    exact this ▸ pouchref4_inner_runs n) (run_ret (φ := (fun y => some (Out.ret (encR (.many (.pair .str (.pair (.int .i64) (.pair .bool .unit)))) y)))) ((pouchref4_inner_E n xs.1).trans (pouchref4_inner_N (R := (ByteArray × Int × Bool × Unit)) (S := Out) n xs.1 some (fun y => some (Out.ret (encR (.many (.pair .str (.pair (.int .i64) (.pair .bool .unit)))) y))))) h)
def pouchref4_inner_es (n : Nat) : List Entry := ⟨25, pcT (.pair .str .unit) (.many (.pair .str (.pair (.int .i64) (.pair .bool .unit)))) (fun xs => pouchref4_inner n xs.1), none, none⟩ :: pouchlaw4_heavy_es n
theorem pouchref4_inner_es_ok (n : Nat) : AllOk Tryd.prog gl (pouchref4_inner_es n) := .cons (pouchref4_inner_ok n) (pouchlaw4_heavy_es_ok n)

/- pouch/pouchref4.quote -/
def pouchref4_quote_B0 (n : Nat) {R : Type} (s1 : ByteArray) (q : ByteArray) (i : Int) (kn : ByteArray → ByteArray → Int → Option R) (ko : (ByteArray) → Option R) (kr : Unit → Option R) (kp : Int → Option R) : Option R :=
  if (decide (i < (s1.size : Int))) = true then
    if 0 ≤ i ∧ i < (s1.size : Int) then
      if ((bt s1 i) == (34 : Int)) = false then
        if 0 ≤ i ∧ i < (s1.size : Int) then
          if ((bt s1 i) == (92 : Int)) = true then
            if strFits q (⟨#[92]⟩ : ByteArray) = true then
              if 0 ≤ (IntKind.wrap .i64 (i + (1 : Int))) ∧ (IntKind.wrap .i64 (i + (1 : Int))) ≤ (s1.size : Int) then
                if 0 ≤ i ∧ i ≤ (IntKind.wrap .i64 (i + (1 : Int))) then
                  if strFits (q ++ (⟨#[92]⟩ : ByteArray)) (s1.extract (Int.toNat i) (Int.toNat (IntKind.wrap .i64 (i + (1 : Int))))) = true then
                    kn s1 ((q ++ (⟨#[92]⟩ : ByteArray)) ++ (s1.extract (Int.toNat i) (Int.toNat (IntKind.wrap .i64 (i + (1 : Int)))))) (IntKind.wrap .i64 (i + (1 : Int)))
                  else
                    none
                else
                  none
              else
                none
            else
              none
          else
            if 0 ≤ (IntKind.wrap .i64 (i + (1 : Int))) ∧ (IntKind.wrap .i64 (i + (1 : Int))) ≤ (s1.size : Int) then
              if 0 ≤ i ∧ i ≤ (IntKind.wrap .i64 (i + (1 : Int))) then
                if strFits q (s1.extract (Int.toNat i) (Int.toNat (IntKind.wrap .i64 (i + (1 : Int))))) = true then
                  kn s1 (q ++ (s1.extract (Int.toNat i) (Int.toNat (IntKind.wrap .i64 (i + (1 : Int)))))) (IntKind.wrap .i64 (i + (1 : Int)))
                else
                  none
              else
                none
            else
              none
        else
          none
      else
        if strFits q (⟨#[92]⟩ : ByteArray) = true then
          if 0 ≤ (IntKind.wrap .i64 (i + (1 : Int))) ∧ (IntKind.wrap .i64 (i + (1 : Int))) ≤ (s1.size : Int) then
            if 0 ≤ i ∧ i ≤ (IntKind.wrap .i64 (i + (1 : Int))) then
              if strFits (q ++ (⟨#[92]⟩ : ByteArray)) (s1.extract (Int.toNat i) (Int.toNat (IntKind.wrap .i64 (i + (1 : Int))))) = true then
                kn s1 ((q ++ (⟨#[92]⟩ : ByteArray)) ++ (s1.extract (Int.toNat i) (Int.toNat (IntKind.wrap .i64 (i + (1 : Int)))))) (IntKind.wrap .i64 (i + (1 : Int)))
              else
                none
            else
              none
          else
            none
        else
          none
    else
      none
  else
    ko q
theorem pouchref4_quote_B0_N (n : Nat) {R S : Type} (s1 : ByteArray) (q : ByteArray) (i : Int) (kn : ByteArray → ByteArray → Int → Option R) (ko : (ByteArray) → Option R) (kr : Unit → Option R) (kp : Int → Option R) (φ : R → Option S) : pouchref4_quote_B0 n s1 q i (fun s1 q i => (kn s1 q i).bind φ) (fun a => (ko a).bind φ) (fun a => (kr a).bind φ) (fun a => (kp a).bind φ) = (pouchref4_quote_B0 n s1 q i kn ko kr kp).bind φ := by
  unfold pouchref4_quote_B0
  first | (simp only [ite_bind, bind_bind, onL_bind, onX_bind, none_bind]) | rfl
def pouchref4_quote_L0 (n : Nat) : Nat → ByteArray → ByteArray → Int → Option (Lx (ByteArray) Unit)
  | 0, _, _, _ => none
  | m + 1, s1, q, i => pouchref4_quote_B0 n s1 q i (fun s1 q i => pouchref4_quote_L0 n m s1 q i) (fun a => some (.out a)) (fun a => some (.ret a)) (fun p => some (.pan p))
def pouchref4_quote_L0_sp : List Sl := [.dat .str, .top, .top, .dat .str, .dat (.int .i64), .top, .top, .top, .top, .top, .top, .top, .top, .top, .top, .top, .top, .top, .top, .top, .top, .top, .top, .top, .top, .top, .top, .top, .top, .top, .top, .top]
def pouchref4_quote_L0_rp : List RS := []
def pouchref4_quote_L0_out_sp : List Sl := [.top, .top, .top, .dat .str, .top, .top, .top, .top, .top, .top, .top, .top, .top, .top, .top, .top, .top, .top, .top, .top, .top, .top, .top, .top, .top, .top, .top, .top, .top, .top, .top, .top]
def pouchref4_quote_L0_out_rp : List RS := []
def pouchref4_quote_L0_K (K : XE → List AV → AHeap → Option Out) : Lx (ByteArray) Unit → Option Out := fun x => onL x (fun a => K (.exit 0) (encF (nsOf pouchref4_quote_L0_out_rp ()) pouchref4_quote_L0_out_sp (a, ())) (encH (nsOf pouchref4_quote_L0_out_rp ()) pouchref4_quote_L0_out_rp ())) (fun _ => none) (fun _ => none)
def pouchref4_quote_B (n : Nat) {R : Type} (s : ByteArray) (k : ByteArray → Option R) : Option R :=
  (pouchref4_quote_L0 n n s (⟨#[34]⟩ : ByteArray) (0 : Int)).bind fun x_1 => onL x_1
    (fun a_2 =>
      if strFits a_2 (⟨#[34]⟩ : ByteArray) = true then
        k (a_2 ++ (⟨#[34]⟩ : ByteArray))
      else
        none)
    (fun _ => none)
    (fun _ => none)
def pouchref4_quote (n : Nat) (s : ByteArray) : Option ByteArray := pouchref4_quote_B n s some
theorem pouchref4_quote_N (n : Nat) {R S : Type} (s : ByteArray) (k : ByteArray → Option R) (φ : R → Option S) : pouchref4_quote_B n s (fun a => (k a).bind φ) = (pouchref4_quote_B n s k).bind φ := by
  unfold pouchref4_quote_B
  first | (simp only [ite_bind, bind_bind, onL_bind, onX_bind, none_bind]) | rfl
def pouchref4_quote_hint (n : Nat) : Hint Out := { live := fun c => (cond (Nat.beq c 0) [(0, none), (3, none), (4, none)] []), run := fun c => (cond (Nat.beq c 0) (some (runL pouchref4_quote_L0_sp pouchref4_quote_L0_rp fun σ ρ K => (pouchref4_quote_L0 n n σ.1 σ.2.1 σ.2.2.1).bind (pouchref4_quote_L0_K K))) none), xm := fun c q => (cond (Nat.beq c 0 && Nat.beq (q.getD 1000000) 0 && q.isSome) (some [(3, none)]) none) }
theorem pouchref4_quote_L0_E (n : Nat) (K : XE → List AV → AHeap → Option Out) : ∀ (m : Nat) (s1 : ByteArray) (q : ByteArray) (i : Int), loopI tys (callees Out (pouchref4_inner_es n)) (pouchref4_quote_hint n) n (codeAt [1, 1, 0, 1, 0, 0] (bodyOf Tryd.f26)) 0 pouchref4_quote_L0_sp pouchref4_quote_L0_rp K m (s1, (q, (i, ()))) () = (pouchref4_quote_L0 n m s1 q i).bind (pouchref4_quote_L0_K K)
  | 0, s1, q, i => by kernel_rfl
  | m + 1, s1, q, i => by
    have h1 : loopI tys (callees Out (pouchref4_inner_es n)) (pouchref4_quote_hint n) n (codeAt [1, 1, 0, 1, 0, 0] (bodyOf Tryd.f26)) 0 pouchref4_quote_L0_sp pouchref4_quote_L0_rp K (m + 1) (s1, (q, (i, ()))) () = pouchref4_quote_B0 n s1 q i (fun (s1 : ByteArray) (q : ByteArray) (i : Int) => loopI tys (callees Out (pouchref4_inner_es n)) (pouchref4_quote_hint n) n (codeAt [1, 1, 0, 1, 0, 0] (bodyOf Tryd.f26)) 0 pouchref4_quote_L0_sp pouchref4_quote_L0_rp K m (s1, (q, (i, ()))) ()) (fun a => pouchref4_quote_L0_K K (.out a)) (fun a => pouchref4_quote_L0_K K (.ret a)) (fun p => pouchref4_quote_L0_K K (.pan p)) := by kernel_rfl
    have h2 : (fun (s1 : ByteArray) (q : ByteArray) (i : Int) => loopI tys (callees Out (pouchref4_inner_es n)) (pouchref4_quote_hint n) n (codeAt [1, 1, 0, 1, 0, 0] (bodyOf Tryd.f26)) 0 pouchref4_quote_L0_sp pouchref4_quote_L0_rp K m (s1, (q, (i, ()))) ()) = (fun (s1 : ByteArray) (q : ByteArray) (i : Int) => (pouchref4_quote_L0 n m s1 q i).bind (pouchref4_quote_L0_K K)) := funext fun s1 => funext fun q => funext fun i => pouchref4_quote_L0_E n K m s1 q i
    exact h1.trans ((congrArg (fun z => pouchref4_quote_B0 n s1 q i z (fun a => pouchref4_quote_L0_K K (.out a)) (fun a => pouchref4_quote_L0_K K (.ret a)) (fun p => pouchref4_quote_L0_K K (.pan p))) h2).trans (pouchref4_quote_B0_N n s1 q i (fun (s1 : ByteArray) (q : ByteArray) (i : Int) => pouchref4_quote_L0 n m s1 q i) (fun a => some (.out a)) (fun a => some (.ret a)) (fun p => some (.pan p)) (pouchref4_quote_L0_K K)))
theorem pouchref4_quote_L0_ok (n : Nat) : RunOk tys (callees Out (pouchref4_inner_es n)) (pouchref4_quote_hint n) n (codeAt [1, 1, 0, 1, 0, 0] (bodyOf Tryd.f26)) 0 := runOk_of (sp := pouchref4_quote_L0_sp) (rp := pouchref4_quote_L0_rp) (F := fun σ ρ K => (pouchref4_quote_L0 n n σ.1 σ.2.1 σ.2.2.1).bind (pouchref4_quote_L0_K K)) (by kernel_rfl) fun K σ ρ => pouchref4_quote_L0_E n K n σ.1 σ.2.1 σ.2.2.1
theorem pouchref4_quote_runs (n : Nat) : RunsOk tys (callees Out (pouchref4_inner_es n)) (pouchref4_quote_hint n) n (bodyOf Tryd.f26) 0 := ⟨trivial, ⟨trivial, ⟨⟨trivial, ⟨pouchref4_quote_L0_ok n, ⟨⟨trivial, ⟨trivial, trivial⟩⟩, ⟨⟨⟨trivial, ⟨trivial, trivial⟩⟩, trivial⟩, trivial⟩⟩⟩⟩, ⟨trivial, trivial⟩⟩⟩⟩
theorem pouchref4_quote_at : Tryd.prog.funcs[26]? = some Tryd.f26 := by kernel_rfl
theorem pouchref4_quote_ent (n : Nat) : Enters Tryd.prog 26 := enters_of (c := bodyOf Tryd.f26) pouchref4_quote_at (by kernel_rfl) (by kernel_rfl)
theorem pouchref4_quote_E (n : Nat) (s : ByteArray) : fnA tys (callees Out (pouchref4_inner_es n)) (pouchref4_quote_hint n) n Tryd.f26 (encL (.pair .str .unit) (s, ())) [] (soloA fun v => some (.ret v)) (soloA fun v => some (.pan v)) = pouchref4_quote_B n s (fun y => some (.ret (encR (.one .str) y))) := by kernel_rfl
theorem pouchref4_quote_ok (n : Nat) : EntryOk Tryd.prog gl ⟨26, pcT (.pair .str .unit) (.one .str) (fun xs => pouchref4_quote n xs.1), none, none⟩ :=
  pcT_ok (pouchref4_quote_ent n) fun xs y h => ans_of_fn tys_ok (pouchref4_inner_es_ok n) mixed (hint := pouchref4_quote_hint n) (n := n) (fn := Tryd.f26) pouchref4_quote_at (fun c hc => by
    have : bodyOf Tryd.f26 = c := by unfold bodyOf; rw [hc]; rfl
    exact this ▸ pouchref4_quote_runs n) (run_ret (φ := (fun y => some (Out.ret (encR (.one .str) y)))) ((pouchref4_quote_E n xs.1).trans (pouchref4_quote_N (R := ByteArray) (S := Out) n xs.1 some (fun y => some (Out.ret (encR (.one .str) y))))) h)
def pouchref4_quote_es (n : Nat) : List Entry := ⟨26, pcT (.pair .str .unit) (.one .str) (fun xs => pouchref4_quote n xs.1), none, none⟩ :: pouchref4_inner_es n
theorem pouchref4_quote_es_ok (n : Nat) : AllOk Tryd.prog gl (pouchref4_quote_es n) := .cons (pouchref4_quote_ok n) (pouchref4_inner_es_ok n)

/- pouch/pouchref0.Split -/
def pouchref0_Split_B0 (n : Nat) {R : Type} (s1 : ByteArray) (by01 : Int) (from0 : Int) (i : Int) (l : (Sq ByteArray)) (kn : ByteArray → Int → Int → Int → (Sq ByteArray) → Option R) (ko : ((Sq ByteArray)) → Option R) (kr : Unit → Option R) (kp : Int → Option R) : Option R :=
  if (decide (i ≤ (s1.size : Int))) = true then
    if (i == (s1.size : Int)) = false then
      if 0 ≤ i ∧ i < (s1.size : Int) then
        if ((bt s1 i) == by01) = true then
          if 0 ≤ i ∧ i ≤ (s1.size : Int) then
            if 0 ≤ from0 ∧ from0 ≤ i then
              if rowFits (l.n + 1) 16 = true then
                kn s1 by01 (IntKind.wrap .i64 (i + (1 : Int))) (IntKind.wrap .i64 (i + (1 : Int))) (⟨(l.n + 1), fun q => if q < l.n then l.at' q else (fun q => List.getD (α := ByteArray) [(s1.extract (Int.toNat from0) (Int.toNat i))] q (zeroEl .str)) (q - l.n)⟩ : Sq ByteArray)
              else
                none
            else
              none
          else
            none
        else
          kn s1 by01 from0 (IntKind.wrap .i64 (i + (1 : Int))) l
      else
        none
    else
      if 0 ≤ i ∧ i ≤ (s1.size : Int) then
        if 0 ≤ from0 ∧ from0 ≤ i then
          if rowFits (l.n + 1) 16 = true then
            kn s1 by01 (IntKind.wrap .i64 (i + (1 : Int))) (IntKind.wrap .i64 (i + (1 : Int))) (⟨(l.n + 1), fun q => if q < l.n then l.at' q else (fun q => List.getD (α := ByteArray) [(s1.extract (Int.toNat from0) (Int.toNat i))] q (zeroEl .str)) (q - l.n)⟩ : Sq ByteArray)
          else
            none
        else
          none
      else
        none
  else
    ko l
theorem pouchref0_Split_B0_N (n : Nat) {R S : Type} (s1 : ByteArray) (by01 : Int) (from0 : Int) (i : Int) (l : (Sq ByteArray)) (kn : ByteArray → Int → Int → Int → (Sq ByteArray) → Option R) (ko : ((Sq ByteArray)) → Option R) (kr : Unit → Option R) (kp : Int → Option R) (φ : R → Option S) : pouchref0_Split_B0 n s1 by01 from0 i l (fun s1 by01 from0 i l => (kn s1 by01 from0 i l).bind φ) (fun a => (ko a).bind φ) (fun a => (kr a).bind φ) (fun a => (kp a).bind φ) = (pouchref0_Split_B0 n s1 by01 from0 i l kn ko kr kp).bind φ := by
  unfold pouchref0_Split_B0
  first | (simp only [ite_bind, bind_bind, onL_bind, onX_bind, none_bind]) | rfl
def pouchref0_Split_L0 (n : Nat) : Nat → ByteArray → Int → Int → Int → (Sq ByteArray) → Option (Lx ((Sq ByteArray)) Unit)
  | 0, _, _, _, _, _ => none
  | m + 1, s1, by01, from0, i, l => pouchref0_Split_B0 n s1 by01 from0 i l (fun s1 by01 from0 i l => pouchref0_Split_L0 n m s1 by01 from0 i l) (fun a => some (.out a)) (fun a => some (.ret a)) (fun p => some (.pan p))
def pouchref0_Split_L0_sp : List Sl := [.dat .str, .dat (.int .u8), .top, .top, .top, .row 0, .dat (.int .i64), .dat (.int .i64), .top, .top, .top, .top, .top, .top, .top, .top, .top, .top, .top, .top, .top, .top, .top, .top, .top, .top, .top, .top, .top, .top, .top, .top, .top, .top, .top]
def pouchref0_Split_L0_rp : List RS := [.row 9 1 .str true false]
def pouchref0_Split_L0_out_sp : List Sl := [.top, .top, .top, .top, .top, .row 0, .top, .top, .top, .top, .top, .top, .top, .top, .top, .top, .top, .top, .top, .top, .top, .top, .top, .top, .top, .top, .top, .top, .top, .top, .top, .top, .top, .top, .top]
def pouchref0_Split_L0_out_rp : List RS := [.row 9 1 .str true false]
def pouchref0_Split_L0_K (K : XE → List AV → AHeap → Option Out) : Lx ((Sq ByteArray)) Unit → Option Out := fun x => onL x (fun a => K (.exit 0) (encF (nsOf pouchref0_Split_L0_out_rp (a, ())) pouchref0_Split_L0_out_sp ()) (encH (nsOf pouchref0_Split_L0_out_rp (a, ())) pouchref0_Split_L0_out_rp (a, ()))) (fun _ => none) (fun _ => none)
def pouchref0_Split_B (n : Nat) {R : Type} (s : ByteArray) (by0 : Int) (k : (Sq ByteArray) → Option R) : Option R :=
  (pouchref0_Split_L0 n n s by0 (0 : Int) (0 : Int) (⟨0, fun _ => zeroEl .str⟩ : Sq ByteArray)).bind fun x_1 => onL x_1
    (fun a_2 =>
      k a_2)
    (fun _ => none)
    (fun _ => none)
def pouchref0_Split (n : Nat) (s : ByteArray) (by0 : Int) : Option (Sq ByteArray) := pouchref0_Split_B n s by0 some
theorem pouchref0_Split_N (n : Nat) {R S : Type} (s : ByteArray) (by0 : Int) (k : (Sq ByteArray) → Option R) (φ : R → Option S) : pouchref0_Split_B n s by0 (fun a => (k a).bind φ) = (pouchref0_Split_B n s by0 k).bind φ := by
  unfold pouchref0_Split_B
  first | (simp only [ite_bind, bind_bind, onL_bind, onX_bind, none_bind]) | rfl
def pouchref0_Split_hint (n : Nat) : Hint Out := { live := fun c => (cond (Nat.beq c 0) [(0, none), (1, none), (5, some (.sl .str)), (6, none), (7, none)] []), run := fun c => (cond (Nat.beq c 0) (some (runL pouchref0_Split_L0_sp pouchref0_Split_L0_rp fun σ ρ K => (pouchref0_Split_L0 n n σ.1 σ.2.1 σ.2.2.1 σ.2.2.2.1 ρ.1).bind (pouchref0_Split_L0_K K))) none), xm := fun c q => (cond (Nat.beq c 0 && Nat.beq (q.getD 1000000) 0 && q.isSome) (some [(5, some (.sl .str))]) none) }
theorem pouchref0_Split_L0_E (n : Nat) (K : XE → List AV → AHeap → Option Out) : ∀ (m : Nat) (s1 : ByteArray) (by01 : Int) (from0 : Int) (i : Int) (l : (Sq ByteArray)), loopI tys (callees Out (pouchref4_quote_es n)) (pouchref0_Split_hint n) n (codeAt [1, 1, 1, 0, 1, 0, 0] (bodyOf Tryd.f31)) 0 pouchref0_Split_L0_sp pouchref0_Split_L0_rp K m (s1, (by01, (from0, (i, ())))) (l, ()) = (pouchref0_Split_L0 n m s1 by01 from0 i l).bind (pouchref0_Split_L0_K K)
  | 0, s1, by01, from0, i, l => by kernel_rfl
  | m + 1, s1, by01, from0, i, l => by
    have h1 : loopI tys (callees Out (pouchref4_quote_es n)) (pouchref0_Split_hint n) n (codeAt [1, 1, 1, 0, 1, 0, 0] (bodyOf Tryd.f31)) 0 pouchref0_Split_L0_sp pouchref0_Split_L0_rp K (m + 1) (s1, (by01, (from0, (i, ())))) (l, ()) = pouchref0_Split_B0 n s1 by01 from0 i l (fun (s1 : ByteArray) (by01 : Int) (from0 : Int) (i : Int) (l : (Sq ByteArray)) => loopI tys (callees Out (pouchref4_quote_es n)) (pouchref0_Split_hint n) n (codeAt [1, 1, 1, 0, 1, 0, 0] (bodyOf Tryd.f31)) 0 pouchref0_Split_L0_sp pouchref0_Split_L0_rp K m (s1, (by01, (from0, (i, ())))) (l, ())) (fun a => pouchref0_Split_L0_K K (.out a)) (fun a => pouchref0_Split_L0_K K (.ret a)) (fun p => pouchref0_Split_L0_K K (.pan p)) := by kernel_rfl
    have h2 : (fun (s1 : ByteArray) (by01 : Int) (from0 : Int) (i : Int) (l : (Sq ByteArray)) => loopI tys (callees Out (pouchref4_quote_es n)) (pouchref0_Split_hint n) n (codeAt [1, 1, 1, 0, 1, 0, 0] (bodyOf Tryd.f31)) 0 pouchref0_Split_L0_sp pouchref0_Split_L0_rp K m (s1, (by01, (from0, (i, ())))) (l, ())) = (fun (s1 : ByteArray) (by01 : Int) (from0 : Int) (i : Int) (l : (Sq ByteArray)) => (pouchref0_Split_L0 n m s1 by01 from0 i l).bind (pouchref0_Split_L0_K K)) := funext fun s1 => funext fun by01 => funext fun from0 => funext fun i => funext fun l => pouchref0_Split_L0_E n K m s1 by01 from0 i l
    exact h1.trans ((congrArg (fun z => pouchref0_Split_B0 n s1 by01 from0 i l z (fun a => pouchref0_Split_L0_K K (.out a)) (fun a => pouchref0_Split_L0_K K (.ret a)) (fun p => pouchref0_Split_L0_K K (.pan p))) h2).trans (pouchref0_Split_B0_N n s1 by01 from0 i l (fun (s1 : ByteArray) (by01 : Int) (from0 : Int) (i : Int) (l : (Sq ByteArray)) => pouchref0_Split_L0 n m s1 by01 from0 i l) (fun a => some (.out a)) (fun a => some (.ret a)) (fun p => some (.pan p)) (pouchref0_Split_L0_K K)))
theorem pouchref0_Split_L0_ok (n : Nat) : RunOk tys (callees Out (pouchref4_quote_es n)) (pouchref0_Split_hint n) n (codeAt [1, 1, 1, 0, 1, 0, 0] (bodyOf Tryd.f31)) 0 := runOk_of (sp := pouchref0_Split_L0_sp) (rp := pouchref0_Split_L0_rp) (F := fun σ ρ K => (pouchref0_Split_L0 n n σ.1 σ.2.1 σ.2.2.1 σ.2.2.2.1 ρ.1).bind (pouchref0_Split_L0_K K)) (by kernel_rfl) fun K σ ρ => pouchref0_Split_L0_E n K n σ.1 σ.2.1 σ.2.2.1 σ.2.2.2.1 ρ.1
theorem pouchref0_Split_runs (n : Nat) : RunsOk tys (callees Out (pouchref4_quote_es n)) (pouchref0_Split_hint n) n (bodyOf Tryd.f31) 0 := ⟨trivial, ⟨trivial, ⟨trivial, ⟨⟨trivial, ⟨pouchref0_Split_L0_ok n, ⟨⟨trivial, ⟨trivial, trivial⟩⟩, ⟨⟨trivial, ⟨⟨trivial, trivial⟩, trivial⟩⟩, trivial⟩⟩⟩⟩, ⟨trivial, trivial⟩⟩⟩⟩⟩
theorem pouchref0_Split_at : Tryd.prog.funcs[31]? = some Tryd.f31 := by kernel_rfl
theorem pouchref0_Split_ent (n : Nat) : Enters Tryd.prog 31 := enters_of (c := bodyOf Tryd.f31) pouchref0_Split_at (by kernel_rfl) (by kernel_rfl)
theorem pouchref0_Split_E (n : Nat) (s : ByteArray) (by0 : Int) : fnA tys (callees Out (pouchref4_quote_es n)) (pouchref0_Split_hint n) n Tryd.f31 (encL (.pair .str (.pair (.int .u8) .unit)) (s, (by0, ()))) [] (soloA fun v => some (.ret v)) (soloA fun v => some (.pan v)) = pouchref0_Split_B n s by0 (fun y => some (.ret (encR (.one (.sl .str)) y))) := by kernel_rfl
theorem pouchref0_Split_ok (n : Nat) : EntryOk Tryd.prog gl ⟨31, pcT (.pair .str (.pair (.int .u8) .unit)) (.one (.sl .str)) (fun xs => pouchref0_Split n xs.1 xs.2.1), none, none⟩ :=
  pcT_ok (pouchref0_Split_ent n) fun xs y h => ans_of_fn tys_ok (pouchref4_quote_es_ok n) mixed (hint := pouchref0_Split_hint n) (n := n) (fn := Tryd.f31) pouchref0_Split_at (fun c hc => by
    have : bodyOf Tryd.f31 = c := by unfold bodyOf; rw [hc]; rfl
    exact this ▸ pouchref0_Split_runs n) (run_ret (φ := (fun y => some (Out.ret (encR (.one (.sl .str)) y)))) ((pouchref0_Split_E n xs.1 xs.2.1).trans (pouchref0_Split_N (R := (Sq ByteArray)) (S := Out) n xs.1 xs.2.1 some (fun y => some (Out.ret (encR (.one (.sl .str)) y))))) h)
def pouchref0_Split_es (n : Nat) : List Entry := ⟨31, pcT (.pair .str (.pair (.int .u8) .unit)) (.one (.sl .str)) (fun xs => pouchref0_Split n xs.1 xs.2.1), none, none⟩ :: pouchref4_quote_es n
theorem pouchref0_Split_es_ok (n : Nat) : AllOk Tryd.prog gl (pouchref0_Split_es n) := .cons (pouchref0_Split_ok n) (pouchref4_quote_es_ok n)

/- pouch/pouchref4.letter -/
def pouchref4_letter_B (n : Nat) {R : Type} (c : Int) (k : Bool → Option R) : Option R :=
  if (decide (c ≥ (97 : Int))) = true then
    if (decide (c ≤ (122 : Int))) = false then
      if (decide (c ≥ (65 : Int))) = true then
        k (decide (c ≤ (90 : Int)))
      else
        k false
    else
      k true
  else
    if (decide (c ≥ (65 : Int))) = true then
      k (decide (c ≤ (90 : Int)))
    else
      k false
def pouchref4_letter (n : Nat) (c : Int) : Option Bool := pouchref4_letter_B n c some
theorem pouchref4_letter_N (n : Nat) {R S : Type} (c : Int) (k : Bool → Option R) (φ : R → Option S) : pouchref4_letter_B n c (fun a => (k a).bind φ) = (pouchref4_letter_B n c k).bind φ := by
  unfold pouchref4_letter_B
  first | (simp only [ite_bind, bind_bind, onL_bind, onX_bind, none_bind]) | rfl
def pouchref4_letter_hint (n : Nat) : Hint Out := { live := fun c => [], run := fun c => none, xm := fun c q => none }
theorem pouchref4_letter_runs (n : Nat) : RunsOk tys (callees Out (pouchref0_Split_es n)) (pouchref4_letter_hint n) n (bodyOf Tryd.f38) 0 := ⟨trivial, ⟨trivial, trivial⟩⟩
theorem pouchref4_letter_at : Tryd.prog.funcs[38]? = some Tryd.f38 := by kernel_rfl
theorem pouchref4_letter_ent (n : Nat) : Enters Tryd.prog 38 := enters_of (c := bodyOf Tryd.f38) pouchref4_letter_at (by kernel_rfl) (by kernel_rfl)
theorem pouchref4_letter_E (n : Nat) (c : Int) : fnA tys (callees Out (pouchref0_Split_es n)) (pouchref4_letter_hint n) n Tryd.f38 (encL (.pair (.int .u8) .unit) (c, ())) [] (soloA fun v => some (.ret v)) (soloA fun v => some (.pan v)) = pouchref4_letter_B n c (fun y => some (.ret (encR (.one .bool) y))) := by kernel_rfl
theorem pouchref4_letter_ok (n : Nat) : EntryOk Tryd.prog gl ⟨38, pcT (.pair (.int .u8) .unit) (.one .bool) (fun xs => pouchref4_letter n xs.1), none, none⟩ :=
  pcT_ok (pouchref4_letter_ent n) fun xs y h => ans_of_fn tys_ok (pouchref0_Split_es_ok n) mixed (hint := pouchref4_letter_hint n) (n := n) (fn := Tryd.f38) pouchref4_letter_at (fun c hc => by
    have : bodyOf Tryd.f38 = c := by unfold bodyOf; rw [hc]; rfl
    exact this ▸ pouchref4_letter_runs n) (run_ret (φ := (fun y => some (Out.ret (encR (.one .bool) y)))) ((pouchref4_letter_E n xs.1).trans (pouchref4_letter_N (R := Bool) (S := Out) n xs.1 some (fun y => some (Out.ret (encR (.one .bool) y))))) h)
def pouchref4_letter_es (n : Nat) : List Entry := ⟨38, pcT (.pair (.int .u8) .unit) (.one .bool) (fun xs => pouchref4_letter n xs.1), none, none⟩ :: pouchref0_Split_es n
theorem pouchref4_letter_es_ok (n : Nat) : AllOk Tryd.prog gl (pouchref4_letter_es n) := .cons (pouchref4_letter_ok n) (pouchref0_Split_es_ok n)

/- pouch/pouchref4.digit -/
def pouchref4_digit_B (n : Nat) {R : Type} (c : Int) (k : Bool → Option R) : Option R :=
  if (decide (c ≥ (48 : Int))) = true then
    k (decide (c ≤ (57 : Int)))
  else
    k false
def pouchref4_digit (n : Nat) (c : Int) : Option Bool := pouchref4_digit_B n c some
theorem pouchref4_digit_N (n : Nat) {R S : Type} (c : Int) (k : Bool → Option R) (φ : R → Option S) : pouchref4_digit_B n c (fun a => (k a).bind φ) = (pouchref4_digit_B n c k).bind φ := by
  unfold pouchref4_digit_B
  first | (simp only [ite_bind, bind_bind, onL_bind, onX_bind, none_bind]) | rfl
def pouchref4_digit_hint (n : Nat) : Hint Out := { live := fun c => [], run := fun c => none, xm := fun c q => none }
theorem pouchref4_digit_runs (n : Nat) : RunsOk tys (callees Out (pouchref4_letter_es n)) (pouchref4_digit_hint n) n (bodyOf Tryd.f32) 0 := ⟨trivial, ⟨trivial, trivial⟩⟩
theorem pouchref4_digit_at : Tryd.prog.funcs[32]? = some Tryd.f32 := by kernel_rfl
theorem pouchref4_digit_ent (n : Nat) : Enters Tryd.prog 32 := enters_of (c := bodyOf Tryd.f32) pouchref4_digit_at (by kernel_rfl) (by kernel_rfl)
theorem pouchref4_digit_E (n : Nat) (c : Int) : fnA tys (callees Out (pouchref4_letter_es n)) (pouchref4_digit_hint n) n Tryd.f32 (encL (.pair (.int .u8) .unit) (c, ())) [] (soloA fun v => some (.ret v)) (soloA fun v => some (.pan v)) = pouchref4_digit_B n c (fun y => some (.ret (encR (.one .bool) y))) := by kernel_rfl
theorem pouchref4_digit_ok (n : Nat) : EntryOk Tryd.prog gl ⟨32, pcT (.pair (.int .u8) .unit) (.one .bool) (fun xs => pouchref4_digit n xs.1), none, none⟩ :=
  pcT_ok (pouchref4_digit_ent n) fun xs y h => ans_of_fn tys_ok (pouchref4_letter_es_ok n) mixed (hint := pouchref4_digit_hint n) (n := n) (fn := Tryd.f32) pouchref4_digit_at (fun c hc => by
    have : bodyOf Tryd.f32 = c := by unfold bodyOf; rw [hc]; rfl
    exact this ▸ pouchref4_digit_runs n) (run_ret (φ := (fun y => some (Out.ret (encR (.one .bool) y)))) ((pouchref4_digit_E n xs.1).trans (pouchref4_digit_N (R := Bool) (S := Out) n xs.1 some (fun y => some (Out.ret (encR (.one .bool) y))))) h)
def pouchref4_digit_es (n : Nat) : List Entry := ⟨32, pcT (.pair (.int .u8) .unit) (.one .bool) (fun xs => pouchref4_digit n xs.1), none, none⟩ :: pouchref4_letter_es n
theorem pouchref4_digit_es_ok (n : Nat) : AllOk Tryd.prog gl (pouchref4_digit_es n) := .cons (pouchref4_digit_ok n) (pouchref4_letter_es_ok n)

/- pouch/pouchref4.sign -/
def pouchref4_sign_B0 (n : Nat) {R : Type} (c1 : Int) (s : ByteArray) (i : Int) (kn : Int → ByteArray → Int → Option R) (ko : (Unit) → Option R) (kr : (Bool) → Option R) (kp : Int → Option R) : Option R :=
  if (decide (i < (s.size : Int))) = true then
    if 0 ≤ i ∧ i < (s.size : Int) then
      if ((bt s i) == c1) = true then
        kr true
      else
        kn c1 s (IntKind.wrap .i64 (i + (1 : Int)))
    else
      none
  else
    ko ()
theorem pouchref4_sign_B0_N (n : Nat) {R S : Type} (c1 : Int) (s : ByteArray) (i : Int) (kn : Int → ByteArray → Int → Option R) (ko : (Unit) → Option R) (kr : (Bool) → Option R) (kp : Int → Option R) (φ : R → Option S) : pouchref4_sign_B0 n c1 s i (fun c1 s i => (kn c1 s i).bind φ) (fun a => (ko a).bind φ) (fun a => (kr a).bind φ) (fun a => (kp a).bind φ) = (pouchref4_sign_B0 n c1 s i kn ko kr kp).bind φ := by
  unfold pouchref4_sign_B0
  first | (simp only [ite_bind, bind_bind, onL_bind, onX_bind, none_bind]) | rfl
def pouchref4_sign_L0 (n : Nat) : Nat → Int → ByteArray → Int → Option (Lx (Unit) (Bool))
  | 0, _, _, _ => none
  | m + 1, c1, s, i => pouchref4_sign_B0 n c1 s i (fun c1 s i => pouchref4_sign_L0 n m c1 s i) (fun a => some (.out a)) (fun a => some (.ret a)) (fun p => some (.pan p))
def pouchref4_sign_L0_sp : List Sl := [.dat (.int .u8), .top, .top, .dat .str, .dat (.int .i64), .top, .top, .top, .top, .top, .top, .top, .top, .top, .top, .top]
def pouchref4_sign_L0_rp : List RS := []
def pouchref4_sign_L0_out_sp : List Sl := [.top, .top, .top, .top, .top, .top, .top, .top, .top, .top, .top, .top, .top, .top, .top, .top]
def pouchref4_sign_L0_out_rp : List RS := []
def pouchref4_sign_L0_ret_sp : List Sl := [.top, .top, .dat .bool, .top, .top, .top, .top, .top, .top, .top, .top, .top, .top, .top, .top, .top]
def pouchref4_sign_L0_ret_rp : List RS := []
def pouchref4_sign_L0_K (K : XE → List AV → AHeap → Option Out) : Lx (Unit) (Bool) → Option Out := fun x => onL x (fun a => K (.exit 0) (encF (nsOf pouchref4_sign_L0_out_rp ()) pouchref4_sign_L0_out_sp ()) (encH (nsOf pouchref4_sign_L0_out_rp ()) pouchref4_sign_L0_out_rp ())) (fun a => K .ret (encF (nsOf pouchref4_sign_L0_ret_rp ()) pouchref4_sign_L0_ret_sp (a, ())) (encH (nsOf pouchref4_sign_L0_ret_rp ()) pouchref4_sign_L0_ret_rp ())) (fun _ => none)
def pouchref4_sign_B (n : Nat) {R : Type} (c : Int) (k : Bool → Option R) : Option R :=
  (pouchref4_sign_L0 n n c (⟨#[33, 35, 36, 37, 38, 39, 42, 43, 45, 47, 61, 63, 94, 95, 96, 123, 124, 125, 126]⟩ : ByteArray) (0 : Int)).bind fun x_1 => onL x_1
    (fun a_2 =>
      k false)
    (fun a_3 =>
      k a_3)
    (fun _ => none)
def pouchref4_sign (n : Nat) (c : Int) : Option Bool := pouchref4_sign_B n c some
theorem pouchref4_sign_N (n : Nat) {R S : Type} (c : Int) (k : Bool → Option R) (φ : R → Option S) : pouchref4_sign_B n c (fun a => (k a).bind φ) = (pouchref4_sign_B n c k).bind φ := by
  unfold pouchref4_sign_B
  first | (simp only [ite_bind, bind_bind, onL_bind, onX_bind, none_bind]) | rfl
def pouchref4_sign_hint (n : Nat) : Hint Out := { live := fun c => (cond (Nat.beq c 0) [(0, none), (3, none), (4, none)] []), run := fun c => (cond (Nat.beq c 0) (some (runL pouchref4_sign_L0_sp pouchref4_sign_L0_rp fun σ ρ K => (pouchref4_sign_L0 n n σ.1 σ.2.1 σ.2.2.1).bind (pouchref4_sign_L0_K K))) none), xm := fun c q => (cond (Nat.beq c 0 && Nat.beq (q.getD 1000000) 0 && q.isSome) (some []) (cond (Nat.beq c 1 && q.isNone) (some [(2, none)]) none)) }
theorem pouchref4_sign_L0_E (n : Nat) (K : XE → List AV → AHeap → Option Out) : ∀ (m : Nat) (c1 : Int) (s : ByteArray) (i : Int), loopI tys (callees Out (pouchref4_digit_es n)) (pouchref4_sign_hint n) n (codeAt [1, 1, 0, 1, 0, 0] (bodyOf Tryd.f39)) 0 pouchref4_sign_L0_sp pouchref4_sign_L0_rp K m (c1, (s, (i, ()))) () = (pouchref4_sign_L0 n m c1 s i).bind (pouchref4_sign_L0_K K)
  | 0, c1, s, i => by kernel_rfl
  | m + 1, c1, s, i => by
    have h1 : loopI tys (callees Out (pouchref4_digit_es n)) (pouchref4_sign_hint n) n (codeAt [1, 1, 0, 1, 0, 0] (bodyOf Tryd.f39)) 0 pouchref4_sign_L0_sp pouchref4_sign_L0_rp K (m + 1) (c1, (s, (i, ()))) () = pouchref4_sign_B0 n c1 s i (fun (c1 : Int) (s : ByteArray) (i : Int) => loopI tys (callees Out (pouchref4_digit_es n)) (pouchref4_sign_hint n) n (codeAt [1, 1, 0, 1, 0, 0] (bodyOf Tryd.f39)) 0 pouchref4_sign_L0_sp pouchref4_sign_L0_rp K m (c1, (s, (i, ()))) ()) (fun a => pouchref4_sign_L0_K K (.out a)) (fun a => pouchref4_sign_L0_K K (.ret a)) (fun p => pouchref4_sign_L0_K K (.pan p)) := by kernel_rfl
    have h2 : (fun (c1 : Int) (s : ByteArray) (i : Int) => loopI tys (callees Out (pouchref4_digit_es n)) (pouchref4_sign_hint n) n (codeAt [1, 1, 0, 1, 0, 0] (bodyOf Tryd.f39)) 0 pouchref4_sign_L0_sp pouchref4_sign_L0_rp K m (c1, (s, (i, ()))) ()) = (fun (c1 : Int) (s : ByteArray) (i : Int) => (pouchref4_sign_L0 n m c1 s i).bind (pouchref4_sign_L0_K K)) := funext fun c1 => funext fun s => funext fun i => pouchref4_sign_L0_E n K m c1 s i
    exact h1.trans ((congrArg (fun z => pouchref4_sign_B0 n c1 s i z (fun a => pouchref4_sign_L0_K K (.out a)) (fun a => pouchref4_sign_L0_K K (.ret a)) (fun p => pouchref4_sign_L0_K K (.pan p))) h2).trans (pouchref4_sign_B0_N n c1 s i (fun (c1 : Int) (s : ByteArray) (i : Int) => pouchref4_sign_L0 n m c1 s i) (fun a => some (.out a)) (fun a => some (.ret a)) (fun p => some (.pan p)) (pouchref4_sign_L0_K K)))
theorem pouchref4_sign_L0_ok (n : Nat) : RunOk tys (callees Out (pouchref4_digit_es n)) (pouchref4_sign_hint n) n (codeAt [1, 1, 0, 1, 0, 0] (bodyOf Tryd.f39)) 0 := runOk_of (sp := pouchref4_sign_L0_sp) (rp := pouchref4_sign_L0_rp) (F := fun σ ρ K => (pouchref4_sign_L0 n n σ.1 σ.2.1 σ.2.2.1).bind (pouchref4_sign_L0_K K)) (by kernel_rfl) fun K σ ρ => pouchref4_sign_L0_E n K n σ.1 σ.2.1 σ.2.2.1
theorem pouchref4_sign_runs (n : Nat) : RunsOk tys (callees Out (pouchref4_digit_es n)) (pouchref4_sign_hint n) n (bodyOf Tryd.f39) 0 := ⟨trivial, ⟨trivial, ⟨⟨trivial, ⟨pouchref4_sign_L0_ok n, ⟨⟨trivial, ⟨trivial, trivial⟩⟩, ⟨⟨trivial, ⟨⟨trivial, trivial⟩, trivial⟩⟩, trivial⟩⟩⟩⟩, ⟨trivial, trivial⟩⟩⟩⟩
theorem pouchref4_sign_at : Tryd.prog.funcs[39]? = some Tryd.f39 := by kernel_rfl
theorem pouchref4_sign_ent (n : Nat) : Enters Tryd.prog 39 := enters_of (c := bodyOf Tryd.f39) pouchref4_sign_at (by kernel_rfl) (by kernel_rfl)
theorem pouchref4_sign_E (n : Nat) (c : Int) : fnA tys (callees Out (pouchref4_digit_es n)) (pouchref4_sign_hint n) n Tryd.f39 (encL (.pair (.int .u8) .unit) (c, ())) [] (soloA fun v => some (.ret v)) (soloA fun v => some (.pan v)) = pouchref4_sign_B n c (fun y => some (.ret (encR (.one .bool) y))) := by kernel_rfl
theorem pouchref4_sign_ok (n : Nat) : EntryOk Tryd.prog gl ⟨39, pcT (.pair (.int .u8) .unit) (.one .bool) (fun xs => pouchref4_sign n xs.1), none, none⟩ :=
  pcT_ok (pouchref4_sign_ent n) fun xs y h => ans_of_fn tys_ok (pouchref4_digit_es_ok n) mixed (hint := pouchref4_sign_hint n) (n := n) (fn := Tryd.f39) pouchref4_sign_at (fun c hc => by
    have : bodyOf Tryd.f39 = c := by unfold bodyOf; rw [hc]; rfl
    exact this ▸ pouchref4_sign_runs n) (run_ret (φ := (fun y => some (Out.ret (encR (.one .bool) y)))) ((pouchref4_sign_E n xs.1).trans (pouchref4_sign_N (R := Bool) (S := Out) n xs.1 some (fun y => some (Out.ret (encR (.one .bool) y))))) h)
def pouchref4_sign_es (n : Nat) : List Entry := ⟨39, pcT (.pair (.int .u8) .unit) (.one .bool) (fun xs => pouchref4_sign n xs.1), none, none⟩ :: pouchref4_digit_es n
theorem pouchref4_sign_es_ok (n : Nat) : AllOk Tryd.prog gl (pouchref4_sign_es n) := .cons (pouchref4_sign_ok n) (pouchref4_digit_es_ok n)

/- pouch/pouchref4.plain -/
def pouchref4_plain_B1 (n : Nat) {R : Type} (l1 : (Sq ByteArray)) (i1 : Int) (k0 : Int) (kn : (Sq ByteArray) → Int → Int → Option R) (ko : ((Sq ByteArray) × Int) → Option R) (kr : (Bool) → Option R) (kp : Int → Option R) : Option R :=
  if 0 ≤ i1 ∧ i1 < (l1.n : Int) then
    if (decide (k0 < ((l1.at' (Int.toNat i1)).size : Int))) = true then
      if 0 ≤ i1 ∧ i1 < (l1.n : Int) then
        if 0 ≤ k0 ∧ k0 < ((l1.at' (Int.toNat i1)).size : Int) then
          (pouchref4_letter n (bt (l1.at' (Int.toNat i1)) k0)).bind fun v1 =>
          if (!v1) = true then
            if 0 ≤ i1 ∧ i1 < (l1.n : Int) then
              if 0 ≤ k0 ∧ k0 < ((l1.at' (Int.toNat i1)).size : Int) then
                (pouchref4_digit n (bt (l1.at' (Int.toNat i1)) k0)).bind fun v2 =>
                if (!v2) = true then
                  if 0 ≤ i1 ∧ i1 < (l1.n : Int) then
                    if 0 ≤ k0 ∧ k0 < ((l1.at' (Int.toNat i1)).size : Int) then
                      (pouchref4_sign n (bt (l1.at' (Int.toNat i1)) k0)).bind fun v3 =>
                      if (!v3) = true then
                        kr false
                      else
                        kn l1 i1 (IntKind.wrap .i64 (k0 + (1 : Int)))
                    else
                      none
                  else
                    none
                else
                  kn l1 i1 (IntKind.wrap .i64 (k0 + (1 : Int)))
              else
                none
            else
              none
          else
            kn l1 i1 (IntKind.wrap .i64 (k0 + (1 : Int)))
        else
          none
      else
        none
    else
      ko (l1, i1)
  else
    none
theorem pouchref4_plain_B1_N (n : Nat) {R S : Type} (l1 : (Sq ByteArray)) (i1 : Int) (k0 : Int) (kn : (Sq ByteArray) → Int → Int → Option R) (ko : ((Sq ByteArray) × Int) → Option R) (kr : (Bool) → Option R) (kp : Int → Option R) (φ : R → Option S) : pouchref4_plain_B1 n l1 i1 k0 (fun l1 i1 k0 => (kn l1 i1 k0).bind φ) (fun a => (ko a).bind φ) (fun a => (kr a).bind φ) (fun a => (kp a).bind φ) = (pouchref4_plain_B1 n l1 i1 k0 kn ko kr kp).bind φ := by
  unfold pouchref4_plain_B1
  first | (simp only [ite_bind, bind_bind, onL_bind, onX_bind, none_bind]) | rfl
def pouchref4_plain_L1 (n : Nat) : Nat → (Sq ByteArray) → Int → Int → Option (Lx ((Sq ByteArray) × Int) (Bool))
  | 0, _, _, _ => none
  | m + 1, l1, i1, k0 => pouchref4_plain_B1 n l1 i1 k0 (fun l1 i1 k0 => pouchref4_plain_L1 n m l1 i1 k0) (fun a => some (.out a)) (fun a => some (.ret a)) (fun p => some (.pan p))
def pouchref4_plain_L1_sp : List Sl := [.top, .top, .top, .dat (.sl .str), .dat (.int .i64), .dat (.int .i64), .top, .top, .top, .top, .top, .top, .top, .top, .top, .top, .top, .top, .top, .top, .top, .top, .top, .top, .top, .top, .top, .top, .top, .top, .top, .top, .top, .top, .top, .top, .top, .top, .top, .top, .top, .top, .top, .top, .top, .top, .top, .top, .top, .top, .top, .top, .top, .top, .top, .top]
def pouchref4_plain_L1_rp : List RS := []
def pouchref4_plain_L1_out_sp : List Sl := [.top, .top, .top, .dat (.sl .str), .dat (.int .i64), .top, .top, .top, .top, .top, .top, .top, .top, .top, .top, .top, .top, .top, .top, .top, .top, .top, .top, .top, .top, .top, .top, .top, .top, .top, .top, .top, .top, .top, .top, .top, .top, .top, .top, .top, .top, .top, .top, .top, .top, .top, .top, .top, .top, .top, .top, .top, .top, .top, .top, .top]
def pouchref4_plain_L1_out_rp : List RS := []
def pouchref4_plain_L1_ret_sp : List Sl := [.top, .top, .dat .bool, .top, .top, .top, .top, .top, .top, .top, .top, .top, .top, .top, .top, .top, .top, .top, .top, .top, .top, .top, .top, .top, .top, .top, .top, .top, .top, .top, .top, .top, .top, .top, .top, .top, .top, .top, .top, .top, .top, .top, .top, .top, .top, .top, .top, .top, .top, .top, .top, .top, .top, .top, .top, .top]
def pouchref4_plain_L1_ret_rp : List RS := []
def pouchref4_plain_L1_K (K : XE → List AV → AHeap → Option Out) : Lx ((Sq ByteArray) × Int) (Bool) → Option Out := fun x => onL x (fun a => K (.exit 2) (encF (nsOf pouchref4_plain_L1_out_rp ()) pouchref4_plain_L1_out_sp (a.1, (a.2, ()))) (encH (nsOf pouchref4_plain_L1_out_rp ()) pouchref4_plain_L1_out_rp ())) (fun a => K .ret (encF (nsOf pouchref4_plain_L1_ret_rp ()) pouchref4_plain_L1_ret_sp (a, ())) (encH (nsOf pouchref4_plain_L1_ret_rp ()) pouchref4_plain_L1_ret_rp ())) (fun _ => none)
def pouchref4_plain_B0 (n : Nat) {R : Type} (l : (Sq ByteArray)) (i : Int) (kn : (Sq ByteArray) → Int → Option R) (ko : (Unit) → Option R) (kr : (Bool) → Option R) (kp : Int → Option R) : Option R :=
  if (decide (i < (l.n : Int))) = true then
    if 0 ≤ i ∧ i < (l.n : Int) then
      if ((l.at' (Int.toNat i)).toList == (⟨#[]⟩ : ByteArray).toList) = true then
        kr false
      else
        (pouchref4_plain_L1 n n l i (0 : Int)).bind fun x_1 => onL x_1
          (fun a_2 =>
            kn a_2.1 (IntKind.wrap .i64 (a_2.2 + (1 : Int))))
          (fun a_3 =>
            kr a_3)
          (fun _ => none)
    else
      none
  else
    ko ()
theorem pouchref4_plain_B0_N (n : Nat) {R S : Type} (l : (Sq ByteArray)) (i : Int) (kn : (Sq ByteArray) → Int → Option R) (ko : (Unit) → Option R) (kr : (Bool) → Option R) (kp : Int → Option R) (φ : R → Option S) : pouchref4_plain_B0 n l i (fun l i => (kn l i).bind φ) (fun a => (ko a).bind φ) (fun a => (kr a).bind φ) (fun a => (kp a).bind φ) = (pouchref4_plain_B0 n l i kn ko kr kp).bind φ := by
  unfold pouchref4_plain_B0
  first | (simp only [ite_bind, bind_bind, onL_bind, onX_bind, none_bind]) | rfl
def pouchref4_plain_L0 (n : Nat) : Nat → (Sq ByteArray) → Int → Option (Lx (Unit) (Bool))
  | 0, _, _ => none
  | m + 1, l, i => pouchref4_plain_B0 n l i (fun l i => pouchref4_plain_L0 n m l i) (fun a => some (.out a)) (fun a => some (.ret a)) (fun p => some (.pan p))
def pouchref4_plain_L0_sp : List Sl := [.top, .top, .top, .dat (.sl .str), .dat (.int .i64), .top, .top, .top, .top, .top, .top, .top, .top, .top, .top, .top, .top, .top, .top, .top, .top, .top, .top, .top, .top, .top, .top, .top, .top, .top, .top, .top, .top, .top, .top, .top, .top, .top, .top, .top, .top, .top, .top, .top, .top, .top, .top, .top, .top, .top, .top, .top, .top, .top, .top, .top]
def pouchref4_plain_L0_rp : List RS := []
def pouchref4_plain_L0_out_sp : List Sl := [.top, .top, .top, .top, .top, .top, .top, .top, .top, .top, .top, .top, .top, .top, .top, .top, .top, .top, .top, .top, .top, .top, .top, .top, .top, .top, .top, .top, .top, .top, .top, .top, .top, .top, .top, .top, .top, .top, .top, .top, .top, .top, .top, .top, .top, .top, .top, .top, .top, .top, .top, .top, .top, .top, .top, .top]
def pouchref4_plain_L0_out_rp : List RS := []
def pouchref4_plain_L0_ret_sp : List Sl := [.top, .top, .dat .bool, .top, .top, .top, .top, .top, .top, .top, .top, .top, .top, .top, .top, .top, .top, .top, .top, .top, .top, .top, .top, .top, .top, .top, .top, .top, .top, .top, .top, .top, .top, .top, .top, .top, .top, .top, .top, .top, .top, .top, .top, .top, .top, .top, .top, .top, .top, .top, .top, .top, .top, .top, .top, .top]
def pouchref4_plain_L0_ret_rp : List RS := []
def pouchref4_plain_L0_K (K : XE → List AV → AHeap → Option Out) : Lx (Unit) (Bool) → Option Out := fun x => onL x (fun a => K (.exit 0) (encF (nsOf pouchref4_plain_L0_out_rp ()) pouchref4_plain_L0_out_sp ()) (encH (nsOf pouchref4_plain_L0_out_rp ()) pouchref4_plain_L0_out_rp ())) (fun a => K .ret (encF (nsOf pouchref4_plain_L0_ret_rp ()) pouchref4_plain_L0_ret_sp (a, ())) (encH (nsOf pouchref4_plain_L0_ret_rp ()) pouchref4_plain_L0_ret_rp ())) (fun _ => none)
def pouchref4_plain_B (n : Nat) {R : Type} (s : ByteArray) (k : Bool → Option R) : Option R :=
  (pouchref0_Split n s (46 : Int)).bind fun v =>
  (pouchref4_plain_L0 n n v (0 : Int)).bind fun x_1 => onL x_1
    (fun a_2 =>
      k true)
    (fun a_3 =>
      k a_3)
    (fun _ => none)
def pouchref4_plain (n : Nat) (s : ByteArray) : Option Bool := pouchref4_plain_B n s some
theorem pouchref4_plain_N (n : Nat) {R S : Type} (s : ByteArray) (k : Bool → Option R) (φ : R → Option S) : pouchref4_plain_B n s (fun a => (k a).bind φ) = (pouchref4_plain_B n s k).bind φ := by
  unfold pouchref4_plain_B
  first | (simp only [ite_bind, bind_bind, onL_bind, onX_bind, none_bind]) | rfl
def pouchref4_plain_hint (n : Nat) : Hint Out := { live := fun c => (cond (Nat.beq c 0) [(3, some (.sl .str)), (4, none)] (cond (Nat.beq c 2) [(3, some (.sl .str)), (4, none), (5, none)] [])), run := fun c => (cond (Nat.beq c 0) (some (runL pouchref4_plain_L0_sp pouchref4_plain_L0_rp fun σ ρ K => (pouchref4_plain_L0 n n σ.1 σ.2.1).bind (pouchref4_plain_L0_K K))) (cond (Nat.beq c 2) (some (runL pouchref4_plain_L1_sp pouchref4_plain_L1_rp fun σ ρ K => (pouchref4_plain_L1 n n σ.1 σ.2.1 σ.2.2.1).bind (pouchref4_plain_L1_K K))) none)), xm := fun c q => (cond (Nat.beq c 0 && Nat.beq (q.getD 1000000) 0 && q.isSome) (some []) (cond (Nat.beq c 2 && Nat.beq (q.getD 1000000) 2 && q.isSome) (some [(3, some (.sl .str)), (4, none)]) (cond (Nat.beq c 3 && q.isNone) (some [(2, none)]) (cond (Nat.beq c 1 && q.isNone) (some [(2, none)]) none)))) }
theorem pouchref4_plain_L1_E (n : Nat) (K : XE → List AV → AHeap → Option Out) : ∀ (m : Nat) (l1 : (Sq ByteArray)) (i1 : Int) (k0 : Int), loopI tys (callees Out (pouchref4_sign_es n)) (pouchref4_plain_hint n) n (codeAt [1, 1, 0, 1, 0, 0, 1, 0, 0, 1, 1, 0, 0] (bodyOf Tryd.f27)) 2 pouchref4_plain_L1_sp pouchref4_plain_L1_rp K m (l1, (i1, (k0, ()))) () = (pouchref4_plain_L1 n m l1 i1 k0).bind (pouchref4_plain_L1_K K)
  | 0, l1, i1, k0 => by kernel_rfl
  | m + 1, l1, i1, k0 => by
    have h1 : loopI tys (callees Out (pouchref4_sign_es n)) (pouchref4_plain_hint n) n (codeAt [1, 1, 0, 1, 0, 0, 1, 0, 0, 1, 1, 0, 0] (bodyOf Tryd.f27)) 2 pouchref4_plain_L1_sp pouchref4_plain_L1_rp K (m + 1) (l1, (i1, (k0, ()))) () = pouchref4_plain_B1 n l1 i1 k0 (fun (l1 : (Sq ByteArray)) (i1 : Int) (k0 : Int) => loopI tys (callees Out (pouchref4_sign_es n)) (pouchref4_plain_hint n) n (codeAt [1, 1, 0, 1, 0, 0, 1, 0, 0, 1, 1, 0, 0] (bodyOf Tryd.f27)) 2 pouchref4_plain_L1_sp pouchref4_plain_L1_rp K m (l1, (i1, (k0, ()))) ()) (fun a => pouchref4_plain_L1_K K (.out a)) (fun a => pouchref4_plain_L1_K K (.ret a)) (fun p => pouchref4_plain_L1_K K (.pan p)) := by kernel_rfl
    have h2 : (fun (l1 : (Sq ByteArray)) (i1 : Int) (k0 : Int) => loopI tys (callees Out (pouchref4_sign_es n)) (pouchref4_plain_hint n) n (codeAt [1, 1, 0, 1, 0, 0, 1, 0, 0, 1, 1, 0, 0] (bodyOf Tryd.f27)) 2 pouchref4_plain_L1_sp pouchref4_plain_L1_rp K m (l1, (i1, (k0, ()))) ()) = (fun (l1 : (Sq ByteArray)) (i1 : Int) (k0 : Int) => (pouchref4_plain_L1 n m l1 i1 k0).bind (pouchref4_plain_L1_K K)) := funext fun l1 => funext fun i1 => funext fun k0 => pouchref4_plain_L1_E n K m l1 i1 k0
    exact h1.trans ((congrArg (fun z => pouchref4_plain_B1 n l1 i1 k0 z (fun a => pouchref4_plain_L1_K K (.out a)) (fun a => pouchref4_plain_L1_K K (.ret a)) (fun p => pouchref4_plain_L1_K K (.pan p))) h2).trans (pouchref4_plain_B1_N n l1 i1 k0 (fun (l1 : (Sq ByteArray)) (i1 : Int) (k0 : Int) => pouchref4_plain_L1 n m l1 i1 k0) (fun a => some (.out a)) (fun a => some (.ret a)) (fun p => some (.pan p)) (pouchref4_plain_L1_K K)))
theorem pouchref4_plain_L1_ok (n : Nat) : RunOk tys (callees Out (pouchref4_sign_es n)) (pouchref4_plain_hint n) n (codeAt [1, 1, 0, 1, 0, 0, 1, 0, 0, 1, 1, 0, 0] (bodyOf Tryd.f27)) 2 := runOk_of (sp := pouchref4_plain_L1_sp) (rp := pouchref4_plain_L1_rp) (F := fun σ ρ K => (pouchref4_plain_L1 n n σ.1 σ.2.1 σ.2.2.1).bind (pouchref4_plain_L1_K K)) (by kernel_rfl) fun K σ ρ => pouchref4_plain_L1_E n K n σ.1 σ.2.1 σ.2.2.1
theorem pouchref4_plain_L0_E (n : Nat) (K : XE → List AV → AHeap → Option Out) : ∀ (m : Nat) (l : (Sq ByteArray)) (i : Int), loopI tys (callees Out (pouchref4_sign_es n)) (pouchref4_plain_hint n) n (codeAt [1, 1, 0, 1, 0, 0] (bodyOf Tryd.f27)) 0 pouchref4_plain_L0_sp pouchref4_plain_L0_rp K m (l, (i, ())) () = (pouchref4_plain_L0 n m l i).bind (pouchref4_plain_L0_K K)
  | 0, l, i => by kernel_rfl
  | m + 1, l, i => by
    have h1 : loopI tys (callees Out (pouchref4_sign_es n)) (pouchref4_plain_hint n) n (codeAt [1, 1, 0, 1, 0, 0] (bodyOf Tryd.f27)) 0 pouchref4_plain_L0_sp pouchref4_plain_L0_rp K (m + 1) (l, (i, ())) () = pouchref4_plain_B0 n l i (fun (l : (Sq ByteArray)) (i : Int) => loopI tys (callees Out (pouchref4_sign_es n)) (pouchref4_plain_hint n) n (codeAt [1, 1, 0, 1, 0, 0] (bodyOf Tryd.f27)) 0 pouchref4_plain_L0_sp pouchref4_plain_L0_rp K m (l, (i, ())) ()) (fun a => pouchref4_plain_L0_K K (.out a)) (fun a => pouchref4_plain_L0_K K (.ret a)) (fun p => pouchref4_plain_L0_K K (.pan p)) := by kernel_rfl
    have h2 : (fun (l : (Sq ByteArray)) (i : Int) => loopI tys (callees Out (pouchref4_sign_es n)) (pouchref4_plain_hint n) n (codeAt [1, 1, 0, 1, 0, 0] (bodyOf Tryd.f27)) 0 pouchref4_plain_L0_sp pouchref4_plain_L0_rp K m (l, (i, ())) ()) = (fun (l : (Sq ByteArray)) (i : Int) => (pouchref4_plain_L0 n m l i).bind (pouchref4_plain_L0_K K)) := funext fun l => funext fun i => pouchref4_plain_L0_E n K m l i
    exact h1.trans ((congrArg (fun z => pouchref4_plain_B0 n l i z (fun a => pouchref4_plain_L0_K K (.out a)) (fun a => pouchref4_plain_L0_K K (.ret a)) (fun p => pouchref4_plain_L0_K K (.pan p))) h2).trans (pouchref4_plain_B0_N n l i (fun (l : (Sq ByteArray)) (i : Int) => pouchref4_plain_L0 n m l i) (fun a => some (.out a)) (fun a => some (.ret a)) (fun p => some (.pan p)) (pouchref4_plain_L0_K K)))
theorem pouchref4_plain_L0_ok (n : Nat) : RunOk tys (callees Out (pouchref4_sign_es n)) (pouchref4_plain_hint n) n (codeAt [1, 1, 0, 1, 0, 0] (bodyOf Tryd.f27)) 0 := runOk_of (sp := pouchref4_plain_L0_sp) (rp := pouchref4_plain_L0_rp) (F := fun σ ρ K => (pouchref4_plain_L0 n n σ.1 σ.2.1).bind (pouchref4_plain_L0_K K)) (by kernel_rfl) fun K σ ρ => pouchref4_plain_L0_E n K n σ.1 σ.2.1
theorem pouchref4_plain_runs (n : Nat) : RunsOk tys (callees Out (pouchref4_sign_es n)) (pouchref4_plain_hint n) n (bodyOf Tryd.f27) 0 := ⟨trivial, ⟨trivial, ⟨⟨trivial, ⟨pouchref4_plain_L0_ok n, ⟨⟨trivial, ⟨trivial, trivial⟩⟩, ⟨⟨⟨trivial, ⟨⟨trivial, trivial⟩, trivial⟩⟩, ⟨trivial, ⟨pouchref4_plain_L1_ok n, ⟨⟨trivial, ⟨trivial, trivial⟩⟩, ⟨⟨trivial, ⟨⟨trivial, trivial⟩, trivial⟩⟩, trivial⟩⟩⟩⟩⟩, trivial⟩⟩⟩⟩, ⟨trivial, trivial⟩⟩⟩⟩
theorem pouchref4_plain_at : Tryd.prog.funcs[27]? = some Tryd.f27 := by kernel_rfl
theorem pouchref4_plain_ent (n : Nat) : Enters Tryd.prog 27 := enters_of (c := bodyOf Tryd.f27) pouchref4_plain_at (by kernel_rfl) (by kernel_rfl)
theorem pouchref4_plain_E (n : Nat) (s : ByteArray) : fnA tys (callees Out (pouchref4_sign_es n)) (pouchref4_plain_hint n) n Tryd.f27 (encL (.pair .str .unit) (s, ())) [] (soloA fun v => some (.ret v)) (soloA fun v => some (.pan v)) = pouchref4_plain_B n s (fun y => some (.ret (encR (.one .bool) y))) := by kernel_rfl
theorem pouchref4_plain_ok (n : Nat) : EntryOk Tryd.prog gl ⟨27, pcT (.pair .str .unit) (.one .bool) (fun xs => pouchref4_plain n xs.1), none, none⟩ :=
  pcT_ok (pouchref4_plain_ent n) fun xs y h => ans_of_fn tys_ok (pouchref4_sign_es_ok n) mixed (hint := pouchref4_plain_hint n) (n := n) (fn := Tryd.f27) pouchref4_plain_at (fun c hc => by
    have : bodyOf Tryd.f27 = c := by unfold bodyOf; rw [hc]; rfl
    exact this ▸ pouchref4_plain_runs n) (run_ret (φ := (fun y => some (Out.ret (encR (.one .bool) y)))) ((pouchref4_plain_E n xs.1).trans (pouchref4_plain_N (R := Bool) (S := Out) n xs.1 some (fun y => some (Out.ret (encR (.one .bool) y))))) h)
def pouchref4_plain_es (n : Nat) : List Entry := ⟨27, pcT (.pair .str .unit) (.one .bool) (fun xs => pouchref4_plain n xs.1), none, none⟩ :: pouchref4_sign_es n
theorem pouchref4_plain_es_ok (n : Nat) : AllOk Tryd.prog gl (pouchref4_plain_es n) := .cons (pouchref4_plain_ok n) (pouchref4_sign_es_ok n)
end Go.Proofs.YthmhobnhladhbaaDoor.AM
