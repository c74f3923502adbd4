/- Typed functions that tell what the Go functions of this seat answer, and proofs of it, by program (gen.py). -/
import Derived.Test.YtddefjokgaajfaaGreatDoorYT
import Derived.Test.YtddefjokgaajfaaGreatDoorYB
import Derived.Test.YtddefjokgaajfaaGreatDoorYL
import Derived.Test.YtddefjokgaajfaaGreatDoorYM
import Derived.Test.YtddefjokgaajfaaGreatDoorYN
set_option linter.all false
set_option linter.unusedVariables false
set_option linter.unusedSimpArgs false
set_option maxRecDepth 1000000
set_option maxHeartbeats 0
namespace Go.Proofs.YtddefjokgaajfaaGreatDoor.AM
open Go Go.RowKit
noncomputable section
abbrev K0:CTy:=(.pair (.pair .str (.pair .bool .unit)) (.pair (.sl (.pair .str (.pair .bool .unit))) .unit))
abbrev K1:CTy:=(.pair (.pair .str (.pair .bool .unit)) (.pair (.sl (.int .u8)) .unit))
abbrev K2:CTy:=(.pair .str (.pair .str (.pair (.int .i64) (.pair (.int .i64) .unit))))
abbrev K3:CTy:=(.pair (.pair .str (.pair .str .unit)) (.pair .bool (.pair (.int .i64) .unit)))
abbrev K4:CTy:=(.pair .bool (.pair (.sl (.int .i64)) (.pair (.sl (.sl (.int .u8))) .unit)))
abbrev K5:CTy:=(.pair K4 .unit)
abbrev K6:CTy:=(.pair (.pair .str (.pair .str .unit)) (.pair .bool (.pair .bool .unit)))
abbrev U0:Type:=(Bool×(Sq Int)×BA×Bool×BA×BA×Bool×BA×(Sq BA)×(Sq BA)×Unit)
abbrev U1:Type:=(BA×(BA×Unit))
abbrev U2:Type:=(BA×(Bool×Unit))
abbrev U3:Type:=(BA×Bool×(Sq Int)×Int×BA×Bool×BA×Bool×BA×(Sq U1)×(Sq BA)×Unit)
abbrev U4:Type:=(BA×Bool×(Sq Int)×BA×Bool×BA×BA×Bool×BA×(Sq BA)×(Sq BA)×Unit)
abbrev U5:Type:=(BA×BA×BA×Bool×(Sq Int)×(Sq (Sq Int))×Bool×(Sq Int)×BA×Bool×BA×BA×Bool×BA×Bool×(Sq Int)×BA×Bool×BA×BA×Bool×BA×Bool×(Sq Int)×BA×Bool×BA×BA×Bool×BA×(Sq BA)×(Sq BA)×(Sq BA)×(Sq BA)×(Sq BA)×(Sq BA))
abbrev U6:Type:=((Sq Int)×Bool×(Sq Int)×(Sq (Sq Int))×Bool×(Sq Int)×BA×Bool×BA×BA×Bool×BA×Bool×(Sq Int)×BA×Bool×BA×BA×Bool×BA×Bool×(Sq Int)×BA×Bool×BA×BA×Bool×BA×(Sq BA)×(Sq BA)×(Sq BA)×(Sq BA)×(Sq BA)×(Sq BA))
abbrev U7:Type:=(BA×BA×BA×Bool×(Sq Int)×BA×Bool×BA×BA×Bool×BA×Bool×(Sq Int)×BA×Bool×BA×BA×Bool×BA×Bool×(Sq Int)×BA×Bool×BA×BA×Bool×BA×(Sq BA)×(Sq BA)×(Sq BA)×(Sq BA)×(Sq BA)×(Sq BA))
abbrev U8:Type:=(Sq (Sq Int))
abbrev U9:Type:=(Bool×(Sq Int)×Int×BA×Bool×BA×Bool×BA×(Sq U1)×(Sq BA)×Unit)
abbrev U10:Type:=(Bool×(Sq Int)×BA×Bool×BA×(Sq BA)×BA×Bool×BA×(Sq BA)×Unit)
abbrev U11:Type:=(BA×Bool×(Sq Int)×Int×BA×Bool×BA×Bool×BA×(Sq U1)×(Sq BA))
abbrev U12:Type:=(Bool×(Sq Int)×BA×Bool×BA×BA×Bool×BA×(Sq BA)×(Sq BA))
abbrev U13:Type:=(Bool×(Sq Int)×Int×BA×Bool×BA×Bool×BA×(Sq BA)×(Sq U1)×(Sq BA)×Unit)
abbrev U14:Type:=(Bool×(Sq Int)×BA×Bool×BA×BA×Bool×BA×(Sq BA)×(Sq BA)×(Sq BA)×Unit)
abbrev U15:Type:=(Bool×Bool×(Sq Int)×BA×Bool×BA×(Sq BA)×BA×Bool×BA×(Sq BA)×Unit)
abbrev U16:Type:=(Bool×Bool×(Sq Int)×BA×Bool×BA×BA×Bool×BA×(Sq BA)×(Sq BA)×Unit)
abbrev U17:Type:=(Int×Bool×(Sq Int)×Int×BA×Bool×BA×Bool×BA×(Sq U1)×(Sq BA)×Unit)
abbrev U18:Type:=(Bool×((Sq Int)×(U8×Unit)))
abbrev U19:Type:=(Bool×(Sq Int)×BA×Bool×BA×(Sq BA)×BA×Bool×BA×(Sq BA))
abbrev U20:Type:=((Sq Int)×Unit)
abbrev U21:Type:=(Int×((Sq BA)×Unit))
abbrev U22:Type:=(Int×(Sq Int)×Unit)
def Iab (n:Nat):List Entry:=[]
theorem u0 (n:Nat):AllOk Tryz.prog gl (Iab n):=.nil
def DG (n:Nat) {R:Type} (i n0:Int) (k:Int→Option R):Option R:=
 if (IntKind.wrap .u64 n0)=0 then
 none
 else
 k (IntKind.wrap .i64 (Int.tmod (IntKind.wrap .u64 i) (IntKind.wrap .u64 n0)))
def iJ (n:Nat) (i n0:Int):Option Int:=DG n i n0 some
theorem PW (n:Nat) {S:Type}:∀ i n0 (φ:_→Option S),(iJ n i n0).bind φ=DG n i n0 φ:=by
 intros;unfold iJ DG;first | (simp only [fa,ba,iB,bB,oL,oX,nB,Option.bind_some]) | rfl
def iF (n:Nat):Hint Out:={ live:=fun c=>[],run:=fun c=>none,xm:=fun c q=>none }
theorem TP (n:Nat):ta tys (da Out (Iab n)) (iF n) n (aa Tryz.f22) 0:=ma (fun _=>rfl) _ _ (by kernel_rfl)
theorem FS (n:Nat):Enters Tryz.prog 22:=enters_of (c:=aa Tryz.f22) Tryz.func22 (by kernel_rfl) (by kernel_rfl)
def lL (n:Nat):Entry:=⟨22,pcT (.pair (.int .i64) (.pair (.int .i64) .unit)) (.one (.int .i64)) (fun xs=>iJ n xs.1 xs.2.1),none,none⟩
theorem aV (n:Nat):EntryOk Tryz.prog gl (lL n):=
 Qa (FS n) fun xs y h=>ra tys_ok (u0 n) mixed (hint:=iF n) (n:=n) Tryz.func22 (Pa (TP n)) (la (φ:=(fun y=>some (Out.ret (Vf (.one (.int .i64)) y)))) (by kernel_rfl) (PW n xs.1 xs.2.1 _) h)
def mL (n:Nat):List Entry:=lL n::Iab n
theorem EO (n:Nat):AllOk Tryz.prog gl (mL n):=.cons (aV n) (u0 n)
def dh (n:Nat):List Entry:=om::mL n
theorem Vi (n:Nat):AllOk Tryz.prog gl (dh n):=.cons ry (EO n)
def xx (n:Nat) {R:Type} (lmtp:Bool) (r0:(Sq Int)) (k:U0→Option R):Option R:=
 (zy 8 r0).bind fun v=>
 k (lmtp,(v.1,((⟨#[]⟩:BA),(false,((⟨#[]⟩:BA),((⟨#[]⟩:BA),(false,((⟨#[]⟩:BA),((⟨0,fun _=>Ba .str⟩:Sq BA),((⟨0,fun _=>Ba .str⟩:Sq BA),()))))))))))
def Ir (n:Nat) (lmtp:Bool) (r0:(Sq Int)):Option U0:=xx n lmtp r0 some
theorem vR (n:Nat) {S:Type}:∀ lmtp r0 (φ:_→Option S),(Ir n lmtp r0).bind φ=xx n lmtp r0 φ:=by
 intros;unfold Ir xx;first | (simp only [fa,ba,iB,bB,oL,oX,nB,Option.bind_some]) | rfl
def Dy (n:Nat):Hint OutS:={ live:=fun c=>[],run:=fun c=>none,xm:=fun c q=>none,nb:=[(71,1,.frz (.int .i64)),(71,5,.prm 9),(71,8,.prm 9)],na:=true }
theorem yL (n:Nat):ta tys (da OutS (dh n)).keep (Dy n) n (aa Tryz.f9) 0:=ma (fun _=>rfl) _ _ (by kernel_rfl)
theorem kN (n:Nat):Enters Tryz.prog 9:=enters_of (c:=aa Tryz.f9) Tryz.func9 (by kernel_rfl) (by kernel_rfl)
def GE:List RSp:=[.one (.dat .bool),.one (.row 0)]
def FE:List RS:=[.row 3 1 (.int .i64) false false]
def lN:List Sl:=[.top,.top]
def mN:List RSp:=[.one (.ptr 0 0 0)]
def ll:List RS:=[.box 71 10 false [.dat .bool,.dat (.sl (.int .i64)),.dat .str,.dat .bool,.dat .str,.row 1,.dat .str,.dat .bool,.row 2,.dat .str],.row 9 1 .str true true,.row 9 1 .str true true]
def yx (y:U0):OutS:=⟨false,dl (dc ll ((y.1,(y.2.1,(y.2.2.1,(y.2.2.2.1,(y.2.2.2.2.1,(y.2.2.2.2.2.1,(y.2.2.2.2.2.2.1,(y.2.2.2.2.2.2.2.1,())))))))),(y.2.2.2.2.2.2.2.2.1,(y.2.2.2.2.2.2.2.2.2.1,())))) lN (),aw (Xt (dc ll ((y.1,(y.2.1,(y.2.2.1,(y.2.2.2.1,(y.2.2.2.2.1,(y.2.2.2.2.2.1,(y.2.2.2.2.2.2.1,(y.2.2.2.2.2.2.2.1,())))))))),(y.2.2.2.2.2.2.2.2.1,(y.2.2.2.2.2.2.2.2.2.1,())))) mN ((),())),Qo (dc ll ((y.1,(y.2.1,(y.2.2.1,(y.2.2.2.1,(y.2.2.2.2.1,(y.2.2.2.2.2.1,(y.2.2.2.2.2.2.1,(y.2.2.2.2.2.2.2.1,())))))))),(y.2.2.2.2.2.2.2.2.1,(y.2.2.2.2.2.2.2.2.2.1,())))) ll ((y.1,(y.2.1,(y.2.2.1,(y.2.2.2.1,(y.2.2.2.2.1,(y.2.2.2.2.2.1,(y.2.2.2.2.2.2.1,(y.2.2.2.2.2.2.2.1,())))))))),(y.2.2.2.2.2.2.2.2.1,(y.2.2.2.2.2.2.2.2.2.1,())))⟩
theorem iP (n:Nat):EntryOk Tryz.prog gl ⟨9,gf,none,some (csT GE FE (fun σ ρ=>Ir n σ.1.1 ρ.1) yx)⟩:=
 Sc (kN n) fun σ ρ y h=>db tys_ok (Vi n) mixed (hint:=Dy n) (n:=n) Tryz.func9 (Pa (yL n)) (la (φ:=fun y=>some (yx y)) (by kernel_rfl) (vR n σ.1.1 ρ.1 _) h)
def EE (n:Nat):List Entry:=⟨9,gf,none,some (csT GE FE (fun σ ρ=>Ir n σ.1.1 ρ.1) yx)⟩::dh n
theorem DJ (n:Nat):AllOk Tryz.prog gl (EE n):=.cons (iP n) (Vi n)
def zF (n:Nat):List Entry:=⟨118,pcT (.pair .str (.pair .str .unit)) (.one (.int .i64)) (fun xs=>DE xs.1 xs.2.1),none,none⟩::EE n
theorem CE (n:Nat):AllOk Tryz.prog gl (zF n):=.cons P0 (DJ n)
def tH (n:Nat) {R:Type} (s sep:BA) (k:(BA×BA×Bool×Unit)→Option R):Option R:=
 (DE s sep).bind fun v=>
 if (decide (v≥(0:Int)))=true then
 if 0≤v∧v≤(s.size:Int) then
  if 0≤(IntKind.wrap .i64 (v+(sep.size:Int)))∧(IntKind.wrap .i64 (v+(sep.size:Int)))≤(s.size:Int) then
  k ((s.extract (Int.toNat (0:Int)) (Int.toNat v)),((s.extract (Int.toNat (IntKind.wrap .i64 (v+(sep.size:Int)))) (Int.toNat (s.size:Int))),(true,())))
  else
  none
 else
  none
 else
 k (s,((⟨#[]⟩:BA),(false,())))
def nQ (n:Nat) (s sep:BA):Option (BA×BA×Bool×Unit):=tH n s sep some
theorem V4 (n:Nat) {S:Type}:∀ s sep (φ:_→Option S),(nQ n s sep).bind φ=tH n s sep φ:=by
 intros;unfold nQ tH;first | (simp only [fa,ba,iB,bB,oL,oX,nB,Option.bind_some]) | rfl
def YM (n:Nat):Hint Out:={ live:=fun c=>[],run:=fun c=>none,xm:=fun c q=>none }
theorem MV (n:Nat):ta tys (da Out (zF n)) (YM n) n (aa Tryz.f89) 0:=ma (fun _=>rfl) _ _ (by kernel_rfl)
theorem zY (n:Nat):Enters Tryz.prog 89:=enters_of (c:=aa Tryz.f89) Tryz.func89 (by kernel_rfl) (by kernel_rfl)
def IT (n:Nat):Entry:=⟨89,pcT (.pair .str (.pair .str .unit)) (.many (.pair .str (.pair .str (.pair .bool .unit)))) (fun xs=>nQ n xs.1 xs.2.1),none,none⟩
theorem N0 (n:Nat):EntryOk Tryz.prog gl (IT n):=
 Qa (zY n) fun xs y h=>ra tys_ok (CE n) mixed (hint:=YM n) (n:=n) Tryz.func89 (Pa (MV n)) (la (φ:=(fun y=>some (Out.ret (Vf (.many (.pair .str (.pair .str (.pair .bool .unit)))) y)))) (by kernel_rfl) (V4 n xs.1 xs.2.1 _) h)
def XM (n:Nat):List Entry:=IT n::zF n
theorem PK (n:Nat):AllOk Tryz.prog gl (XM n):=.cons (N0 n) (CE n)
def XI (n:Nat) {R:Type} (s sep:BA) (k:(BA×BA×Bool×Unit)→Option R):Option R:=
 (nQ n s sep).bind fun v=>
 k (v.1,(v.2.1,(v.2.2.1,())))
def jL (n:Nat) (s sep:BA):Option (BA×BA×Bool×Unit):=XI n s sep some
theorem M5 (n:Nat) {S:Type}:∀ s sep (φ:_→Option S),(jL n s sep).bind φ=XI n s sep φ:=by
 intros;unfold jL XI;first | (simp only [fa,ba,iB,bB,oL,oX,nB,Option.bind_some]) | rfl
def qO (n:Nat):Hint Out:={ live:=fun c=>[],run:=fun c=>none,xm:=fun c q=>none }
theorem JW (n:Nat):ta tys (da Out (XM n)) (qO n) n (aa Tryz.f52) 0:=ma (fun _=>rfl) _ _ (by kernel_rfl)
theorem nZ (n:Nat):Enters Tryz.prog 52:=enters_of (c:=aa Tryz.f52) Tryz.func52 (by kernel_rfl) (by kernel_rfl)
def OU (n:Nat):Entry:=⟨52,pcT (.pair .str (.pair .str .unit)) (.many (.pair .str (.pair .str (.pair .bool .unit)))) (fun xs=>jL n xs.1 xs.2.1),none,none⟩
theorem o3 (n:Nat):EntryOk Tryz.prog gl (OU n):=
 Qa (nZ n) fun xs y h=>ra tys_ok (PK n) mixed (hint:=qO n) (n:=n) Tryz.func52 (Pa (JW n)) (la (φ:=(fun y=>some (Out.ret (Vf (.many (.pair .str (.pair .str (.pair .bool .unit)))) y)))) (by kernel_rfl) (M5 n xs.1 xs.2.1 _) h)
def pO (n:Nat):List Entry:=OU n::XM n
theorem kL (n:Nat):AllOk Tryz.prog gl (pO n):=.cons (o3 n) (PK n)
def In (n:Nat) {R:Type} (s suffix:BA) (k:Bool→Option R):Option R:=
 if (decide ((s.size:Int)≥(suffix.size:Int)))=true then
 if 0≤(IntKind.wrap .i64 ((s.size:Int) - (suffix.size:Int)))∧(IntKind.wrap .i64 ((s.size:Int) - (suffix.size:Int)))≤(s.size:Int) then
  k ((s.extract (Int.toNat (IntKind.wrap .i64 ((s.size:Int) - (suffix.size:Int)))) (Int.toNat (s.size:Int))).toList==suffix.toList)
 else
  none
 else
 k false
def co (n:Nat) (s suffix:BA):Option Bool:=In n s suffix some
theorem dP (n:Nat) {S:Type}:∀ s suffix (φ:_→Option S),(co n s suffix).bind φ=In n s suffix φ:=by
 intros;unfold co In;first | (simp only [fa,ba,iB,bB,oL,oX,nB,Option.bind_some]) | rfl
def mw (n:Nat):Hint Out:={ live:=fun c=>[],run:=fun c=>none,xm:=fun c q=>none }
theorem xJ (n:Nat):ta tys (da Out (pO n)) (mw n) n (aa Tryz.f95) 0:=ma (fun _=>rfl) _ _ (by kernel_rfl)
theorem sL (n:Nat):Enters Tryz.prog 95:=enters_of (c:=aa Tryz.f95) Tryz.func95 (by kernel_rfl) (by kernel_rfl)
def iA (n:Nat):Entry:=⟨95,pcT (.pair .str (.pair .str .unit)) (.one .bool) (fun xs=>co n xs.1 xs.2.1),none,none⟩
theorem aN (n:Nat):EntryOk Tryz.prog gl (iA n):=
 Qa (sL n) fun xs y h=>ra tys_ok (kL n) mixed (hint:=mw n) (n:=n) Tryz.func95 (Pa (xJ n)) (la (φ:=(fun y=>some (Out.ret (Vf (.one .bool) y)))) (by kernel_rfl) (dP n xs.1 xs.2.1 _) h)
def Cr (n:Nat):List Entry:=iA n::pO n
theorem bu (n:Nat):AllOk Tryz.prog gl (Cr n):=.cons (aN n) (kL n)
def Tn (n:Nat) {R:Type} (s suffix:BA) (k:Bool→Option R):Option R:=
 (co n s suffix).bind fun v=>
 k v
def Tc (n:Nat) (s suffix:BA):Option Bool:=Tn n s suffix some
theorem PP (n:Nat) {S:Type}:∀ s suffix (φ:_→Option S),(Tc n s suffix).bind φ=Tn n s suffix φ:=by
 intros;unfold Tc Tn;first | (simp only [fa,ba,iB,bB,oL,oX,nB,Option.bind_some]) | rfl
def Xw (n:Nat):Hint Out:={ live:=fun c=>[],run:=fun c=>none,xm:=fun c q=>none }
theorem nK (n:Nat):ta tys (da Out (Cr n)) (Xw n) n (aa Tryz.f59) 0:=ma (fun _=>rfl) _ _ (by kernel_rfl)
theorem WL (n:Nat):Enters Tryz.prog 59:=enters_of (c:=aa Tryz.f59) Tryz.func59 (by kernel_rfl) (by kernel_rfl)
def rC (n:Nat):Entry:=⟨59,pcT (.pair .str (.pair .str .unit)) (.one .bool) (fun xs=>Tc n xs.1 xs.2.1),none,none⟩
theorem sC (n:Nat):EntryOk Tryz.prog gl (rC n):=
 Qa (WL n) fun xs y h=>ra tys_ok (bu n) mixed (hint:=Xw n) (n:=n) Tryz.func59 (Pa (nK n)) (la (φ:=(fun y=>some (Out.ret (Vf (.one .bool) y)))) (by kernel_rfl) (PP n xs.1 xs.2.1 _) h)
def nt (n:Nat):List Entry:=rC n::Cr n
theorem Iu (n:Nat):AllOk Tryz.prog gl (nt n):=.cons (sC n) (bu n)
def ux (n:Nat) {R:Type} (f:U2) (k:U2→Option R):Option R:=
 if (!f.2.1)=true then
 if (decide ((f.1.size:Int)<(512:Int)))=true then
  k (f.1,(f.2.1,()))
 else
  (Tc n f.1 (⟨#[13]⟩:BA)).bind fun v=>
  if v=true then
  k ((⟨#[13]⟩:BA),(true,()))
  else
  k ((⟨#[]⟩:BA),(true,()))
 else
 (Tc n f.1 (⟨#[13]⟩:BA)).bind fun v1=>
 if v1=true then
  k ((⟨#[13]⟩:BA),(true,()))
 else
  k ((⟨#[]⟩:BA),(true,()))
def kw (n:Nat) (f:U2):Option U2:=ux n f some
theorem JV (n:Nat) {S:Type}:∀ f (φ:_→Option S),(kw n f).bind φ=ux n f φ:=by
 intros;unfold kw ux;first | (simp only [fa,ba,iB,bB,oL,oX,nB,Option.bind_some]) | rfl
def BE (n:Nat):Hint Out:={ live:=fun c=>[],run:=fun c=>none,xm:=fun c q=>none }
theorem ZO (n:Nat):ta tys (da Out (nt n)) (BE n) n (aa Tryz.f53) 0:=ma (fun _=>rfl) _ _ (by kernel_rfl)
theorem kR (n:Nat):Enters Tryz.prog 53:=enters_of (c:=aa Tryz.f53) Tryz.func53 (by kernel_rfl) (by kernel_rfl)
def OK (n:Nat):Entry:=⟨53,pcT (.pair (.pair .str (.pair .bool .unit)) .unit) (.one (.pair .str (.pair .bool .unit))) (fun xs=>kw n xs.1),none,none⟩
theorem BT (n:Nat):EntryOk Tryz.prog gl (OK n):=
 Qa (kR n) fun xs y h=>ra tys_ok (Iu n) mixed (hint:=BE n) (n:=n) Tryz.func53 (Pa (ZO n)) (la (φ:=(fun y=>some (Out.ret (Vf (.one (.pair .str (.pair .bool .unit))) y)))) (by kernel_rfl) (JV n xs.1 _) h)
def Zz (n:Nat):List Entry:=OK n::nt n
theorem aA (n:Nat):AllOk Tryz.prog gl (Zz n):=.cons (BT n) (Iu n)
def Yt (n:Nat) {R:Type} (s:BA) (skip:Bool) (k:U2→Option R):Option R:=
 if skip=false then
 if (decide ((IntKind.wrap .i64 ((s.size:Int)+(2:Int)))>(512:Int)))=true then
  k ((⟨#[]⟩:BA),(true,()))
 else
  k (s,(false,()))
 else
 k ((⟨#[]⟩:BA),(true,()))
def ir (n:Nat) (s:BA) (skip:Bool):Option U2:=Yt n s skip some
theorem DT (n:Nat) {S:Type}:∀ s skip (φ:_→Option S),(ir n s skip).bind φ=Yt n s skip φ:=by
 intros;unfold ir Yt;first | (simp only [fa,ba,iB,bB,oL,oX,nB,Option.bind_some]) | rfl
def cA (n:Nat):Hint Out:={ live:=fun c=>[],run:=fun c=>none,xm:=fun c q=>none }
theorem SM (n:Nat):ta tys (da Out (Zz n)) (cA n) n (aa Tryz.f54) 0:=ma (fun _=>rfl) _ _ (by kernel_rfl)
theorem aP (n:Nat):Enters Tryz.prog 54:=enters_of (c:=aa Tryz.f54) Tryz.func54 (by kernel_rfl) (by kernel_rfl)
def qH (n:Nat):Entry:=⟨54,pcT (.pair .str (.pair .bool .unit)) (.one (.pair .str (.pair .bool .unit))) (fun xs=>ir n xs.1 xs.2.1),none,none⟩
theorem lR (n:Nat):EntryOk Tryz.prog gl (qH n):=
 Qa (aP n) fun xs y h=>ra tys_ok (aA n) mixed (hint:=cA n) (n:=n) Tryz.func54 (Pa (SM n)) (la (φ:=(fun y=>some (Out.ret (Vf (.one (.pair .str (.pair .bool .unit))) y)))) (by kernel_rfl) (DT n xs.1 xs.2.1 _) h)
def el (n:Nat):List Entry:=qH n::Zz n
theorem By (n:Nat):AllOk Tryz.prog gl (el n):=.cons (lR n) (aA n)
def Mk (n:Nat) {R:Type} (all:BA) (skip:Bool) (t4:BA) (t41:Bool) (l:(Sq U2)) (kn:BA→Bool→BA→Bool→(Sq U2)→Option R) (ko:Unit→Option R) (kr:(BA×Bool×(Sq U2))→Option R) (kp:Int→Option R):Option R:=
 (jL n all (⟨#[13,10]⟩:BA)).bind fun v=>
 if (!v.2.2.1)=true then
 (kw n (all,(skip,()))).bind fun v1=>
 kr (v1.1,v1.2.1,l)
 else
 (ir n v.1 skip).bind fun v2=>
 if Ta (l.n+1) 24=true then
  kn v.2.1 false t4 t41 (⟨(l.n+1),fun q=>if q<l.n then l.at' q else (fun q=>List.getD (α:=U2) [(v2.1,(v2.2.1,()))] q (Ba (.pair .str (.pair .bool .unit)))) (q - l.n)⟩:Sq U2)
 else
  none
def Cd (n:Nat):Nat→BA→Bool→BA→Bool→(Sq U2)→Option (Lx Unit (BA×Bool×(Sq U2)))
 | 0,_,_,_,_,_=>none
 | m+1,all,skip,t4,t41,l=>Mk n all skip t4 t41 l (Cd n m) (fun a=>some (.out a)) (fun a=>some (.ret a)) (fun p=>some (.pan p))
theorem XO (n m:Nat) {S:Type}:∀ all skip t4 t41 l (φ:_→Option S),(Cd n (m+1) all skip t4 t41 l).bind φ=Mk n all skip t4 t41 l (fun all skip t4 t41 l=>(Cd n m all skip t4 t41 l).bind φ) (fun a=>φ (.out a)) (fun a=>φ (.ret a)) (fun p=>φ (.pan p)):=by
 intros;first | (simp only [Cd,Mk,fa,ba,iB,bB,oL,oX,nB,Option.bind_some]) | rfl
def zr:List Sl:=tp 4 (.ptr 0 0 0::.top::.row 1::.dat .str::.dat .bool::tp 30 [])
def yr:List RS:=[.box 45 2 true [.dat .str,.dat .bool],.row 60 2 (.pair .str (.pair .bool .unit)) true false]
def yF:List Sl:=tp 4 (.ptr 0 0 0::.row 1::tp 33 [])
def xF:List RS:=[.box 45 2 true [.dat .str,.dat .bool],.row 60 2 (.pair .str (.pair .bool .unit)) true false]
def Kf (K:XE→List AV→ia→Option Out):Lx Unit (BA×Bool×(Sq U2))→Option Out:=fun x=>onL x (fun _=>none) (fun a=>ak yF xF () ((a.1,(a.2.1,())),(a.2.2,())) (K .ret)) (fun _=>none)
def sx (n:Nat) {R:Type} (f:U2) (b:(Sq Int)) (k:(U2×(Sq U2)×Unit)→Option R):Option R:=
 if Ca f.1 (Oh b.n b.at')=true then
 (Cd n n (f.1++(Oh b.n b.at')) f.2.1 (⟨#[]⟩:BA) false (⟨0,fun _=>Ba (.pair .str (.pair .bool .unit))⟩:Sq U2)).bind fun x_1=>onL x_1
  (fun _=>none)
  (fun a_2=>
  k ((a_2.1,(a_2.2.1,())),(a_2.2.2,())))
  (fun _=>none)
 else
 none
def bo (n:Nat) (f:U2) (b:(Sq Int)):Option (U2×(Sq U2)×Unit):=sx n f b some
theorem IV (n:Nat) {S:Type}:∀ f b (φ:_→Option S),(bo n f b).bind φ=sx n f b φ:=by
 intros;unfold bo sx;first | (simp only [fa,ba,iB,bB,oL,oX,nB,Option.bind_some]) | rfl
def Gn (n:Nat):Hint Out:={ live:=fun c=>(cond (Nat.beq c 0) [(4,none),(6,some (.sl (.pair .str (.pair .bool .unit)))),(7,none),(8,none)] []),run:=fun c=>(cond (Nat.beq c 0) (some (aq zr yr fun σ ρ K=>(Cd n n σ.1 σ.2.1 ρ.1.1 ρ.1.2.1 ρ.2.1).bind (Kf K))) none),xm:=fun c q=>(cond (Nat.beq c 1&&q.isNone) (some [(4,none),(5,some (.sl (.pair .str (.pair .bool .unit))))]) none) }
def Fn (n:Nat) (K:XE→List AV→ia→Option Out) (m:Nat) (all:BA) (skip:Bool) (t4:BA) (t41:Bool) (l:(Sq U2)):Option Out:=Pe tys (da Out (el n)) (Gn n) n (Da [1,1,1,1,0,0] (aa Tryz.f34)) 0 zr yr K m (all,(skip,())) ((t4,(t41,())),(l,()))
theorem AE (n:Nat) (K:XE→List AV→ia→Option Out):∀ (m:Nat) all skip t4 t41 l,Fn n K m all skip t4 t41 l=(Cd n m all skip t4 t41 l).bind (Kf K)
 | 0,_,_,_,_,_=>by kernel_rfl
 | m+1,all,skip,t4,t41,l=>by
  have h1:Fn n K (m+1) all skip t4 t41 l=Mk n all skip t4 t41 l (Fn n K m) (fun a=>Kf K (.out a)) (fun a=>Kf K (.ret a)) (fun p=>Kf K (.pan p)):=by kernel_rfl
  have h2:Fn n K m=fun all skip t4 t41 l=>(Cd n m all skip t4 t41 l).bind (Kf K):=by
   repeat (refine funext fun _=>?_)
   exact AE n K m _ _ _ _ _
  rw [h1,h2];exact (XO n m _ _ _ _ _ (Kf K)).symm
theorem RM (n:Nat):ie tys (da Out (el n)) (Gn n) n (Da [1,1,1,1,0,0] (aa Tryz.f34)) 0:=Oa (sp:=zr) (rp:=yr) (by kernel_rfl) fun K σ ρ=>AE n K n σ.1 σ.2.1 ρ.1.1 ρ.1.2.1 ρ.2.1
theorem YO (n:Nat):ta tys (da Out (el n)) (Gn n) n (aa Tryz.f34) 0:=⟨trivial,⟨trivial,⟨trivial,⟨trivial,⟨RM n,⟨trivial,⟨⟨trivial,⟨⟨trivial,trivial⟩,trivial⟩⟩,⟨trivial,trivial⟩⟩⟩⟩⟩⟩⟩⟩
theorem jR (n:Nat):Enters Tryz.prog 34:=enters_of (c:=aa Tryz.f34) Tryz.func34 (by kernel_rfl) (by kernel_rfl)
def NK (n:Nat):Entry:=⟨34,pcT K1 (.many K0) (fun xs=>bo n xs.1 xs.2.1),none,none⟩
theorem zT (n:Nat):EntryOk Tryz.prog gl (NK n):=
 Qa (jR n) fun xs y h=>ra tys_ok (By n) mixed (hint:=Gn n) (n:=n) Tryz.func34 (Pa (YO n)) (la (φ:=(fun y=>some (Out.ret (Vf (.many K0) y)))) (by kernel_rfl) (IV n xs.1 xs.2.1 _) h)
def Xz (n:Nat):List Entry:=NK n::el n
theorem Yz (n:Nat):AllOk Tryz.prog gl (Xz n):=.cons (zT n) (By n)
def pB (n:Nat) {R:Type} (code:Int) (k:BA→Option R):Option R:=
 if (code==(220:Int))=true then
 k (⟨#[104,101,114,101]⟩:BA)
 else
 if (code==(250:Int))=true then
  k (⟨#[111,107]⟩:BA)
 else
  if (code==(354:Int))=true then
  k (⟨#[103,111,32,111,110]⟩:BA)
  else
  if (code==(221:Int))=true then
   k (⟨#[98,121,101]⟩:BA)
  else
   if (code==(500:Int))=true then
   k (⟨#[119,104,97,116,63]⟩:BA)
   else
   if (code==(503:Int))=true then
    k (⟨#[110,111,116,32,121,101,116]⟩:BA)
   else
    k (⟨#[110,111]⟩:BA)
def JC (n:Nat) (code:Int):Option BA:=pB n code some
theorem VT (n:Nat) {S:Type}:∀ code (φ:_→Option S),(JC n code).bind φ=pB n code φ:=by
 intros;unfold JC pB;first | (simp only [fa,ba,iB,bB,oL,oX,nB,Option.bind_some]) | rfl
def rB (n:Nat):Hint Out:={ live:=fun c=>[],run:=fun c=>none,xm:=fun c q=>none }
theorem rN (n:Nat):ta tys (da Out (Xz n)) (rB n) n (aa Tryz.f51) 0:=ma (fun _=>rfl) _ _ (by kernel_rfl)
theorem lP (n:Nat):Enters Tryz.prog 51:=enters_of (c:=aa Tryz.f51) Tryz.func51 (by kernel_rfl) (by kernel_rfl)
def CH (n:Nat):Entry:=⟨51,pcT (.pair (.int .i64) .unit) (.one .str) (fun xs=>JC n xs.1),none,none⟩
theorem yR (n:Nat):EntryOk Tryz.prog gl (CH n):=
 Qa (lP n) fun xs y h=>ra tys_ok (Yz n) mixed (hint:=rB n) (n:=n) Tryz.func51 (Pa (rN n)) (la (φ:=(fun y=>some (Out.ret (Vf (.one .str) y)))) (by kernel_rfl) (VT n xs.1 _) h)
def Gl (n:Nat):List Entry:=CH n::Xz n
theorem Gy (n:Nat):AllOk Tryz.prog gl (Gl n):=.cons (yR n) (Yz n)
def Pn (n:Nat) {R:Type} (s1:BA) (t5 t6:Int) (kn:BA→Int→Int→Option R) (ko:(BA)→Option R) (kr:(Bool)→Option R) (kp:Int→Option R):Option R:=
 if (decide (t6<t5))=true then
 if 0≤t6∧t6<(s1.size:Int) then
  if (decide ((bt s1 t6)<(32:Int)))=false then
  if 0≤t6∧t6<(s1.size:Int) then
   if (decide ((bt s1 t6)>(126:Int)))=true then
   kr false
   else
   kn s1 t5 (IntKind.wrap .i64 (t6+(1:Int)))
  else
   none
  else
  kr false
 else
  none
 else
 ko s1
def Yd (n:Nat):Nat→BA→Int→Int→Option (Lx (BA) (Bool))
 | 0,_,_,_=>none
 | m+1,s1,t5,t6=>Pn n s1 t5 t6 (Yd n m) (fun a=>some (.out a)) (fun a=>some (.ret a)) (fun p=>some (.pan p))
theorem JL (n m:Nat) {S:Type}:∀ s1 t5 t6 (φ:_→Option S),(Yd n (m+1) s1 t5 t6).bind φ=Pn n s1 t5 t6 (fun s1 t5 t6=>(Yd n m s1 t5 t6).bind φ) (fun a=>φ (.out a)) (fun a=>φ (.ret a)) (fun p=>φ (.pan p)):=by
 intros;first | (simp only [Yd,Pn,fa,ba,iB,bB,oL,oX,nB,Option.bind_some]) | rfl
def sn:List Sl:=.dat .str::tp 4 (.dat (.int .i64)::.dat (.int .i64)::tp 16 [])
def rn:List RS:=[]
def RB:List Sl:=.dat .str::tp 22 []
def QB:List RS:=[]
def TB:List Sl:=.top::.top::.dat .bool::tp 20 []
def SB:List RS:=[]
def Nd (K:XE→List AV→ia→Option Out):Lx (BA) (Bool)→Option Out:=fun x=>onL x (fun a=>ak RB QB (a,()) () (K (.exit 0))) (fun a=>ak TB SB (a,()) () (K .ret)) (fun _=>none)
def ly (n:Nat) {R:Type} (s:BA) (k:Bool→Option R):Option R:=
 (Yd n n s (s.size:Int) (0:Int)).bind fun x_1=>onL x_1
 (fun a_2=>
  k (decide ((a_2.size:Int)≤(506:Int))))
 (fun a_3=>
  k a_3)
 (fun _=>none)
def ky (n:Nat) (s:BA):Option Bool:=ly n s some
theorem nS (n:Nat) {S:Type}:∀ s (φ:_→Option S),(ky n s).bind φ=ly n s φ:=by
 intros;unfold ky ly;first | (simp only [fa,ba,iB,bB,oL,oX,nB,Option.bind_some]) | rfl
def Sj (n:Nat):Hint Out:={ live:=fun c=>(cond (Nat.beq c 0) (lv [0,5,6]) []),run:=fun c=>(cond (Nat.beq c 0) (some (aq sn rn fun σ ρ K=>(Yd n n σ.1 σ.2.1 σ.2.2.1).bind (Nd K))) none),xm:=fun c q=>(cond (Nat.beq c 0&&Nat.beq (q.getD 1000000) 0&&q.isSome) (some [(0,none)]) (cond (Nat.beq c 1&&q.isNone) (some [(2,none)]) none)) }
def Rj (n:Nat) (K:XE→List AV→ia→Option Out) (m:Nat) (s1:BA) (t5:Int) (t6:Int):Option Out:=Pe tys (da Out (Gl n)) (Sj n) n (Da [1,0,1,0,0] (aa Tryz.f115)) 0 sn rn K m (s1,(t5,(t6,()))) ()
theorem My (n:Nat) (K:XE→List AV→ia→Option Out):∀ (m:Nat) s1 t5 t6,Rj n K m s1 t5 t6=(Yd n m s1 t5 t6).bind (Nd K)
 | 0,_,_,_=>by kernel_rfl
 | m+1,s1,t5,t6=>by
  have h1:Rj n K (m+1) s1 t5 t6=Pn n s1 t5 t6 (Rj n K m) (fun a=>Nd K (.out a)) (fun a=>Nd K (.ret a)) (fun p=>Nd K (.pan p)):=by kernel_rfl
  have h2:Rj n K m=fun s1 t5 t6=>(Yd n m s1 t5 t6).bind (Nd K):=by
   repeat (refine funext fun _=>?_)
   exact My n K m _ _ _
  rw [h1,h2];exact (JL n m _ _ _ (Nd K)).symm
theorem bK (n:Nat):ie tys (da Out (Gl n)) (Sj n) n (Da [1,0,1,0,0] (aa Tryz.f115)) 0:=Oa (sp:=sn) (rp:=rn) (by kernel_rfl) fun K σ ρ=>My n K n σ.1 σ.2.1 σ.2.2.1
theorem KL (n:Nat):ta tys (da Out (Gl n)) (Sj n) n (aa Tryz.f115) 0:=⟨trivial,⟨⟨trivial,⟨bK n,⟨trivial,⟨⟨trivial,trivial⟩,⟨⟨trivial,⟨trivial,⟨⟨trivial,trivial⟩,trivial⟩⟩⟩,trivial⟩⟩⟩⟩⟩,⟨trivial,trivial⟩⟩⟩
theorem dO (n:Nat):Enters Tryz.prog 115:=enters_of (c:=aa Tryz.f115) Tryz.func115 (by kernel_rfl) (by kernel_rfl)
def bF (n:Nat):Entry:=⟨115,pcT (.pair .str .unit) (.one .bool) (fun xs=>ky n xs.1),none,none⟩
theorem HP (n:Nat):EntryOk Tryz.prog gl (bF n):=
 Qa (dO n) fun xs y h=>ra tys_ok (Gy n) mixed (hint:=Sj n) (n:=n) Tryz.func115 (Pa (KL n)) (la (φ:=(fun y=>some (Out.ret (Vf (.one .bool) y)))) (by kernel_rfl) (nS n xs.1 _) h)
def Tv (n:Nat):List Entry:=bF n::Gl n
theorem Rw (n:Nat):AllOk Tryz.prog gl (Tv n):=.cons (HP n) (Gy n)
def jy (n:Nat) {R:Type} (s:BA) (k:Bool→Option R):Option R:=
 (ky n s).bind fun v=>
 k (!v)
def iy (n:Nat) (s:BA):Option Bool:=jy n s some
theorem lS (n:Nat) {S:Type}:∀ s (φ:_→Option S),(iy n s).bind φ=jy n s φ:=by
 intros;unfold iy jy;first | (simp only [fa,ba,iB,bB,oL,oX,nB,Option.bind_some]) | rfl
def Ly (n:Nat):Hint Out:={ live:=fun c=>[],run:=fun c=>none,xm:=fun c q=>none }
theorem IL (n:Nat):ta tys (da Out (Tv n)) (Ly n) n (aa Tryz.f114) 0:=ma (fun _=>rfl) _ _ (by kernel_rfl)
theorem bO (n:Nat):Enters Tryz.prog 114:=enters_of (c:=aa Tryz.f114) Tryz.func114 (by kernel_rfl) (by kernel_rfl)
def ZE (n:Nat):Entry:=⟨114,pcT (.pair .str .unit) (.one .bool) (fun xs=>iy n xs.1),none,none⟩
theorem FP (n:Nat):EntryOk Tryz.prog gl (ZE n):=
 Qa (bO n) fun xs y h=>ra tys_ok (Rw n) mixed (hint:=Ly n) (n:=n) Tryz.func114 (Pa (IL n)) (la (φ:=(fun y=>some (Out.ret (Vf (.one .bool) y)))) (by kernel_rfl) (lS n xs.1 _) h)
def Kj (n:Nat):List Entry:=ZE n::Tv n
theorem Qw (n:Nat):AllOk Tryz.prog gl (Kj n):=.cons (FP n) (Rw n)
def RI (n:Nat) {R:Type} (s1:(Sq BA)) (t7 t8:Int) (kn:(Sq BA)→Int→Int→Option R) (ko:(Unit)→Option R) (kr:(Int)→Option R) (kp:Int→Option R):Option R:=
 if (decide (t8<t7))=true then
 if 0≤t8∧t8<(s1.n:Int) then
  (iy n (s1.at' (Int.toNat t8))).bind fun v=>
  if v=true then
  kr t8
  else
  kn s1 t7 (IntKind.wrap .i64 (t8+(1:Int)))
 else
  none
 else
 ko ()
def Po (n:Nat):Nat→(Sq BA)→Int→Int→Option (Lx (Unit) (Int))
 | 0,_,_,_=>none
 | m+1,s1,t7,t8=>RI n s1 t7 t8 (Po n m) (fun a=>some (.out a)) (fun a=>some (.ret a)) (fun p=>some (.pan p))
theorem EW (n m:Nat) {S:Type}:∀ s1 t7 t8 (φ:_→Option S),(Po n (m+1) s1 t7 t8).bind φ=RI n s1 t7 t8 (fun s1 t7 t8=>(Po n m s1 t7 t8).bind φ) (fun a=>φ (.out a)) (fun a=>φ (.ret a)) (fun p=>φ (.pan p)):=by
 intros;first | (simp only [Po,RI,fa,ba,iB,bB,oL,oX,nB,Option.bind_some]) | rfl
def mC:List Sl:=.dat (.sl .str)::.fnc 114::tp 5 (.dat (.int .i64)::.dat (.int .i64)::tp 10 [])
def lC:List RS:=[.ghost [.top,.top]]
def SL:List Sl:=tp 19 []
def RL:List RS:=[.ghost [.top,.top]]
def UL:List Sl:=tp 4 (.dat (.int .i64)::tp 14 [])
def TL:List RS:=[.ghost [.top,.top]]
def Hk (K:XE→List AV→ia→Option OutS):Lx (Unit) (Int)→Option OutS:=fun x=>onL x (fun a=>ak SL RL () ((),()) (K (.exit 0))) (fun a=>ak UL TL (a,()) ((),()) (K .ret)) (fun _=>none)
def tS (n:Nat) {R:Type} (s:(Sq BA)) (k:(Int×Unit)→Option R):Option R:=
 (Po n n s (s.n:Int) (0:Int)).bind fun x_1=>onL x_1
 (fun a_2=>
  k ((-1:Int),()))
 (fun a_3=>
  k (a_3,()))
 (fun _=>none)
def JU (n:Nat) (s:(Sq BA)):Option (Int×Unit):=tS n s some
theorem H5 (n:Nat) {S:Type}:∀ s (φ:_→Option S),(JU n s).bind φ=tS n s φ:=by
 intros;unfold JU tS;first | (simp only [fa,ba,iB,bB,oL,oX,nB,Option.bind_some]) | rfl
def oy (n:Nat):Hint OutS:={ live:=fun c=>(cond (Nat.beq c 0) [(0,some (.sl .str)),(1,none),(7,none),(8,none)] []),run:=fun c=>(cond (Nat.beq c 0) (some (aq mC lC fun σ ρ K=>(Po n n σ.1 σ.2.1 σ.2.2.1).bind (Hk K))) none),xm:=fun c q=>(cond (Nat.beq c 0&&Nat.beq (q.getD 1000000) 0&&q.isSome) (some []) (cond (Nat.beq c 1&&q.isNone) (some [(4,none)]) none)) }
def ny (n:Nat) (K:XE→List AV→ia→Option OutS) (m:Nat) (s1:(Sq BA)) (t7:Int) (t8:Int):Option OutS:=Pe tys (da OutS (Kj n)) (oy n) n (Da [1,0,1,0,0] (aa Tryz.f132)) 0 mC lC K m (s1,(t7,(t8,()))) ((),())
theorem lO (n:Nat) (K:XE→List AV→ia→Option OutS):∀ (m:Nat) s1 t7 t8,ny n K m s1 t7 t8=(Po n m s1 t7 t8).bind (Hk K)
 | 0,_,_,_=>by kernel_rfl
 | m+1,s1,t7,t8=>by
  have h1:ny n K (m+1) s1 t7 t8=RI n s1 t7 t8 (ny n K m) (fun a=>Hk K (.out a)) (fun a=>Hk K (.ret a)) (fun p=>Hk K (.pan p)):=by kernel_rfl
  have h2:ny n K m=fun s1 t7 t8=>(Po n m s1 t7 t8).bind (Hk K):=by
   repeat (refine funext fun _=>?_)
   exact lO n K m _ _ _
  rw [h1,h2];exact (EW n m _ _ _ (Hk K)).symm
theorem KU (n:Nat):ie tys (da OutS (Kj n)) (oy n) n (Da [1,0,1,0,0] (aa Tryz.f132)) 0:=Oa (sp:=mC) (rp:=lC) (by kernel_rfl) fun K σ ρ=>lO n K n σ.1 σ.2.1 σ.2.2.1
theorem FW (n:Nat):ta tys (da OutS (Kj n)) (oy n) n (aa Tryz.f132) 0:=⟨trivial,⟨⟨trivial,⟨KU n,⟨trivial,⟨⟨trivial,trivial⟩,⟨⟨trivial,⟨trivial,⟨⟨trivial,trivial⟩,trivial⟩⟩⟩,trivial⟩⟩⟩⟩⟩,⟨trivial,trivial⟩⟩⟩
theorem iZ (n:Nat):Enters Tryz.prog 132:=enters_of (c:=aa Tryz.f132) Tryz.func132 (by kernel_rfl) (by kernel_rfl)
def MU:List RSp:=[.one (.dat (.sl .str)),.one (.fnc 114)]
def LU:List RS:=[]
def jZ:List Sl:=[.top,.top]
def kZ:List RSp:=[.one (.dat (.int .i64))]
def cD:List RS:=[]
def uS (y:(Int×Unit)):OutS:=⟨false,dl (dc cD ()) jZ (),aw (Xt (dc cD ()) kZ ((y.1,()),())),Qo (dc cD ()) cD ()⟩
theorem V2 (n:Nat):EntryOk Tryz.prog gl ⟨132,gf,none,some (csT MU LU (fun σ ρ=>JU n σ.1.1) uS)⟩:=
 Sc (iZ n) fun σ ρ y h=>df tys_ok (Qw n) mixed (hint:=oy n) (n:=n) Tryz.func132 (Pa (FW n)) (la (φ:=fun y=>some (uS y)) (by kernel_rfl) (H5 n σ.1.1 _) h)
def mO (n:Nat):List Entry:=⟨132,gf,none,some (csT MU LU (fun σ ρ=>JU n σ.1.1) uS)⟩::Kj n
theorem iL (n:Nat):AllOk Tryz.prog gl (mO n):=.cons (V2 n) (Qw n)
def rS (n:Nat) {R:Type} (s:(Sq BA)) (k:(Bool×Unit)→Option R):Option R:=
 (JU n s).bind fun v=>
 k ((decide (v.1≥(0:Int))),())
def GU (n:Nat) (s:(Sq BA)):Option (Bool×Unit):=rS n s some
theorem G5 (n:Nat) {S:Type}:∀ s (φ:_→Option S),(GU n s).bind φ=rS n s φ:=by
 intros;unfold GU rS;first | (simp only [fa,ba,iB,bB,oL,oX,nB,Option.bind_some]) | rfl
def kO (n:Nat):Hint OutS:={ live:=fun c=>[],run:=fun c=>none,xm:=fun c q=>none }
theorem DW (n:Nat):ta tys (da OutS (mO n)) (kO n) n (aa Tryz.f106) 0:=ma (fun _=>rfl) _ _ (by kernel_rfl)
theorem eZ (n:Nat):Enters Tryz.prog 106:=enters_of (c:=aa Tryz.f106) Tryz.func106 (by kernel_rfl) (by kernel_rfl)
def IU:List RSp:=[.one (.dat (.sl .str)),.one (.fnc 114)]
def HU:List RS:=[]
def fZ:List Sl:=[.top,.top]
def gZ:List RSp:=[.one (.dat .bool)]
def bD:List RS:=[]
def sS (y:(Bool×Unit)):OutS:=⟨false,dl (dc bD ()) fZ (),aw (Xt (dc bD ()) gZ ((y.1,()),())),Qo (dc bD ()) bD ()⟩
theorem T2 (n:Nat):EntryOk Tryz.prog gl ⟨106,gf,none,some (csT IU HU (fun σ ρ=>GU n σ.1.1) sS)⟩:=
 Sc (eZ n) fun σ ρ y h=>df tys_ok (iL n) mixed (hint:=kO n) (n:=n) Tryz.func106 (Pa (DW n)) (la (φ:=fun y=>some (sS y)) (by kernel_rfl) (G5 n σ.1.1 _) h)
def jO (n:Nat):List Entry:=⟨106,gf,none,some (csT IU HU (fun σ ρ=>GU n σ.1.1) sS)⟩::mO n
theorem gL (n:Nat):AllOk Tryz.prog gl (jO n):=.cons (T2 n) (iL n)
def kG (n:Nat) {R:Type} (r:U21) (k:Bool→Option R):Option R:=
 if (decide (r.1≥(200:Int)))=true then
 if (decide (r.1≤(599:Int)))=true then
  if (decide ((r.2.1.n:Int)≥(1:Int)))=true then
  if (decide ((r.2.1.n:Int)≤(16:Int)))=true then
   (GU n r.2.1).bind fun v=>
   k (!v.1)
  else
   k false
  else
  k false
 else
  k false
 else
 k false
def LI (n:Nat) (r:U21):Option Bool:=kG n r some
theorem zW (n:Nat) {S:Type}:∀ r (φ:_→Option S),(LI n r).bind φ=kG n r φ:=by
 intros;unfold LI kG;first | (simp only [fa,ba,iB,bB,oL,oX,nB,Option.bind_some]) | rfl
def aF (n:Nat):Hint Out:={ live:=fun c=>[],run:=fun c=>none,xm:=fun c q=>none }
theorem GP (n:Nat):ta tys (da Out (jO n)) (aF n) n (aa Tryz.f85) 0:=ma (fun _=>rfl) _ _ (by kernel_rfl)
theorem mS (n:Nat):Enters Tryz.prog 85:=enters_of (c:=aa Tryz.f85) Tryz.func85 (by kernel_rfl) (by kernel_rfl)
def cL (n:Nat):Entry:=⟨85,pcT (.pair (.pair (.int .i64) (.pair (.sl .str) .unit)) .unit) (.one .bool) (fun xs=>LI n xs.1),none,none⟩
theorem CU (n:Nat):EntryOk Tryz.prog gl (cL n):=
 Qa (mS n) fun xs y h=>ra tys_ok (gL n) mixed (hint:=aF n) (n:=n) Tryz.func85 (Pa (GP n)) (la (φ:=(fun y=>some (Out.ret (Vf (.one .bool) y)))) (by kernel_rfl) (zW n xs.1 _) h)
def dL (n:Nat):List Entry:=cL n::jO n
theorem cO (n:Nat):AllOk Tryz.prog gl (dL n):=.cons (CU n) (gL n)
def wC (n:Nat):List Entry:=⟨87,pcT (.pair (.int .i64) .unit) (.one .str) (fun xs=>pR xs.1),none,none⟩::dL n
theorem bJ (n:Nat):AllOk Tryz.prog gl (wC n):=.cons F7 (cO n)
theorem ow:Tryz.prog.funcs[140]?=some Tryz.f140:=by kernel_rfl
theorem pw:EntryOk Tryz.prog gl ⟨140,gf,some .ident,none⟩:=gP ow (by kernel_rfl) (by kernel_rfl) (by kernel_rfl) (by kernel_rfl)
def dg (n:Nat):List Entry:=⟨140,gf,some .ident,none⟩::wC n
theorem Uh (n:Nat):AllOk Tryz.prog gl (dg n):=.cons pw (bJ n)
def xn (n:Nat) {R:Type} (k:Unit→Option R):Option R:=
 k ()
def og (n:Nat):Option Unit:=xn n some
theorem iK (n:Nat) {S:Type}:∀ (φ:_→Option S),(og n).bind φ=xn n φ:=by
 intros;unfold og xn;first | (simp only [fa,ba,iB,bB,oL,oX,nB,Option.bind_some]) | rfl
def kq (n:Nat):Hint OutS:={ live:=fun c=>[],run:=fun c=>none,xm:=fun c q=>none }
theorem mE (n:Nat):ta tys (da OutS (dg n)) (kq n) n (aa Tryz.f116) 0:=ma (fun _=>rfl) _ _ (by kernel_rfl)
theorem tG (n:Nat):Enters Tryz.prog 116:=enters_of (c:=aa Tryz.f116) Tryz.func116 (by kernel_rfl) (by kernel_rfl)
def Eu:List RSp:=[.one (.ptr 0 0 0)]
def Du:List RS:=[.box 126 2 true [.cn .nilp,.cn .nils]]
def uG:List Sl:=[.ptr 0 0 0]
def vG:List RSp:=[]
def bh:List RS:=[.box 126 2 false [.ptr 0 0 0,.cn .nils]]
def yn (y:Unit):OutS:=⟨false,dl (dc bh ((),())) uG (),aw (Xt (dc bh ((),())) vG ()),Qo (dc bh ((),())) bh ((),())⟩
theorem PI (n:Nat):EntryOk Tryz.prog gl ⟨116,gf,none,some (csT Eu Du (fun σ ρ=>og n) yn)⟩:=
 Sc (tG n) fun σ ρ y h=>df tys_ok (Uh n) mixed (hint:=kq n) (n:=n) Tryz.func116 (Pa (mE n)) (la (φ:=fun y=>some (yn y)) (by kernel_rfl) (iK n _) h)
def km (n:Nat):List Entry:=⟨116,gf,none,some (csT Eu Du (fun σ ρ=>og n) yn)⟩::dg n
theorem No (n:Nat):AllOk Tryz.prog gl (km n):=.cons (PI n) (Uh n)
def Dk (n:Nat) {R:Type} (s:BA) (k:U22→Option R):Option R:=
 (og n).bind fun v=>
 if Ta (0+s.size) 1=true then
 k ((s.size:Int),((⟨(0+s.size),fun q=>if q<0 then (fun _=>Ba (.int .u8)) q else (fun (q:Nat)=>bt s q) (q - 0)⟩:Sq Int),()))
 else
 none
def ee (n:Nat) (s:BA):Option U22:=Dk n s some
theorem rG (n:Nat) {S:Type}:∀ s (φ:_→Option S),(ee n s).bind φ=Dk n s φ:=by
 intros;unfold ee Dk;first | (simp only [fa,ba,iB,bB,oL,oX,nB,Option.bind_some]) | rfl
def Nm (n:Nat):Hint OutS:={ live:=fun c=>[],run:=fun c=>none,xm:=fun c q=>none }
theorem Fz (n:Nat):ta tys (da OutS (km n)) (Nm n) n (aa Tryz.f86) 0:=ma (fun _=>rfl) _ _ (by kernel_rfl)
theorem aC (n:Nat):Enters Tryz.prog 86:=enters_of (c:=aa Tryz.f86) Tryz.func86 (by kernel_rfl) (by kernel_rfl)
def fq:List RSp:=[.one (.ptr 0 0 0),.one (.dat .str)]
def dq:List RS:=[.box 126 2 true [.cn .nilp,.cn .nils]]
def cC:List Sl:=[.ptr 0 0 0,.top]
def dC:List RSp:=[.one (.dat (.int .i64)),.one (.cn .nili)]
def Gf:List RS:=[.box 126 2 false [.ptr 0 0 0,.row 1],.row 5 1 (.int .u8) true false]
def Ek (y:U22):OutS:=⟨false,dl (dc Gf ((),(y.2.1,()))) cC (),aw (Xt (dc Gf ((),(y.2.1,()))) dC ((y.1,()),((),()))),Qo (dc Gf ((),(y.2.1,()))) Gf ((),(y.2.1,()))⟩
theorem kE (n:Nat):EntryOk Tryz.prog gl ⟨86,gf,none,some (csT fq dq (fun σ ρ=>ee n σ.2.1.1) Ek)⟩:=
 Sc (aC n) fun σ ρ y h=>df tys_ok (No n) mixed (hint:=Nm n) (n:=n) Tryz.func86 (Pa (Fz n)) (la (φ:=fun y=>some (Ek y)) (by kernel_rfl) (rG n σ.2.1.1 _) h)
def vj (n:Nat):List Entry:=⟨86,gf,none,some (csT fq dq (fun σ ρ=>ee n σ.2.1.1) Ek)⟩::km n
theorem im (n:Nat):AllOk Tryz.prog gl (vj n):=.cons (kE n) (No n)
def Di (n:Nat) {R:Type} (r1:(Sq Int)) (k:U20→Option R):Option R:=
 k (r1,())
def Ce (n:Nat) (r1:(Sq Int)):Option U20:=Di n r1 some
theorem jK (n:Nat) {S:Type}:∀ r1 (φ:_→Option S),(Ce n r1).bind φ=Di n r1 φ:=by
 intros;unfold Ce Di;first | (simp only [fa,ba,iB,bB,oL,oX,nB,Option.bind_some]) | rfl
def lq (n:Nat):Hint OutS:={ live:=fun c=>[],run:=fun c=>none,xm:=fun c q=>none }
theorem nE (n:Nat):ta tys (da OutS (vj n)) (lq n) n (aa Tryz.f116) 0:=ma (fun _=>rfl) _ _ (by kernel_rfl)
theorem wG (n:Nat):Enters Tryz.prog 116:=enters_of (c:=aa Tryz.f116) Tryz.func116 (by kernel_rfl) (by kernel_rfl)
def Gu:List RSp:=[.one (.ptr 0 0 0)]
def Fu:List RS:=[.box 126 2 false [.ptr 0 0 0,.row 1],.row 5 1 (.int .u8) true false]
def xG:List Sl:=[.ptr 0 0 0]
def yG:List RSp:=[]
def ch:List RS:=[.box 126 2 false [.ptr 0 0 0,.row 1],.row 5 1 (.int .u8) true false]
def zn (y:U20):OutS:=⟨false,dl (dc ch ((),(y.1,()))) xG (),aw (Xt (dc ch ((),(y.1,()))) yG ()),Qo (dc ch ((),(y.1,()))) ch ((),(y.1,()))⟩
theorem QI (n:Nat):EntryOk Tryz.prog gl ⟨116,gf,none,some (csT Gu Fu (fun σ ρ=>Ce n ρ.2.1) zn)⟩:=
 Sc (wG n) fun σ ρ y h=>df tys_ok (im n) mixed (hint:=lq n) (n:=n) Tryz.func116 (Pa (nE n)) (la (φ:=fun y=>some (zn y)) (by kernel_rfl) (jK n ρ.2.1 _) h)
def mm (n:Nat):List Entry:=⟨116,gf,none,some (csT Gu Fu (fun σ ρ=>Ce n ρ.2.1) zn)⟩::vj n
theorem Oo (n:Nat):AllOk Tryz.prog gl (mm n):=.cons (QI n) (im n)
def Fk (n:Nat) {R:Type} (s:BA) (r1:(Sq Int)) (k:U22→Option R):Option R:=
 (Ce n r1).bind fun v=>
 if Ta (v.1.n+s.size) 1=true then
 k ((s.size:Int),((⟨(v.1.n+s.size),fun q=>if q<v.1.n then v.1.at' q else (fun (q:Nat)=>bt s q) (q - v.1.n)⟩:Sq Int),()))
 else
 none
def ge (n:Nat) (s:BA) (r1:(Sq Int)):Option U22:=Fk n s r1 some
theorem sG (n:Nat) {S:Type}:∀ s r1 (φ:_→Option S),(ge n s r1).bind φ=Fk n s r1 φ:=by
 intros;unfold ge Fk;first | (simp only [fa,ba,iB,bB,oL,oX,nB,Option.bind_some]) | rfl
def Om (n:Nat):Hint OutS:={ live:=fun c=>[],run:=fun c=>none,xm:=fun c q=>none }
theorem Gz (n:Nat):ta tys (da OutS (mm n)) (Om n) n (aa Tryz.f86) 0:=ma (fun _=>rfl) _ _ (by kernel_rfl)
theorem fC (n:Nat):Enters Tryz.prog 86:=enters_of (c:=aa Tryz.f86) Tryz.func86 (by kernel_rfl) (by kernel_rfl)
def jq:List RSp:=[.one (.ptr 0 0 0),.one (.dat .str)]
def iq:List RS:=[.box 126 2 false [.ptr 0 0 0,.row 1],.row 5 1 (.int .u8) true false]
def iC:List Sl:=[.ptr 0 0 0,.top]
def jC:List RSp:=[.one (.dat (.int .i64)),.one (.cn .nili)]
def Hf:List RS:=[.box 126 2 false [.ptr 0 0 0,.row 1],.row 5 1 (.int .u8) true false]
def Gk (y:U22):OutS:=⟨false,dl (dc Hf ((),(y.2.1,()))) iC (),aw (Xt (dc Hf ((),(y.2.1,()))) jC ((y.1,()),((),()))),Qo (dc Hf ((),(y.2.1,()))) Hf ((),(y.2.1,()))⟩
theorem lE (n:Nat):EntryOk Tryz.prog gl ⟨86,gf,none,some (csT jq iq (fun σ ρ=>ge n σ.2.1.1 ρ.2.1) Gk)⟩:=
 Sc (fC n) fun σ ρ y h=>df tys_ok (Oo n) mixed (hint:=Om n) (n:=n) Tryz.func86 (Pa (Gz n)) (la (φ:=fun y=>some (Gk y)) (by kernel_rfl) (sG n σ.2.1.1 ρ.2.1 _) h)
def wj (n:Nat):List Entry:=⟨86,gf,none,some (csT jq iq (fun σ ρ=>ge n σ.2.1.1 ρ.2.1) Gk)⟩::mm n
theorem jm (n:Nat):AllOk Tryz.prog gl (wj n):=.cons (lE n) (Oo n)
def Qn (n:Nat) {R:Type} (r1:(Sq Int)) (k:(BA×Unit)→Option R):Option R:=
 if (r1.n:Int)=(r1.n:Int)∧(r1.n:Int)≤9223372036854775807 then
 k ((Oh r1.n r1.at'),())
 else
 none
def Zd (n:Nat) (r1:(Sq Int)):Option (BA×Unit):=Qn n r1 some
theorem LP (n:Nat) {S:Type}:∀ r1 (φ:_→Option S),(Zd n r1).bind φ=Qn n r1 φ:=by
 intros;unfold Zd Qn;first | (simp only [fa,ba,iB,bB,oL,oX,nB,Option.bind_some]) | rfl
def Tw (n:Nat):Hint OutS:={ live:=fun c=>[],run:=fun c=>none,xm:=fun c q=>none,sch:=fun c=>(cond (Nat.beq c 1) (some [(0,0),(1,0),(2,0),(5,0),(6,0),(7,0),(3,1),(8,1),(9,0),(4,3),(10,2),(11,0)]) none) }
theorem dK (n:Nat):ta tys (da OutS (wj n)) (Tw n) n (aa Tryz.f88) 0:=ma (fun _=>rfl) _ _ (by kernel_rfl)
theorem LL (n:Nat):Enters Tryz.prog 88:=enters_of (c:=aa Tryz.f88) Tryz.func88 (by kernel_rfl) (by kernel_rfl)
def XB:List RSp:=[.one (.ptr 0 0 0)]
def WB:List RS:=[.box 126 2 false [.ptr 0 0 0,.row 1],.row 5 1 (.int .u8) true false]
def ML:List Sl:=[.ptr 0 0 0]
def NL:List RSp:=[.one (.dat .str)]
def Tj:List RS:=[.box 126 2 false [.ptr 0 0 0,.top]]
def Uv (y:(BA×Unit)):OutS:=⟨false,dl (dc Tj ((),())) ML (),aw (Xt (dc Tj ((),())) NL ((y.1,()),())),Qo (dc Tj ((),())) Tj ((),())⟩
theorem hO (n:Nat):EntryOk Tryz.prog gl ⟨88,gf,none,some (csT XB WB (fun σ ρ=>Zd n ρ.2.1) Uv)⟩:=
 Sc (LL n) fun σ ρ y h=>df tys_ok (jm n) mixed (hint:=Tw n) (n:=n) Tryz.func88 (Pa (dK n)) (la (φ:=fun y=>some (Uv y)) (by kernel_rfl) (LP n ρ.2.1 _) h)
def jt (n:Nat):List Entry:=⟨88,gf,none,some (csT XB WB (fun σ ρ=>Zd n ρ.2.1) Uv)⟩::wj n
theorem wu (n:Nat):AllOk Tryz.prog gl (jt n):=.cons (hO n) (jm n)
def Rn (n:Nat) {R:Type} (k:(BA×Unit)→Option R):Option R:=
 if ((0:Nat):Int)=0 then
 k ((⟨#[]⟩:BA),())
 else
 none
def ni (n:Nat):Option (BA×Unit):=Rn n some
theorem MP (n:Nat) {S:Type}:∀ (φ:_→Option S),(ni n).bind φ=Rn n φ:=by
 intros;unfold ni Rn;first | (simp only [fa,ba,iB,bB,oL,oX,nB,Option.bind_some]) | rfl
def Uw (n:Nat):Hint OutS:={ live:=fun c=>[],run:=fun c=>none,xm:=fun c q=>none,sch:=fun c=>(cond (Nat.beq c 1) (some [(0,0),(1,0),(2,0),(5,0),(6,0),(7,0),(3,1),(8,1),(9,0),(4,3),(10,2),(11,0)]) none) }
theorem eK (n:Nat):ta tys (da OutS (jt n)) (Uw n) n (aa Tryz.f88) 0:=ma (fun _=>rfl) _ _ (by kernel_rfl)
theorem OL (n:Nat):Enters Tryz.prog 88:=enters_of (c:=aa Tryz.f88) Tryz.func88 (by kernel_rfl) (by kernel_rfl)
def ZB:List RSp:=[.one (.ptr 0 0 0)]
def YB:List RS:=[.box 126 2 true [.cn .nilp,.cn .nils]]
def PL:List Sl:=[.ptr 0 0 0]
def QL:List RSp:=[.one (.dat .str)]
def Uj:List RS:=[.box 126 2 true [.cn .nilp,.cn .nils]]
def Vv (y:(BA×Unit)):OutS:=⟨false,dl (dc Uj ((),())) PL (),aw (Xt (dc Uj ((),())) QL ((y.1,()),())),Qo (dc Uj ((),())) Uj ((),())⟩
theorem iO (n:Nat):EntryOk Tryz.prog gl ⟨88,gf,none,some (csT ZB YB (fun σ ρ=>ni n) Vv)⟩:=
 Sc (OL n) fun σ ρ y h=>df tys_ok (wu n) mixed (hint:=Uw n) (n:=n) Tryz.func88 (Pa (eK n)) (la (φ:=fun y=>some (Vv y)) (by kernel_rfl) (MP n _) h)
def pi (n:Nat):List Entry:=⟨88,gf,none,some (csT ZB YB (fun σ ρ=>ni n) Vv)⟩::jt n
theorem xu (n:Nat):AllOk Tryz.prog gl (pi n):=.cons (iO n) (wu n)
def On (n:Nat) {R:Type} (t12:(Sq BA)) (t13 t14 r1:Int) (r2:(Sq BA)) (r21:(Sq Int)) (kn:(Sq BA)→Int→Int→Int→(Sq BA)→(Sq Int)→Option R) (ko:((Sq Int))→Option R) (kr:Unit→Option R) (kp:Int→Option R):Option R:=
 if (decide (t14<t13))=true then
 if 0≤t14∧t14<(t12.n:Int) then
  if (t14==(IntKind.wrap .i64 ((r2.n:Int) - (1:Int))))=true then
  (pR r1).bind fun v3=>
  if Ca v3 (⟨#[32]⟩:BA)=true then
   if Ca (v3++(⟨#[32]⟩:BA)) (t12.at' (Int.toNat t14))=true then
   if Ca ((v3++(⟨#[32]⟩:BA))++(t12.at' (Int.toNat t14))) (⟨#[13,10]⟩:BA)=true then
    (ge n (((v3++(⟨#[32]⟩:BA))++(t12.at' (Int.toNat t14)))++(⟨#[13,10]⟩:BA)) r21).bind fun v4=>
    kn t12 t13 (IntKind.wrap .i64 (t14+(1:Int))) r1 r2 v4.2.1
   else
    none
   else
   none
  else
   none
  else
  (pR r1).bind fun v5=>
  if Ca v5 (⟨#[45]⟩:BA)=true then
   if Ca (v5++(⟨#[45]⟩:BA)) (t12.at' (Int.toNat t14))=true then
   if Ca ((v5++(⟨#[45]⟩:BA))++(t12.at' (Int.toNat t14))) (⟨#[13,10]⟩:BA)=true then
    (ge n (((v5++(⟨#[45]⟩:BA))++(t12.at' (Int.toNat t14)))++(⟨#[13,10]⟩:BA)) r21).bind fun v6=>
    kn t12 t13 (IntKind.wrap .i64 (t14+(1:Int))) r1 r2 v6.2.1
   else
    none
   else
   none
  else
   none
 else
  none
 else
 ko r21
def Bd (n:Nat):Nat→(Sq BA)→Int→Int→Int→(Sq BA)→(Sq Int)→Option (Lx ((Sq Int)) Unit)
 | 0,_,_,_,_,_,_=>none
 | m+1,t12,t13,t14,r1,r2,r21=>On n t12 t13 t14 r1 r2 r21 (Bd n m) (fun a=>some (.out a)) (fun a=>some (.ret a)) (fun p=>some (.pan p))
theorem GL (n m:Nat) {S:Type}:∀ t12 t13 t14 r1 r2 r21 (φ:_→Option S),(Bd n (m+1) t12 t13 t14 r1 r2 r21).bind φ=On n t12 t13 t14 r1 r2 r21 (fun t12 t13 t14 r1 r2 r21=>(Bd n m t12 t13 t14 r1 r2 r21).bind φ) (fun a=>φ (.out a)) (fun a=>φ (.ret a)) (fun p=>φ (.pan p)):=by
 intros;first | (simp only [Bd,On,fa,ba,iB,bB,oL,oX,nB,Option.bind_some]) | rfl
def qn:List Sl:=.top::.ptr 0 0 0::.top::.top::.ptr 1 0 0::tp 7 (.dat (.sl .str)::.dat (.int .i64)::.dat (.int .i64)::tp 21 [])
def ln:List RS:=[.box 94 2 true [.dat (.int .i64),.dat (.sl .str)],.box 126 2 false [.ptr 1 0 0,.row 2],.row 5 1 (.int .u8) true false]
def PB:List Sl:=tp 4 (.ptr 0 0 0::tp 31 [])
def OB:List RS:=[.box 126 2 false [.ptr 0 0 0,.row 1],.row 5 1 (.int .u8) true false]
def Md (K:XE→List AV→ia→Option Out):Lx ((Sq Int)) Unit→Option Out:=fun x=>onL x (fun a=>ak PB OB () ((),(a,())) (K (.exit 0))) (fun _=>none) (fun _=>none)
def gy (n:Nat) {R:Type} (r:U21) (k:(BA×Int×Unit)→Option R):Option R:=
 (LI n (r.1,(r.2.1,()))).bind fun v=>
 if (!v)=true then
 k ((⟨#[]⟩:BA),((1:Int),()))
 else
 if (decide ((0:Int)<(r.2.1.n:Int)))=true then
  if 0≤(0:Int)∧(0:Int)<(r.2.1.n:Int) then
  if ((0:Int)==(IntKind.wrap .i64 ((r.2.1.n:Int) - (1:Int))))=true then
   (pR r.1).bind fun v1=>
   if Ca v1 (⟨#[32]⟩:BA)=true then
   if Ca (v1++(⟨#[32]⟩:BA)) (r.2.1.at' (Int.toNat (0:Int)))=true then
    if Ca ((v1++(⟨#[32]⟩:BA))++(r.2.1.at' (Int.toNat (0:Int)))) (⟨#[13,10]⟩:BA)=true then
    (ee n (((v1++(⟨#[32]⟩:BA))++(r.2.1.at' (Int.toNat (0:Int))))++(⟨#[13,10]⟩:BA))).bind fun v2=>
    (Bd n n r.2.1 (r.2.1.n:Int) (IntKind.wrap .i64 ((0:Int)+(1:Int))) r.1 r.2.1 v2.2.1).bind fun x_1=>onL x_1
     (fun a_2=>
     (Zd n a_2).bind fun v7=>
     k (v7.1,((0:Int),())))
     (fun _=>none)
     (fun _=>none)
    else
    none
   else
    none
   else
   none
  else
   (pR r.1).bind fun v8=>
   if Ca v8 (⟨#[45]⟩:BA)=true then
   if Ca (v8++(⟨#[45]⟩:BA)) (r.2.1.at' (Int.toNat (0:Int)))=true then
    if Ca ((v8++(⟨#[45]⟩:BA))++(r.2.1.at' (Int.toNat (0:Int)))) (⟨#[13,10]⟩:BA)=true then
    (ee n (((v8++(⟨#[45]⟩:BA))++(r.2.1.at' (Int.toNat (0:Int))))++(⟨#[13,10]⟩:BA))).bind fun v9=>
    (Bd n n r.2.1 (r.2.1.n:Int) (IntKind.wrap .i64 ((0:Int)+(1:Int))) r.1 r.2.1 v9.2.1).bind fun x_3=>onL x_3
     (fun a_4=>
     (Zd n a_4).bind fun v10=>
     k (v10.1,((0:Int),())))
     (fun _=>none)
     (fun _=>none)
    else
    none
   else
    none
   else
   none
  else
  none
 else
  (ni n).bind fun v11=>
  k (v11.1,((0:Int),()))
def fy (n:Nat) (r:U21):Option (BA×Int×Unit):=gy n r some
theorem kS (n:Nat) {S:Type}:∀ r (φ:_→Option S),(fy n r).bind φ=gy n r φ:=by
 intros;unfold fy gy;first | (simp only [fa,ba,iB,bB,oL,oX,nB,Option.bind_some]) | rfl
def Qj (n:Nat):Hint Out:={ live:=fun c=>(cond (Nat.beq c 0) [(1,none),(4,none),(12,some (.sl .str)),(13,none),(14,none)] []),run:=fun c=>(cond (Nat.beq c 0) (some (aq qn ln fun σ ρ K=>(Bd n n σ.1 σ.2.1 σ.2.2.1 ρ.1.1 ρ.1.2.1 ρ.2.2.1).bind (Md K))) none),xm:=fun c q=>(cond (Nat.beq c 0&&Nat.beq (q.getD 1000000) 0&&q.isSome) (some [(4,none)]) none),pl:=fun c=>Nat.beq c 0 }
def Pj (n:Nat) (K:XE→List AV→ia→Option Out) (m:Nat) (t12:(Sq BA)) (t13:Int) (t14:Int) (r1:Int) (r2:(Sq BA)) (r21:(Sq Int)):Option Out:=Pe tys (da Out (pi n)) (Qj n) n (Da [1,1,1,0,1,0,0] (aa Tryz.f50)) 0 qn ln K m (t12,(t13,(t14,()))) ((r1,(r2,())),((),(r21,())))
theorem Ky (n:Nat) (K:XE→List AV→ia→Option Out):∀ (m:Nat) t12 t13 t14 r1 r2 r21,Pj n K m t12 t13 t14 r1 r2 r21=(Bd n m t12 t13 t14 r1 r2 r21).bind (Md K)
 | 0,_,_,_,_,_,_=>by kernel_rfl
 | m+1,t12,t13,t14,r1,r2,r21=>by
  have h1:Pj n K (m+1) t12 t13 t14 r1 r2 r21=On n t12 t13 t14 r1 r2 r21 (Pj n K m) (fun a=>Md K (.out a)) (fun a=>Md K (.ret a)) (fun p=>Md K (.pan p)):=by kernel_rfl
  have h2:Pj n K m=fun t12 t13 t14 r1 r2 r21=>(Bd n m t12 t13 t14 r1 r2 r21).bind (Md K):=by
   repeat (refine funext fun _=>?_)
   exact Ky n K m _ _ _ _ _ _
  rw [h1,h2];exact (GL n m _ _ _ _ _ _ (Md K)).symm
theorem aK (n:Nat):ie tys (da Out (pi n)) (Qj n) n (Da [1,1,1,0,1,0,0] (aa Tryz.f50)) 0:=Oa (sp:=qn) (rp:=ln) (by kernel_rfl) fun K σ ρ=>Ky n K n σ.1 σ.2.1 σ.2.2.1 ρ.1.1 ρ.1.2.1 ρ.2.2.1
theorem HL (n:Nat):ta tys (da Out (pi n)) (Qj n) n (aa Tryz.f50) 0:=⟨trivial,⟨⟨trivial,⟨⟨trivial,trivial⟩,trivial⟩⟩,⟨trivial,⟨⟨trivial,⟨aK n,⟨trivial,⟨⟨trivial,trivial⟩,⟨⟨trivial,⟨trivial,⟨⟨trivial,⟨trivial,trivial⟩⟩,trivial⟩⟩⟩,trivial⟩⟩⟩⟩⟩,⟨trivial,trivial⟩⟩⟩⟩⟩
theorem aO (n:Nat):Enters Tryz.prog 50:=enters_of (c:=aa Tryz.f50) Tryz.func50 (by kernel_rfl) (by kernel_rfl)
def YE (n:Nat):Entry:=⟨50,pcT (.pair (.pair (.int .i64) (.pair (.sl .str) .unit)) .unit) (.many (.pair .str (.pair (.int .i64) .unit))) (fun xs=>fy n xs.1),none,none⟩
theorem EP (n:Nat):EntryOk Tryz.prog gl (YE n):=
 Qa (aO n) fun xs y h=>ra tys_ok (xu n) mixed (hint:=Qj n) (n:=n) Tryz.func50 (Pa (HL n)) (la (φ:=(fun y=>some (Out.ret (Vf (.many (.pair .str (.pair (.int .i64) .unit))) y)))) (by kernel_rfl) (kS n xs.1 _) h)
def Sv (n:Nat):List Entry:=YE n::pi n
theorem Pw (n:Nat):AllOk Tryz.prog gl (Sv n):=.cons (EP n) (xu n)
def lB (n:Nat) {R:Type} (code:Int) (k:BA→Option R):Option R:=
 (JC n code).bind fun v=>
 (fy n (code,((⟨1,fun q=>List.getD (α:=BA) [v] q (Ba .str)⟩:Sq BA),()))).bind fun v1=>
 k v1.1
def de (n:Nat) (code:Int):Option BA:=lB n code some
theorem UT (n:Nat) {S:Type}:∀ code (φ:_→Option S),(de n code).bind φ=lB n code φ:=by
 intros;unfold de lB;first | (simp only [fa,ba,iB,bB,oL,oX,nB,Option.bind_some]) | rfl
def mB (n:Nat):Hint Out:={ live:=fun c=>[],run:=fun c=>none,xm:=fun c q=>none }
theorem qN (n:Nat):ta tys (da Out (Sv n)) (mB n) n (aa Tryz.f33) 0:=ma (fun _=>rfl) _ _ (by kernel_rfl)
theorem kP (n:Nat):Enters Tryz.prog 33:=enters_of (c:=aa Tryz.f33) Tryz.func33 (by kernel_rfl) (by kernel_rfl)
def BH (n:Nat):Entry:=⟨33,pcT (.pair (.int .i64) .unit) (.one .str) (fun xs=>de n xs.1),none,none⟩
theorem xR (n:Nat):EntryOk Tryz.prog gl (BH n):=
 Qa (kP n) fun xs y h=>ra tys_ok (Pw n) mixed (hint:=mB n) (n:=n) Tryz.func33 (Pa (qN n)) (la (φ:=(fun y=>some (Out.ret (Vf (.one .str) y)))) (by kernel_rfl) (UT n xs.1 _) h)
def Qx (n:Nat):List Entry:=BH n::Sv n
theorem Fy (n:Nat):AllOk Tryz.prog gl (Qx n):=.cons (xR n) (Pw n)
def Dh (n:Nat) {R:Type} (code:Int) (b0:Bool) (b01:(Sq Int)) (b02:BA) (b03:Bool) (b04 b05:BA) (b06:Bool) (b07:BA) (r1 r2:(Sq BA)) (k:U0→Option R):Option R:=
 (de n code).bind fun v=>
 if Ca b07 v=true then
 k (b0,(b01,(b02,(b03,(b04,(b05,(b06,((b07++v),(r1,(r2,()))))))))))
 else
 none
def ua (n:Nat) (code:Int) (b0:Bool) (b01:(Sq Int)) (b02:BA) (b03:Bool) (b04 b05:BA) (b06:Bool) (b07:BA) (r1 r2:(Sq BA)):Option U0:=Dh n code b0 b01 b02 b03 b04 b05 b06 b07 r1 r2 some
theorem zH (n:Nat) {S:Type}:∀ code b0 b01 b02 b03 b04 b05 b06 b07 r1 r2 (φ:_→Option S),(ua n code b0 b01 b02 b03 b04 b05 b06 b07 r1 r2).bind φ=Dh n code b0 b01 b02 b03 b04 b05 b06 b07 r1 r2 φ:=by
 intros;unfold ua Dh;first | (simp only [fa,ba,iB,bB,oL,oX,nB,Option.bind_some]) | rfl
def qo (n:Nat):Hint OutS:={ live:=fun c=>[],run:=fun c=>none,xm:=fun c q=>none,sch:=fun c=>(cond (Nat.beq c 0) (some [(0,0),(1,0),(2,0),(4,0),(3,1),(5,3),(6,0),(7,0),(8,0),(9,2)]) none),nb:=[(71,1,.frz (.int .i64)),(71,5,.prm 9),(71,8,.prm 9)] }
theorem ZA (n:Nat):ta tys (da OutS (Qx n)).keep (qo n) n (aa Tryz.f55) 0:=ma (fun _=>rfl) _ _ (by kernel_rfl)
theorem JD (n:Nat):Enters Tryz.prog 55:=enters_of (c:=aa Tryz.f55) Tryz.func55 (by kernel_rfl) (by kernel_rfl)
def Ur:List RSp:=[.one (.ptr 0 0 0),.one (.dat (.int .i64))]
def Tr:List RS:=[.box 71 10 false [.dat .bool,.dat (.sl (.int .i64)),.dat .str,.dat .bool,.dat .str,.row 1,.dat .str,.dat .bool,.row 2,.dat .str],.row 9 1 .str true true,.row 9 1 .str true true]
def KD:List Sl:=[.ptr 0 0 0,.top]
def LD:List RSp:=[]
def Zf:List RS:=[.box 71 10 false [.dat .bool,.dat (.sl (.int .i64)),.dat .str,.dat .bool,.dat .str,.row 1,.dat .str,.dat .bool,.row 2,.dat .str],.row 9 1 .str true true,.row 9 1 .str true true]
def Cl (y:U0):OutS:=⟨false,dl (dc Zf ((y.1,(y.2.1,(y.2.2.1,(y.2.2.2.1,(y.2.2.2.2.1,(y.2.2.2.2.2.1,(y.2.2.2.2.2.2.1,(y.2.2.2.2.2.2.2.1,())))))))),(y.2.2.2.2.2.2.2.2.1,(y.2.2.2.2.2.2.2.2.2.1,())))) KD (),aw (Xt (dc Zf ((y.1,(y.2.1,(y.2.2.1,(y.2.2.2.1,(y.2.2.2.2.1,(y.2.2.2.2.2.1,(y.2.2.2.2.2.2.1,(y.2.2.2.2.2.2.2.1,())))))))),(y.2.2.2.2.2.2.2.2.1,(y.2.2.2.2.2.2.2.2.2.1,())))) LD ()),Qo (dc Zf ((y.1,(y.2.1,(y.2.2.1,(y.2.2.2.1,(y.2.2.2.2.1,(y.2.2.2.2.2.1,(y.2.2.2.2.2.2.1,(y.2.2.2.2.2.2.2.1,())))))))),(y.2.2.2.2.2.2.2.2.1,(y.2.2.2.2.2.2.2.2.2.1,())))) Zf ((y.1,(y.2.1,(y.2.2.1,(y.2.2.2.1,(y.2.2.2.2.1,(y.2.2.2.2.2.1,(y.2.2.2.2.2.2.1,(y.2.2.2.2.2.2.2.1,())))))))),(y.2.2.2.2.2.2.2.2.1,(y.2.2.2.2.2.2.2.2.2.1,())))⟩
theorem KF (n:Nat):EntryOk Tryz.prog gl ⟨55,gf,none,some (csT Ur Tr (fun σ ρ=>ua n σ.2.1.1 ρ.1.1 ρ.1.2.1 ρ.1.2.2.1 ρ.1.2.2.2.1 ρ.1.2.2.2.2.1 ρ.1.2.2.2.2.2.1 ρ.1.2.2.2.2.2.2.1 ρ.1.2.2.2.2.2.2.2.1 ρ.2.1 ρ.2.2.1) Cl)⟩:=
 Sc (JD n) fun σ ρ y h=>db tys_ok (Fy n) mixed (hint:=qo n) (n:=n) Tryz.func55 (Pa (ZA n)) (la (φ:=fun y=>some (Cl y)) (by kernel_rfl) (zH n σ.2.1.1 ρ.1.1 ρ.1.2.1 ρ.1.2.2.1 ρ.1.2.2.2.1 ρ.1.2.2.2.2.1 ρ.1.2.2.2.2.2.1 ρ.1.2.2.2.2.2.2.1 ρ.1.2.2.2.2.2.2.2.1 ρ.2.1 ρ.2.2.1 _) h)
def tk (n:Nat):List Entry:=⟨55,gf,none,some (csT Ur Tr (fun σ ρ=>ua n σ.2.1.1 ρ.1.1 ρ.1.2.1 ρ.1.2.2.1 ρ.1.2.2.2.1 ρ.1.2.2.2.2.1 ρ.1.2.2.2.2.2.1 ρ.1.2.2.2.2.2.2.1 ρ.1.2.2.2.2.2.2.2.1 ρ.2.1 ρ.2.2.1) Cl)⟩::Qx n
theorem Gm (n:Nat):AllOk Tryz.prog gl (tk n):=.cons (KF n) (Fy n)
def Hn (n:Nat) {R:Type} (s prefix0:BA) (k:Bool→Option R):Option R:=
 if (decide ((s.size:Int)≥(prefix0.size:Int)))=true then
 if 0≤(prefix0.size:Int)∧(prefix0.size:Int)≤(s.size:Int) then
  k ((s.extract (Int.toNat (0:Int)) (Int.toNat (prefix0.size:Int))).toList==prefix0.toList)
 else
  none
 else
 k false
def rg (n:Nat) (s prefix0:BA):Option Bool:=Hn n s prefix0 some
theorem cP (n:Nat) {S:Type}:∀ s prefix0 (φ:_→Option S),(rg n s prefix0).bind φ=Hn n s prefix0 φ:=by
 intros;unfold rg Hn;first | (simp only [fa,ba,iB,bB,oL,oX,nB,Option.bind_some]) | rfl
def lw (n:Nat):Hint Out:={ live:=fun c=>[],run:=fun c=>none,xm:=fun c q=>none }
theorem wJ (n:Nat):ta tys (da Out (tk n)) (lw n) n (aa Tryz.f94) 0:=ma (fun _=>rfl) _ _ (by kernel_rfl)
theorem rL (n:Nat):Enters Tryz.prog 94:=enters_of (c:=aa Tryz.f94) Tryz.func94 (by kernel_rfl) (by kernel_rfl)
def fA (n:Nat):Entry:=⟨94,pcT (.pair .str (.pair .str .unit)) (.one .bool) (fun xs=>rg n xs.1 xs.2.1),none,none⟩
theorem ZM (n:Nat):EntryOk Tryz.prog gl (fA n):=
 Qa (rL n) fun xs y h=>ra tys_ok (Gm n) mixed (hint:=lw n) (n:=n) Tryz.func94 (Pa (wJ n)) (la (φ:=(fun y=>some (Out.ret (Vf (.one .bool) y)))) (by kernel_rfl) (cP n xs.1 xs.2.1 _) h)
def Br (n:Nat):List Entry:=fA n::tk n
theorem au (n:Nat):AllOk Tryz.prog gl (Br n):=.cons (ZM n) (Gm n)
def il (n:Nat) {R:Type} (s prefix0:BA) (k:BA→Option R):Option R:=
 (rg n s prefix0).bind fun v=>
 if v=true then
 if 0≤(prefix0.size:Int)∧(prefix0.size:Int)≤(s.size:Int) then
  k (s.extract (Int.toNat (prefix0.size:Int)) (Int.toNat (s.size:Int)))
 else
  none
 else
 k s
def fl (n:Nat) (s prefix0:BA):Option BA:=il n s prefix0 some
theorem cN (n:Nat) {S:Type}:∀ s prefix0 (φ:_→Option S),(fl n s prefix0).bind φ=il n s prefix0 φ:=by
 intros;unfold fl il;first | (simp only [fa,ba,iB,bB,oL,oX,nB,Option.bind_some]) | rfl
def du (n:Nat):Hint Out:={ live:=fun c=>[],run:=fun c=>none,xm:=fun c q=>none }
theorem uH (n:Nat):ta tys (da Out (Br n)) (du n) n (aa Tryz.f119) 0:=ma (fun _=>rfl) _ _ (by kernel_rfl)
theorem zJ (n:Nat):Enters Tryz.prog 119:=enters_of (c:=aa Tryz.f119) Tryz.func119 (by kernel_rfl) (by kernel_rfl)
def Cy (n:Nat):Entry:=⟨119,pcT (.pair .str (.pair .str .unit)) (.one .str) (fun xs=>fl n xs.1 xs.2.1),none,none⟩
theorem uL (n:Nat):EntryOk Tryz.prog gl (Cy n):=
 Qa (zJ n) fun xs y h=>ra tys_ok (au n) mixed (hint:=du n) (n:=n) Tryz.func119 (Pa (uH n)) (la (φ:=(fun y=>some (Out.ret (Vf (.one .str) y)))) (by kernel_rfl) (cN n xs.1 xs.2.1 _) h)
def Wo (n:Nat):List Entry:=Cy n::Br n
theorem Er (n:Nat):AllOk Tryz.prog gl (Wo n):=.cons (uL n) (au n)
def qm (n:Nat) {R:Type} (s prefix0:BA) (k:BA→Option R):Option R:=
 (fl n s prefix0).bind fun v=>
 k v
def Ei (n:Nat) (s prefix0:BA):Option BA:=qm n s prefix0 some
theorem xO (n:Nat) {S:Type}:∀ s prefix0 (φ:_→Option S),(Ei n s prefix0).bind φ=qm n s prefix0 φ:=by
 intros;unfold Ei qm;first | (simp only [fa,ba,iB,bB,oL,oX,nB,Option.bind_some]) | rfl
def Ku (n:Nat):Hint Out:={ live:=fun c=>[],run:=fun c=>none,xm:=fun c q=>none }
theorem aJ (n:Nat):ta tys (da Out (Wo n)) (Ku n) n (aa Tryz.f90) 0:=ma (fun _=>rfl) _ _ (by kernel_rfl)
theorem pK (n:Nat):Enters Tryz.prog 90:=enters_of (c:=aa Tryz.f90) Tryz.func90 (by kernel_rfl) (by kernel_rfl)
def Ny (n:Nat):Entry:=⟨90,pcT (.pair .str (.pair .str .unit)) (.one .str) (fun xs=>Ei n xs.1 xs.2.1),none,none⟩
theorem YL (n:Nat):EntryOk Tryz.prog gl (Ny n):=
 Qa (pK n) fun xs y h=>ra tys_ok (Er n) mixed (hint:=Ku n) (n:=n) Tryz.func90 (Pa (aJ n)) (la (φ:=(fun y=>some (Out.ret (Vf (.one .str) y)))) (by kernel_rfl) (xO n xs.1 xs.2.1 _) h)
def np (n:Nat):List Entry:=Ny n::Wo n
theorem tt (n:Nat):AllOk Tryz.prog gl (np n):=.cons (YL n) (Er n)
def qx (n:Nat) {R:Type} (line:BA) (k:(BA×Bool×Unit)→Option R):Option R:=
 if (line.toList==(⟨#[46]⟩:BA).toList)=true then
 k ((⟨#[]⟩:BA),(true,()))
 else
 (Ei n line (⟨#[46]⟩:BA)).bind fun v=>
 k (v,(false,()))
def xr (n:Nat) (line:BA):Option (BA×Bool×Unit):=qx n line some
theorem FV (n:Nat) {S:Type}:∀ line (φ:_→Option S),(xr n line).bind φ=qx n line φ:=by
 intros;unfold xr qx;first | (simp only [fa,ba,iB,bB,oL,oX,nB,Option.bind_some]) | rfl
def yE (n:Nat):Hint Out:={ live:=fun c=>[],run:=fun c=>none,xm:=fun c q=>none }
theorem TO (n:Nat):ta tys (da Out (np n)) (yE n) n (aa Tryz.f56) 0:=ma (fun _=>rfl) _ _ (by kernel_rfl)
theorem eR (n:Nat):Enters Tryz.prog 56:=enters_of (c:=aa Tryz.f56) Tryz.func56 (by kernel_rfl) (by kernel_rfl)
def KK (n:Nat):Entry:=⟨56,pcT (.pair .str .unit) (.many (.pair .str (.pair .bool .unit))) (fun xs=>xr n xs.1),none,none⟩
theorem oT (n:Nat):EntryOk Tryz.prog gl (KK n):=
 Qa (eR n) fun xs y h=>ra tys_ok (tt n) mixed (hint:=yE n) (n:=n) Tryz.func56 (Pa (TO n)) (la (φ:=(fun y=>some (Out.ret (Vf (.many (.pair .str (.pair .bool .unit))) y)))) (by kernel_rfl) (FV n xs.1 _) h)
def Uz (n:Nat):List Entry:=KK n::np n
theorem Vz (n:Nat):AllOk Tryz.prog gl (Uz n):=.cons (oT n) (tt n)
def Eh (n:Nat) {R:Type} (code:Int) (b0:Bool) (b01:(Sq Int)) (b02:BA) (b03:Bool) (b04:BA) (b05:(Sq BA)) (b06:BA) (b07:Bool) (b08:BA) (r1:(Sq BA)) (k:U10→Option R):Option R:=
 (de n code).bind fun v=>
 if Ca b08 v=true then
 k (b0,(b01,(b02,(b03,(b04,(b05,(b06,(b07,((b08++v),(r1,()))))))))))
 else
 none
def Sb (n:Nat) (code:Int) (b0:Bool) (b01:(Sq Int)) (b02:BA) (b03:Bool) (b04:BA) (b05:(Sq BA)) (b06:BA) (b07:Bool) (b08:BA) (r1:(Sq BA)):Option U10:=Eh n code b0 b01 b02 b03 b04 b05 b06 b07 b08 r1 some
theorem AH (n:Nat) {S:Type}:∀ code b0 b01 b02 b03 b04 b05 b06 b07 b08 r1 (φ:_→Option S),(Sb n code b0 b01 b02 b03 b04 b05 b06 b07 b08 r1).bind φ=Eh n code b0 b01 b02 b03 b04 b05 b06 b07 b08 r1 φ:=by
 intros;unfold Sb Eh;first | (simp only [fa,ba,iB,bB,oL,oX,nB,Option.bind_some]) | rfl
def ro (n:Nat):Hint OutS:={ live:=fun c=>[],run:=fun c=>none,xm:=fun c q=>none,sch:=fun c=>(cond (Nat.beq c 0) (some [(0,0),(1,0),(2,0),(4,0),(3,1),(5,3),(6,0),(7,0),(8,0),(9,2)]) none),nb:=[(71,1,.frz (.int .i64)),(71,5,.prm 9),(71,8,.prm 9)] }
theorem aB (n:Nat):ta tys (da OutS (Uz n)).keep (ro n) n (aa Tryz.f55) 0:=ma (fun _=>rfl) _ _ (by kernel_rfl)
theorem MD (n:Nat):Enters Tryz.prog 55:=enters_of (c:=aa Tryz.f55) Tryz.func55 (by kernel_rfl) (by kernel_rfl)
def Wr:List RSp:=[.one (.ptr 0 0 0),.one (.dat (.int .i64))]
def Vr:List RS:=[.box 71 10 false [.dat .bool,.dat (.sl (.int .i64)),.dat .str,.dat .bool,.dat .str,.dat (.sl .str),.dat .str,.dat .bool,.row 1,.dat .str],.row 9 1 .str true true]
def ND:List Sl:=[.ptr 0 0 0,.top]
def OD:List RSp:=[]
def bg:List RS:=[.box 71 10 false [.dat .bool,.dat (.sl (.int .i64)),.dat .str,.dat .bool,.dat .str,.dat (.sl .str),.dat .str,.dat .bool,.row 1,.dat .str],.row 9 1 .str true true]
def Dl (y:U10):OutS:=⟨false,dl (dc bg ((y.1,(y.2.1,(y.2.2.1,(y.2.2.2.1,(y.2.2.2.2.1,(y.2.2.2.2.2.1,(y.2.2.2.2.2.2.1,(y.2.2.2.2.2.2.2.1,(y.2.2.2.2.2.2.2.2.1,()))))))))),(y.2.2.2.2.2.2.2.2.2.1,()))) ND (),aw (Xt (dc bg ((y.1,(y.2.1,(y.2.2.1,(y.2.2.2.1,(y.2.2.2.2.1,(y.2.2.2.2.2.1,(y.2.2.2.2.2.2.1,(y.2.2.2.2.2.2.2.1,(y.2.2.2.2.2.2.2.2.1,()))))))))),(y.2.2.2.2.2.2.2.2.2.1,()))) OD ()),Qo (dc bg ((y.1,(y.2.1,(y.2.2.1,(y.2.2.2.1,(y.2.2.2.2.1,(y.2.2.2.2.2.1,(y.2.2.2.2.2.2.1,(y.2.2.2.2.2.2.2.1,(y.2.2.2.2.2.2.2.2.1,()))))))))),(y.2.2.2.2.2.2.2.2.2.1,()))) bg ((y.1,(y.2.1,(y.2.2.1,(y.2.2.2.1,(y.2.2.2.2.1,(y.2.2.2.2.2.1,(y.2.2.2.2.2.2.1,(y.2.2.2.2.2.2.2.1,(y.2.2.2.2.2.2.2.2.1,()))))))))),(y.2.2.2.2.2.2.2.2.2.1,()))⟩
theorem LF (n:Nat):EntryOk Tryz.prog gl ⟨55,gf,none,some (csT Wr Vr (fun σ ρ=>Sb n σ.2.1.1 ρ.1.1 ρ.1.2.1 ρ.1.2.2.1 ρ.1.2.2.2.1 ρ.1.2.2.2.2.1 ρ.1.2.2.2.2.2.1 ρ.1.2.2.2.2.2.2.1 ρ.1.2.2.2.2.2.2.2.1 ρ.1.2.2.2.2.2.2.2.2.1 ρ.2.1) Dl)⟩:=
 Sc (MD n) fun σ ρ y h=>db tys_ok (Vz n) mixed (hint:=ro n) (n:=n) Tryz.func55 (Pa (aB n)) (la (φ:=fun y=>some (Dl y)) (by kernel_rfl) (AH n σ.2.1.1 ρ.1.1 ρ.1.2.1 ρ.1.2.2.1 ρ.1.2.2.2.1 ρ.1.2.2.2.2.1 ρ.1.2.2.2.2.2.1 ρ.1.2.2.2.2.2.2.1 ρ.1.2.2.2.2.2.2.2.1 ρ.1.2.2.2.2.2.2.2.2.1 ρ.2.1 _) h)
def uk (n:Nat):List Entry:=⟨55,gf,none,some (csT Wr Vr (fun σ ρ=>Sb n σ.2.1.1 ρ.1.1 ρ.1.2.1 ρ.1.2.2.1 ρ.1.2.2.2.1 ρ.1.2.2.2.2.1 ρ.1.2.2.2.2.2.1 ρ.1.2.2.2.2.2.2.1 ρ.1.2.2.2.2.2.2.2.1 ρ.1.2.2.2.2.2.2.2.2.1 ρ.2.1) Dl)⟩::Uz n
theorem Hm (n:Nat):AllOk Tryz.prog gl (uk n):=.cons (LF n) (Vz n)
def Xf (n:Nat) {R:Type} (b0:Bool) (b01:(Sq Int)) (b02:BA) (b03:Bool) (b04:BA) (b05:(Sq BA)) (b06:BA) (b07:Bool) (b08:BA) (r1:(Sq BA)) (k:U15→Option R):Option R:=
 if (decide ((b01.n:Int)>(0:Int)))=true then
 if 0≤(0:Int)∧(0:Int)<(b01.n:Int) then
  if (decide ((b01.at' (Int.toNat (0:Int)))≥(400:Int)))=true then
  if (decide ((b01.at' (Int.toNat (0:Int)))≤(599:Int)))=true then
   if 0≤(1:Int)∧(1:Int)≤(b01.n:Int) then
   (Sb n (b01.at' (Int.toNat (0:Int))) b0 (⟨((Int.toNat (b01.n:Int)) - (Int.toNat (1:Int))),fun j_0=>b01.at' ((Int.toNat (1:Int))+j_0)⟩:Sq Int) b02 b03 b04 b05 b06 b07 b08 r1).bind fun v=>
   k (((b01.at' (Int.toNat (0:Int)))==(250:Int)),(v.1,(v.2.1,(v.2.2.1,(v.2.2.2.1,(v.2.2.2.2.1,(v.2.2.2.2.2.1,(v.2.2.2.2.2.2.1,(v.2.2.2.2.2.2.2.1,(v.2.2.2.2.2.2.2.2.1,(v.2.2.2.2.2.2.2.2.2.1,())))))))))))
   else
   none
  else
   if 0≤(1:Int)∧(1:Int)≤(b01.n:Int) then
   (Sb n (250:Int) b0 (⟨((Int.toNat (b01.n:Int)) - (Int.toNat (1:Int))),fun j_0=>b01.at' ((Int.toNat (1:Int))+j_0)⟩:Sq Int) b02 b03 b04 b05 b06 b07 b08 r1).bind fun v1=>
   k (((250:Int)==(250:Int)),(v1.1,(v1.2.1,(v1.2.2.1,(v1.2.2.2.1,(v1.2.2.2.2.1,(v1.2.2.2.2.2.1,(v1.2.2.2.2.2.2.1,(v1.2.2.2.2.2.2.2.1,(v1.2.2.2.2.2.2.2.2.1,(v1.2.2.2.2.2.2.2.2.2.1,())))))))))))
   else
   none
  else
  if 0≤(1:Int)∧(1:Int)≤(b01.n:Int) then
   (Sb n (250:Int) b0 (⟨((Int.toNat (b01.n:Int)) - (Int.toNat (1:Int))),fun j_0=>b01.at' ((Int.toNat (1:Int))+j_0)⟩:Sq Int) b02 b03 b04 b05 b06 b07 b08 r1).bind fun v2=>
   k (((250:Int)==(250:Int)),(v2.1,(v2.2.1,(v2.2.2.1,(v2.2.2.2.1,(v2.2.2.2.2.1,(v2.2.2.2.2.2.1,(v2.2.2.2.2.2.2.1,(v2.2.2.2.2.2.2.2.1,(v2.2.2.2.2.2.2.2.2.1,(v2.2.2.2.2.2.2.2.2.2.1,())))))))))))
  else
   none
 else
  none
 else
 (Sb n (250:Int) b0 b01 b02 b03 b04 b05 b06 b07 b08 r1).bind fun v3=>
 k (((250:Int)==(250:Int)),(v3.1,(v3.2.1,(v3.2.2.1,(v3.2.2.2.1,(v3.2.2.2.2.1,(v3.2.2.2.2.2.1,(v3.2.2.2.2.2.2.1,(v3.2.2.2.2.2.2.2.1,(v3.2.2.2.2.2.2.2.2.1,(v3.2.2.2.2.2.2.2.2.2.1,())))))))))))
def Ab (n:Nat) (b0:Bool) (b01:(Sq Int)) (b02:BA) (b03:Bool) (b04:BA) (b05:(Sq BA)) (b06:BA) (b07:Bool) (b08:BA) (r1:(Sq BA)):Option U15:=Xf n b0 b01 b02 b03 b04 b05 b06 b07 b08 r1 some
theorem BD (n:Nat) {S:Type}:∀ b0 b01 b02 b03 b04 b05 b06 b07 b08 r1 (φ:_→Option S),(Ab n b0 b01 b02 b03 b04 b05 b06 b07 b08 r1).bind φ=Xf n b0 b01 b02 b03 b04 b05 b06 b07 b08 r1 φ:=by
 intros;unfold Ab Xf;first | (simp only [fa,ba,iB,bB,oL,oX,nB,Option.bind_some]) | rfl
def ul (n:Nat):Hint OutS:={ live:=fun c=>[],run:=fun c=>none,xm:=fun c q=>none,nb:=[(71,1,.frz (.int .i64)),(71,5,.prm 9),(71,8,.prm 9)] }
theorem Hx (n:Nat):ta tys (da OutS (uk n)).keep (ul n) n (aa Tryz.f91) 0:=ma (fun _=>rfl) _ _ (by kernel_rfl)
theorem az (n:Nat):Enters Tryz.prog 91:=enters_of (c:=aa Tryz.f91) Tryz.func91 (by kernel_rfl) (by kernel_rfl)
def mo:List RSp:=[.one (.ptr 0 0 0)]
def io:List RS:=[.box 71 10 false [.dat .bool,.dat (.sl (.int .i64)),.dat .str,.dat .bool,.dat .str,.dat (.sl .str),.dat .str,.dat .bool,.row 1,.dat .str],.row 9 1 .str true true]
def bz:List Sl:=[.ptr 0 0 0]
def cz:List RSp:=[.one (.dat .bool)]
def He:List RS:=[.box 71 10 false [.dat .bool,.dat (.sl (.int .i64)),.dat .str,.dat .bool,.dat .str,.dat (.sl .str),.dat .str,.dat .bool,.row 1,.dat .str],.row 9 1 .str true true]
def bj (y:U15):OutS:=⟨false,dl (dc He ((y.2.1,(y.2.2.1,(y.2.2.2.1,(y.2.2.2.2.1,(y.2.2.2.2.2.1,(y.2.2.2.2.2.2.1,(y.2.2.2.2.2.2.2.1,(y.2.2.2.2.2.2.2.2.1,(y.2.2.2.2.2.2.2.2.2.1,()))))))))),(y.2.2.2.2.2.2.2.2.2.2.1,()))) bz (),aw (Xt (dc He ((y.2.1,(y.2.2.1,(y.2.2.2.1,(y.2.2.2.2.1,(y.2.2.2.2.2.1,(y.2.2.2.2.2.2.1,(y.2.2.2.2.2.2.2.1,(y.2.2.2.2.2.2.2.2.1,(y.2.2.2.2.2.2.2.2.2.1,()))))))))),(y.2.2.2.2.2.2.2.2.2.2.1,()))) cz ((y.1,()),())),Qo (dc He ((y.2.1,(y.2.2.1,(y.2.2.2.1,(y.2.2.2.2.1,(y.2.2.2.2.2.1,(y.2.2.2.2.2.2.1,(y.2.2.2.2.2.2.2.1,(y.2.2.2.2.2.2.2.2.1,(y.2.2.2.2.2.2.2.2.2.1,()))))))))),(y.2.2.2.2.2.2.2.2.2.2.1,()))) He ((y.2.1,(y.2.2.1,(y.2.2.2.1,(y.2.2.2.2.1,(y.2.2.2.2.2.1,(y.2.2.2.2.2.2.1,(y.2.2.2.2.2.2.2.1,(y.2.2.2.2.2.2.2.2.1,(y.2.2.2.2.2.2.2.2.2.1,()))))))))),(y.2.2.2.2.2.2.2.2.2.2.1,()))⟩
theorem FA (n:Nat):EntryOk Tryz.prog gl ⟨91,gf,none,some (csT mo io (fun σ ρ=>Ab n ρ.1.1 ρ.1.2.1 ρ.1.2.2.1 ρ.1.2.2.2.1 ρ.1.2.2.2.2.1 ρ.1.2.2.2.2.2.1 ρ.1.2.2.2.2.2.2.1 ρ.1.2.2.2.2.2.2.2.1 ρ.1.2.2.2.2.2.2.2.2.1 ρ.2.1) bj)⟩:=
 Sc (az n) fun σ ρ y h=>db tys_ok (Hm n) mixed (hint:=ul n) (n:=n) Tryz.func91 (Pa (Hx n)) (la (φ:=fun y=>some (bj y)) (by kernel_rfl) (BD n ρ.1.1 ρ.1.2.1 ρ.1.2.2.1 ρ.1.2.2.2.1 ρ.1.2.2.2.2.1 ρ.1.2.2.2.2.2.1 ρ.1.2.2.2.2.2.2.1 ρ.1.2.2.2.2.2.2.2.1 ρ.1.2.2.2.2.2.2.2.2.1 ρ.2.1 _) h)
def Yh (n:Nat):List Entry:=⟨91,gf,none,some (csT mo io (fun σ ρ=>Ab n ρ.1.1 ρ.1.2.1 ρ.1.2.2.1 ρ.1.2.2.2.1 ρ.1.2.2.2.2.1 ρ.1.2.2.2.2.2.1 ρ.1.2.2.2.2.2.2.1 ρ.1.2.2.2.2.2.2.2.1 ρ.1.2.2.2.2.2.2.2.2.1 ρ.2.1) bj)⟩::uk n
theorem Qk (n:Nat):AllOk Tryz.prog gl (Yh n):=.cons (FA n) (Hm n)
def ed (n:Nat) {R:Type} (to:BA) (b0:Bool) (b01:(Sq Int)) (b02:BA) (b03:Bool) (b04:BA) (b05:(Sq BA)) (b06:BA) (b07:Bool) (b08:BA) (r1:(Sq BA)) (k:U10→Option R):Option R:=
 dup 1 (
 if Ta (r1.n+3) 16=true then
  k (b0,(b01,(b02,(b03,(b04,(b05,(b06,(b07,(b08,((⟨(r1.n+3),fun q=>if q<r1.n then r1.at' q else (fun q=>List.getD (α:=BA) [b04,to,b06] q (Ba .str)) (q - r1.n)⟩:Sq BA),()))))))))))
 else
  none)
def Ib (n:Nat) (to:BA) (b0:Bool) (b01:(Sq Int)) (b02:BA) (b03:Bool) (b04:BA) (b05:(Sq BA)) (b06:BA) (b07:Bool) (b08:BA) (r1:(Sq BA)):Option U10:=ed n to b0 b01 b02 b03 b04 b05 b06 b07 b08 r1 some
theorem MF (n:Nat) {S:Type}:∀ to b0 b01 b02 b03 b04 b05 b06 b07 b08 r1 (φ:_→Option S),(Ib n to b0 b01 b02 b03 b04 b05 b06 b07 b08 r1).bind φ=ed n to b0 b01 b02 b03 b04 b05 b06 b07 b08 r1 φ:=by
 intros;unfold Ib ed;first | (simp only [fa,ba,iB,bB,oL,oX,nB,Option.bind_some]) | rfl
def Im (n:Nat):Hint OutS:={ live:=fun c=>[],run:=fun c=>none,xm:=fun c q=>none,sch:=fun c=>(cond (Nat.beq c 0) (some [(0,0),(1,0),(2,0),(3,0),(5,0),(6,0),(7,0),(9,0),(10,0),(11,0),(12,0),(8,1),(13,1),(14,5),(4,7),(15,2),(16,6),(17,6),(18,2)]) none),nb:=[(71,1,.frz (.int .i64)),(71,5,.prm 9),(71,8,.prm 9)] }
theorem oz (n:Nat):ta tys (da OutS (Yh n)).keep (Im n) n (aa Tryz.f92) 0:=ma (fun _=>rfl) _ _ (by kernel_rfl)
theorem dB (n:Nat):Enters Tryz.prog 92:=enters_of (c:=aa Tryz.f92) Tryz.func92 (by kernel_rfl) (by kernel_rfl)
def Sp:List RSp:=[.one (.ptr 0 0 0),.one (.dat .str)]
def Rp:List RS:=[.box 71 10 false [.dat .bool,.dat (.sl (.int .i64)),.dat .str,.dat .bool,.dat .str,.dat (.sl .str),.dat .str,.dat .bool,.row 1,.dat .str],.row 9 1 .str true true]
def fB:List Sl:=[.ptr 0 0 0,.top]
def jB:List RSp:=[]
def xf:List RS:=[.box 71 10 false [.dat .bool,.dat (.sl (.int .i64)),.dat .str,.dat .bool,.dat .str,.dat (.sl .str),.dat .str,.dat .bool,.row 1,.dat .str],.row 9 1 .str true true]
def vk (y:U10):OutS:=⟨false,dl (dc xf ((y.1,(y.2.1,(y.2.2.1,(y.2.2.2.1,(y.2.2.2.2.1,(y.2.2.2.2.2.1,(y.2.2.2.2.2.2.1,(y.2.2.2.2.2.2.2.1,(y.2.2.2.2.2.2.2.2.1,()))))))))),(y.2.2.2.2.2.2.2.2.2.1,()))) fB (),aw (Xt (dc xf ((y.1,(y.2.1,(y.2.2.1,(y.2.2.2.1,(y.2.2.2.2.1,(y.2.2.2.2.2.1,(y.2.2.2.2.2.2.1,(y.2.2.2.2.2.2.2.1,(y.2.2.2.2.2.2.2.2.1,()))))))))),(y.2.2.2.2.2.2.2.2.2.1,()))) jB ()),Qo (dc xf ((y.1,(y.2.1,(y.2.2.1,(y.2.2.2.1,(y.2.2.2.2.1,(y.2.2.2.2.2.1,(y.2.2.2.2.2.2.1,(y.2.2.2.2.2.2.2.1,(y.2.2.2.2.2.2.2.2.1,()))))))))),(y.2.2.2.2.2.2.2.2.2.1,()))) xf ((y.1,(y.2.1,(y.2.2.1,(y.2.2.2.1,(y.2.2.2.2.1,(y.2.2.2.2.2.1,(y.2.2.2.2.2.2.1,(y.2.2.2.2.2.2.2.1,(y.2.2.2.2.2.2.2.2.1,()))))))))),(y.2.2.2.2.2.2.2.2.2.1,()))⟩
theorem PD (n:Nat):EntryOk Tryz.prog gl ⟨92,gf,none,some (csT Sp Rp (fun σ ρ=>Ib n σ.2.1.1 ρ.1.1 ρ.1.2.1 ρ.1.2.2.1 ρ.1.2.2.2.1 ρ.1.2.2.2.2.1 ρ.1.2.2.2.2.2.1 ρ.1.2.2.2.2.2.2.1 ρ.1.2.2.2.2.2.2.2.1 ρ.1.2.2.2.2.2.2.2.2.1 ρ.2.1) vk)⟩:=
 Sc (dB n) fun σ ρ y h=>db tys_ok (Qk n) mixed (hint:=Im n) (n:=n) Tryz.func92 (Pa (oz n)) (la (φ:=fun y=>some (vk y)) (by kernel_rfl) (MF n σ.2.1.1 ρ.1.1 ρ.1.2.1 ρ.1.2.2.1 ρ.1.2.2.2.1 ρ.1.2.2.2.2.1 ρ.1.2.2.2.2.2.1 ρ.1.2.2.2.2.2.2.1 ρ.1.2.2.2.2.2.2.2.1 ρ.1.2.2.2.2.2.2.2.2.1 ρ.2.1 _) h)
def pj (n:Nat):List Entry:=⟨92,gf,none,some (csT Sp Rp (fun σ ρ=>Ib n σ.2.1.1 ρ.1.1 ρ.1.2.1 ρ.1.2.2.1 ρ.1.2.2.2.1 ρ.1.2.2.2.2.1 ρ.1.2.2.2.2.2.1 ρ.1.2.2.2.2.2.2.1 ρ.1.2.2.2.2.2.2.2.1 ρ.1.2.2.2.2.2.2.2.2.1 ρ.2.1) vk)⟩::Yh n
theorem Fl (n:Nat):AllOk Tryz.prog gl (pj n):=.cons (PD n) (Qk n)
def ek (n:Nat) {R:Type} (b0:Bool) (b01:(Sq Int)) (b02:BA) (b03:Bool) (b04:BA) (b05:(Sq BA)) (b06:BA) (b07:Bool) (b08:BA) (r1:(Sq BA)) (k:U0→Option R):Option R:=
 k (b0,(b01,(b02,(b03,((⟨#[]⟩:BA),((⟨#[]⟩:BA),(false,(b08,((⟨0,fun _=>Ba .str⟩:Sq BA),(r1,()))))))))))
def Vb (n:Nat) (b0:Bool) (b01:(Sq Int)) (b02:BA) (b03:Bool) (b04:BA) (b05:(Sq BA)) (b06:BA) (b07:Bool) (b08:BA) (r1:(Sq BA)):Option U0:=ek n b0 b01 b02 b03 b04 b05 b06 b07 b08 r1 some
theorem DF (n:Nat) {S:Type}:∀ b0 b01 b02 b03 b04 b05 b06 b07 b08 r1 (φ:_→Option S),(Vb n b0 b01 b02 b03 b04 b05 b06 b07 b08 r1).bind φ=ek n b0 b01 b02 b03 b04 b05 b06 b07 b08 r1 φ:=by
 intros;unfold Vb ek;first | (simp only [fa,ba,iB,bB,oL,oX,nB,Option.bind_some]) | rfl
def zm (n:Nat):Hint OutS:={ live:=fun c=>[],run:=fun c=>none,xm:=fun c q=>none,nb:=[(71,1,.frz (.int .i64)),(71,5,.prm 9),(71,8,.prm 9)] }
theorem Yy (n:Nat):ta tys (da OutS (pj n)).keep (zm n) n (aa Tryz.f93) 0:=ma (fun _=>rfl) _ _ (by kernel_rfl)
theorem xA (n:Nat):Enters Tryz.prog 93:=enters_of (c:=aa Tryz.f93) Tryz.func93 (by kernel_rfl) (by kernel_rfl)
def Dp:List RSp:=[.one (.ptr 0 0 0)]
def Cp:List RS:=[.box 71 10 false [.dat .bool,.dat (.sl (.int .i64)),.dat .str,.dat .bool,.dat .str,.dat (.sl .str),.dat .str,.dat .bool,.row 1,.dat .str],.row 9 1 .str true true]
def yA:List Sl:=[.ptr 0 0 0]
def AA:List RSp:=[]
def mf:List RS:=[.box 71 10 false [.dat .bool,.dat (.sl (.int .i64)),.dat .str,.dat .bool,.dat .str,.row 1,.dat .str,.dat .bool,.row 2,.dat .str],.row 9 1 .str true true,.row 9 1 .str true true]
def fk (y:U0):OutS:=⟨false,dl (dc mf ((y.1,(y.2.1,(y.2.2.1,(y.2.2.2.1,(y.2.2.2.2.1,(y.2.2.2.2.2.1,(y.2.2.2.2.2.2.1,(y.2.2.2.2.2.2.2.1,())))))))),(y.2.2.2.2.2.2.2.2.1,(y.2.2.2.2.2.2.2.2.2.1,())))) yA (),aw (Xt (dc mf ((y.1,(y.2.1,(y.2.2.1,(y.2.2.2.1,(y.2.2.2.2.1,(y.2.2.2.2.2.1,(y.2.2.2.2.2.2.1,(y.2.2.2.2.2.2.2.1,())))))))),(y.2.2.2.2.2.2.2.2.1,(y.2.2.2.2.2.2.2.2.2.1,())))) AA ()),Qo (dc mf ((y.1,(y.2.1,(y.2.2.1,(y.2.2.2.1,(y.2.2.2.2.1,(y.2.2.2.2.2.1,(y.2.2.2.2.2.2.1,(y.2.2.2.2.2.2.2.1,())))))))),(y.2.2.2.2.2.2.2.2.1,(y.2.2.2.2.2.2.2.2.2.1,())))) mf ((y.1,(y.2.1,(y.2.2.1,(y.2.2.2.1,(y.2.2.2.2.1,(y.2.2.2.2.2.1,(y.2.2.2.2.2.2.1,(y.2.2.2.2.2.2.2.1,())))))))),(y.2.2.2.2.2.2.2.2.1,(y.2.2.2.2.2.2.2.2.2.1,())))⟩
theorem zD (n:Nat):EntryOk Tryz.prog gl ⟨93,gf,none,some (csT Dp Cp (fun σ ρ=>Vb n ρ.1.1 ρ.1.2.1 ρ.1.2.2.1 ρ.1.2.2.2.1 ρ.1.2.2.2.2.1 ρ.1.2.2.2.2.2.1 ρ.1.2.2.2.2.2.2.1 ρ.1.2.2.2.2.2.2.2.1 ρ.1.2.2.2.2.2.2.2.2.1 ρ.2.1) fk)⟩:=
 Sc (xA n) fun σ ρ y h=>db tys_ok (Fl n) mixed (hint:=zm n) (n:=n) Tryz.func93 (Pa (Yy n)) (la (φ:=fun y=>some (fk y)) (by kernel_rfl) (DF n ρ.1.1 ρ.1.2.1 ρ.1.2.2.1 ρ.1.2.2.2.1 ρ.1.2.2.2.2.1 ρ.1.2.2.2.2.2.1 ρ.1.2.2.2.2.2.2.1 ρ.1.2.2.2.2.2.2.2.1 ρ.1.2.2.2.2.2.2.2.2.1 ρ.2.1 _) h)
def Qd (n:Nat):List Entry:=⟨93,gf,none,some (csT Dp Cp (fun σ ρ=>Vb n ρ.1.1 ρ.1.2.1 ρ.1.2.2.1 ρ.1.2.2.2.1 ρ.1.2.2.2.2.1 ρ.1.2.2.2.2.2.1 ρ.1.2.2.2.2.2.2.1 ρ.1.2.2.2.2.2.2.2.1 ρ.1.2.2.2.2.2.2.2.2.1 ρ.2.1) fk)⟩::pj n
theorem rl (n:Nat):AllOk Tryz.prog gl (Qd n):=.cons (zD n) (Fl n)
def La (n:Nat) {R:Type} (ok:Bool) (t17:(Sq BA)) (t18 t19:Int) (p:Bool) (p1:(Sq Int)) (p2:BA) (p3:Bool) (p4:BA) (p5:(Sq BA)) (p6:BA) (p7:Bool) (p8:BA) (r11:(Sq BA)) (kn:Bool→(Sq BA)→Int→Int→Bool→(Sq Int)→BA→Bool→BA→(Sq BA)→BA→Bool→BA→(Sq BA)→Option R) (ko:U19→Option R) (kr:Unit→Option R) (kp:Int→Option R):Option R:=
 if (decide (t19<t18))=true then
 if 0≤t19∧t19<(t17.n:Int) then
  if ok=false then
  if p=true then
   (Ab n p p1 p2 p3 p4 p5 p6 p7 p8 r11).bind fun v1=>
   if v1.1=true then
   (Ib n (t17.at' (Int.toNat t19)) v1.2.1 v1.2.2.1 v1.2.2.2.1 v1.2.2.2.2.1 v1.2.2.2.2.2.1 v1.2.2.2.2.2.2.1 v1.2.2.2.2.2.2.2.1 v1.2.2.2.2.2.2.2.2.1 v1.2.2.2.2.2.2.2.2.2.1 v1.2.2.2.2.2.2.2.2.2.2.1).bind fun v2=>
   kn ok t17 t18 (IntKind.wrap .i64 (t19+(1:Int))) v2.1 v2.2.1 v2.2.2.1 v2.2.2.2.1 v2.2.2.2.2.1 v2.2.2.2.2.2.1 v2.2.2.2.2.2.2.1 v2.2.2.2.2.2.2.2.1 v2.2.2.2.2.2.2.2.2.1 v2.2.2.2.2.2.2.2.2.2.1
   else
   kn ok t17 t18 (IntKind.wrap .i64 (t19+(1:Int))) v1.2.1 v1.2.2.1 v1.2.2.2.1 v1.2.2.2.2.1 v1.2.2.2.2.2.1 v1.2.2.2.2.2.2.1 v1.2.2.2.2.2.2.2.1 v1.2.2.2.2.2.2.2.2.1 v1.2.2.2.2.2.2.2.2.2.1 v1.2.2.2.2.2.2.2.2.2.2.1
  else
   kn ok t17 t18 (IntKind.wrap .i64 (t19+(1:Int))) p p1 p2 p3 p4 p5 p6 p7 p8 r11
  else
  (Ib n (t17.at' (Int.toNat t19)) p p1 p2 p3 p4 p5 p6 p7 p8 r11).bind fun v3=>
  kn ok t17 t18 (IntKind.wrap .i64 (t19+(1:Int))) v3.1 v3.2.1 v3.2.2.1 v3.2.2.2.1 v3.2.2.2.2.1 v3.2.2.2.2.2.1 v3.2.2.2.2.2.2.1 v3.2.2.2.2.2.2.2.1 v3.2.2.2.2.2.2.2.2.1 v3.2.2.2.2.2.2.2.2.2.1
 else
  none
 else
 ko (p,p1,p2,p3,p4,p5,p6,p7,p8,r11)
def ya (n:Nat):Nat→Bool→(Sq BA)→Int→Int→Bool→(Sq Int)→BA→Bool→BA→(Sq BA)→BA→Bool→BA→(Sq BA)→Option (Lx U19 Unit)
 | 0,_,_,_,_,_,_,_,_,_,_,_,_,_,_=>none
 | m+1,ok,t17,t18,t19,p,p1,p2,p3,p4,p5,p6,p7,p8,r11=>La n ok t17 t18 t19 p p1 p2 p3 p4 p5 p6 p7 p8 r11 (ya n m) (fun a=>some (.out a)) (fun a=>some (.ret a)) (fun p=>some (.pan p))
theorem jz (n m:Nat) {S:Type}:∀ ok t17 t18 t19 p p1 p2 p3 p4 p5 p6 p7 p8 r11 (φ:_→Option S),(ya n (m+1) ok t17 t18 t19 p p1 p2 p3 p4 p5 p6 p7 p8 r11).bind φ=La n ok t17 t18 t19 p p1 p2 p3 p4 p5 p6 p7 p8 r11 (fun ok t17 t18 t19 p p1 p2 p3 p4 p5 p6 p7 p8 r11=>(ya n m ok t17 t18 t19 p p1 p2 p3 p4 p5 p6 p7 p8 r11).bind φ) (fun a=>φ (.out a)) (fun a=>φ (.ret a)) (fun p=>φ (.pan p)):=by
 intros;first | (simp only [ya,La,fa,ba,iB,bB,oL,oX,nB,Option.bind_some]) | rfl
def Gg:List Sl:=.ptr 0 0 0::.top::.dat .bool::tp 14 (.dat (.sl .str)::.dat (.int .i64)::.dat (.int .i64)::tp 20 [])
def Fg:List RS:=[.box 71 10 false [.dat .bool,.dat (.sl (.int .i64)),.dat .str,.dat .bool,.dat .str,.dat (.sl .str),.dat .str,.dat .bool,.row 1,.dat .str],.row 9 1 .str true true,.ghost [.ptr 0 0 0]]
def Sr:List Sl:=.ptr 0 0 0::tp 39 []
def Qr:List RS:=[.box 71 10 false [.dat .bool,.dat (.sl (.int .i64)),.dat .str,.dat .bool,.dat .str,.dat (.sl .str),.dat .str,.dat .bool,.row 1,.dat .str],.row 9 1 .str true true,.ghost [.ptr 0 0 0]]
def Nb (K:XE→List AV→ia→Option OutS):Lx U19 Unit→Option OutS:=fun x=>onL x (fun a=>ak Sr Qr () ((a.1,(a.2.1,(a.2.2.1,(a.2.2.2.1,(a.2.2.2.2.1,(a.2.2.2.2.2.1,(a.2.2.2.2.2.2.1,(a.2.2.2.2.2.2.2.1,(a.2.2.2.2.2.2.2.2.1,()))))))))),(a.2.2.2.2.2.2.2.2.2,((),()))) (K (.exit 0))) (fun _=>none) (fun _=>none)
def bd (n:Nat) {R:Type} (b0:Bool) (b01:(Sq Int)) (b02:BA) (b03:Bool) (b04 b05:BA) (b06:Bool) (b07:BA) (r1 r2:(Sq BA)) (k:U0→Option R):Option R:=
 if (!b0)=true then
 (Ab n b0 b01 b02 b03 b04 r1 b05 b06 b07 r2).bind fun v=>
 (ya n n v.1 v.2.2.2.2.2.2.1 (v.2.2.2.2.2.2.1.n:Int) (0:Int) v.2.1 v.2.2.1 v.2.2.2.1 v.2.2.2.2.1 v.2.2.2.2.2.1 v.2.2.2.2.2.2.1 v.2.2.2.2.2.2.2.1 v.2.2.2.2.2.2.2.2.1 v.2.2.2.2.2.2.2.2.2.1 v.2.2.2.2.2.2.2.2.2.2.1).bind fun x_1=>onL x_1
  (fun a_2=>
  (Vb n a_2.1 a_2.2.1 a_2.2.2.1 a_2.2.2.2.1 a_2.2.2.2.2.1 a_2.2.2.2.2.2.1 a_2.2.2.2.2.2.2.1 a_2.2.2.2.2.2.2.2.1 a_2.2.2.2.2.2.2.2.2.1 a_2.2.2.2.2.2.2.2.2.2).bind fun v4=>
  k (v4.1,(v4.2.1,(v4.2.2.1,(v4.2.2.2.1,(v4.2.2.2.2.1,(v4.2.2.2.2.2.1,(v4.2.2.2.2.2.2.1,(v4.2.2.2.2.2.2.2.1,(v4.2.2.2.2.2.2.2.2.1,(v4.2.2.2.2.2.2.2.2.2.1,())))))))))))
  (fun _=>none)
  (fun _=>none)
 else
 (ya n n false r1 (r1.n:Int) (0:Int) b0 b01 b02 b03 b04 r1 b05 b06 b07 r2).bind fun x_3=>onL x_3
  (fun a_4=>
  (Vb n a_4.1 a_4.2.1 a_4.2.2.1 a_4.2.2.2.1 a_4.2.2.2.2.1 a_4.2.2.2.2.2.1 a_4.2.2.2.2.2.2.1 a_4.2.2.2.2.2.2.2.1 a_4.2.2.2.2.2.2.2.2.1 a_4.2.2.2.2.2.2.2.2.2).bind fun v5=>
  k (v5.1,(v5.2.1,(v5.2.2.1,(v5.2.2.2.1,(v5.2.2.2.2.1,(v5.2.2.2.2.2.1,(v5.2.2.2.2.2.2.1,(v5.2.2.2.2.2.2.2.1,(v5.2.2.2.2.2.2.2.2.1,(v5.2.2.2.2.2.2.2.2.2.1,())))))))))))
  (fun _=>none)
  (fun _=>none)
def Wb (n:Nat) (b0:Bool) (b01:(Sq Int)) (b02:BA) (b03:Bool) (b04 b05:BA) (b06:Bool) (b07:BA) (r1 r2:(Sq BA)):Option U0:=bd n b0 b01 b02 b03 b04 b05 b06 b07 r1 r2 some
theorem GF (n:Nat) {S:Type}:∀ b0 b01 b02 b03 b04 b05 b06 b07 r1 r2 (φ:_→Option S),(Wb n b0 b01 b02 b03 b04 b05 b06 b07 r1 r2).bind φ=bd n b0 b01 b02 b03 b04 b05 b06 b07 r1 r2 φ:=by
 intros;unfold Wb bd;first | (simp only [fa,ba,iB,bB,oL,oX,nB,Option.bind_some]) | rfl
def Ke (n:Nat):Hint OutS:={ live:=fun c=>(cond (Nat.beq c 0) [(0,none),(2,none),(17,some (.sl .str)),(18,none),(19,none)] []),run:=fun c=>(cond (Nat.beq c 0) (some (aq Gg Fg fun σ ρ K=>(ya n n σ.1 σ.2.1 σ.2.2.1 σ.2.2.2.1 ρ.1.1 ρ.1.2.1 ρ.1.2.2.1 ρ.1.2.2.2.1 ρ.1.2.2.2.2.1 ρ.1.2.2.2.2.2.1 ρ.1.2.2.2.2.2.2.1 ρ.1.2.2.2.2.2.2.2.1 ρ.1.2.2.2.2.2.2.2.2.1 ρ.2.1).bind (Nb K))) none),xm:=fun c q=>(cond (Nat.beq c 0&&Nat.beq (q.getD 1000000) 0&&q.isSome) (some [(0,none)]) none),ne:=[(71,5,.frz .str)],nb:=[(71,1,.frz (.int .i64)),(71,5,.prm 9),(71,8,.prm 9)] }
def Je (n:Nat) (K:XE→List AV→ia→Option OutS) (m:Nat) (ok:Bool) (t17:(Sq BA)) (t18:Int) (t19:Int) (p:Bool) (p1:(Sq Int)) (p2:BA) (p3:Bool) (p4:BA) (p5:(Sq BA)) (p6:BA) (p7:Bool) (p8:BA) (r11:(Sq BA)):Option OutS:=Pe tys (da OutS (Qd n)).keep (Ke n) n (Da [1,0,1,0,0] (aa Tryz.f57)) 0 Gg Fg K m (ok,(t17,(t18,(t19,())))) ((p,(p1,(p2,(p3,(p4,(p5,(p6,(p7,(p8,()))))))))),(r11,((),())))
theorem Cm (n:Nat) (K:XE→List AV→ia→Option OutS):∀ (m:Nat) ok t17 t18 t19 p p1 p2 p3 p4 p5 p6 p7 p8 r11,Je n K m ok t17 t18 t19 p p1 p2 p3 p4 p5 p6 p7 p8 r11=(ya n m ok t17 t18 t19 p p1 p2 p3 p4 p5 p6 p7 p8 r11).bind (Nb K)
 | 0,_,_,_,_,_,_,_,_,_,_,_,_,_,_=>by kernel_rfl
 | m+1,ok,t17,t18,t19,p,p1,p2,p3,p4,p5,p6,p7,p8,r11=>by
  have h1:Je n K (m+1) ok t17 t18 t19 p p1 p2 p3 p4 p5 p6 p7 p8 r11=La n ok t17 t18 t19 p p1 p2 p3 p4 p5 p6 p7 p8 r11 (Je n K m) (fun a=>Nb K (.out a)) (fun a=>Nb K (.ret a)) (fun p=>Nb K (.pan p)):=by kernel_rfl
  have h2:Je n K m=fun ok t17 t18 t19 p p1 p2 p3 p4 p5 p6 p7 p8 r11=>(ya n m ok t17 t18 t19 p p1 p2 p3 p4 p5 p6 p7 p8 r11).bind (Nb K):=by
   repeat (refine funext fun _=>?_)
   exact Cm n K m _ _ _ _ _ _ _ _ _ _ _ _ _ _
  rw [h1,h2];exact (jz n m _ _ _ _ _ _ _ _ _ _ _ _ _ _ (Nb K)).symm
theorem Mx (n:Nat):ie tys (da OutS (Qd n)).keep (Ke n) n (Da [1,0,1,0,0] (aa Tryz.f57)) 0:=Oa (sp:=Gg) (rp:=Fg) (by kernel_rfl) fun K σ ρ=>Cm n K n σ.1 σ.2.1 σ.2.2.1 σ.2.2.2.1 ρ.1.1 ρ.1.2.1 ρ.1.2.2.1 ρ.1.2.2.2.1 ρ.1.2.2.2.2.1 ρ.1.2.2.2.2.2.1 ρ.1.2.2.2.2.2.2.1 ρ.1.2.2.2.2.2.2.2.1 ρ.1.2.2.2.2.2.2.2.2.1 ρ.2.1
theorem kz (n:Nat):ta tys (da OutS (Qd n)).keep (Ke n) n (aa Tryz.f57) 0:=⟨trivial,⟨⟨trivial,⟨Mx n,⟨trivial,⟨⟨trivial,trivial⟩,⟨⟨trivial,⟨trivial,⟨trivial,trivial⟩⟩⟩,trivial⟩⟩⟩⟩⟩,trivial⟩⟩
theorem LA (n:Nat):Enters Tryz.prog 57:=enters_of (c:=aa Tryz.f57) Tryz.func57 (by kernel_rfl) (by kernel_rfl)
def Jp:List RSp:=[.one (.ptr 0 0 0)]
def Ip:List RS:=[.box 71 10 false [.dat .bool,.dat (.sl (.int .i64)),.dat .str,.dat .bool,.dat .str,.row 1,.dat .str,.dat .bool,.row 2,.dat .str],.row 9 1 .str true true,.row 9 1 .str true true]
def MA:List Sl:=[.ptr 0 0 0]
def NA:List RSp:=[]
def sf:List RS:=[.box 71 10 false [.dat .bool,.dat (.sl (.int .i64)),.dat .str,.dat .bool,.dat .str,.row 1,.dat .str,.dat .bool,.row 2,.dat .str],.row 9 1 .str true true,.row 9 1 .str true true]
def lk (y:U0):OutS:=⟨false,dl (dc sf ((y.1,(y.2.1,(y.2.2.1,(y.2.2.2.1,(y.2.2.2.2.1,(y.2.2.2.2.2.1,(y.2.2.2.2.2.2.1,(y.2.2.2.2.2.2.2.1,())))))))),(y.2.2.2.2.2.2.2.2.1,(y.2.2.2.2.2.2.2.2.2.1,())))) MA (),aw (Xt (dc sf ((y.1,(y.2.1,(y.2.2.1,(y.2.2.2.1,(y.2.2.2.2.1,(y.2.2.2.2.2.1,(y.2.2.2.2.2.2.1,(y.2.2.2.2.2.2.2.1,())))))))),(y.2.2.2.2.2.2.2.2.1,(y.2.2.2.2.2.2.2.2.2.1,())))) NA ()),Qo (dc sf ((y.1,(y.2.1,(y.2.2.1,(y.2.2.2.1,(y.2.2.2.2.1,(y.2.2.2.2.2.1,(y.2.2.2.2.2.2.1,(y.2.2.2.2.2.2.2.1,())))))))),(y.2.2.2.2.2.2.2.2.1,(y.2.2.2.2.2.2.2.2.2.1,())))) sf ((y.1,(y.2.1,(y.2.2.1,(y.2.2.2.1,(y.2.2.2.2.1,(y.2.2.2.2.2.1,(y.2.2.2.2.2.2.1,(y.2.2.2.2.2.2.2.1,())))))))),(y.2.2.2.2.2.2.2.2.1,(y.2.2.2.2.2.2.2.2.2.1,())))⟩
theorem ED (n:Nat):EntryOk Tryz.prog gl ⟨57,gf,none,some (csT Jp Ip (fun σ ρ=>Wb n ρ.1.1 ρ.1.2.1 ρ.1.2.2.1 ρ.1.2.2.2.1 ρ.1.2.2.2.2.1 ρ.1.2.2.2.2.2.1 ρ.1.2.2.2.2.2.2.1 ρ.1.2.2.2.2.2.2.2.1 ρ.2.1 ρ.2.2.1) lk)⟩:=
 Sc (LA n) fun σ ρ y h=>db tys_ok (rl n) mixed (hint:=Ke n) (n:=n) Tryz.func57 (Pa (kz n)) (la (φ:=fun y=>some (lk y)) (by kernel_rfl) (GF n ρ.1.1 ρ.1.2.1 ρ.1.2.2.1 ρ.1.2.2.2.1 ρ.1.2.2.2.2.1 ρ.1.2.2.2.2.2.1 ρ.1.2.2.2.2.2.2.1 ρ.1.2.2.2.2.2.2.2.1 ρ.2.1 ρ.2.2.1 _) h)
def fj (n:Nat):List Entry:=⟨57,gf,none,some (csT Jp Ip (fun σ ρ=>Wb n ρ.1.1 ρ.1.2.1 ρ.1.2.2.1 ρ.1.2.2.2.1 ρ.1.2.2.2.2.1 ρ.1.2.2.2.2.2.1 ρ.1.2.2.2.2.2.2.1 ρ.1.2.2.2.2.2.2.2.1 ρ.2.1 ρ.2.2.1) lk)⟩::Qd n
theorem yl (n:Nat):AllOk Tryz.prog gl (fj n):=.cons (ED n) (rl n)
def Nj (n:Nat) {R:Type} (s prefix0:BA) (k:Bool→Option R):Option R:=
 (rg n s prefix0).bind fun v=>
 k v
def Sa (n:Nat) (s prefix0:BA):Option Bool:=Nj n s prefix0 some
theorem OP (n:Nat) {S:Type}:∀ s prefix0 (φ:_→Option S),(Sa n s prefix0).bind φ=Nj n s prefix0 φ:=by
 intros;unfold Sa Nj;first | (simp only [fa,ba,iB,bB,oL,oX,nB,Option.bind_some]) | rfl
def Ww (n:Nat):Hint Out:={ live:=fun c=>[],run:=fun c=>none,xm:=fun c q=>none }
theorem mK (n:Nat):ta tys (da Out (fj n)) (Ww n) n (aa Tryz.f58) 0:=ma (fun _=>rfl) _ _ (by kernel_rfl)
theorem VL (n:Nat):Enters Tryz.prog 58:=enters_of (c:=aa Tryz.f58) Tryz.func58 (by kernel_rfl) (by kernel_rfl)
def pC (n:Nat):Entry:=⟨58,pcT (.pair .str (.pair .str .unit)) (.one .bool) (fun xs=>Sa n xs.1 xs.2.1),none,none⟩
theorem rO (n:Nat):EntryOk Tryz.prog gl (pC n):=
 Qa (VL n) fun xs y h=>ra tys_ok (yl n) mixed (hint:=Ww n) (n:=n) Tryz.func58 (Pa (mK n)) (la (φ:=(fun y=>some (Out.ret (Vf (.one .bool) y)))) (by kernel_rfl) (OP n xs.1 xs.2.1 _) h)
def mt (n:Nat):List Entry:=pC n::fj n
theorem Hu (n:Nat):AllOk Tryz.prog gl (mt n):=.cons (rO n) (yl n)
def gk (n:Nat) {R:Type} (b0:Bool) (b01:(Sq Int)) (b02:BA) (b03:Bool) (b04 b05:BA) (b06:Bool) (b07:BA) (r1 r2:(Sq BA)) (k:U0→Option R):Option R:=
 k (b0,(b01,(b02,(b03,((⟨#[]⟩:BA),((⟨#[]⟩:BA),(false,(b07,((⟨0,fun _=>Ba .str⟩:Sq BA),(r2,()))))))))))
def be (n:Nat) (b0:Bool) (b01:(Sq Int)) (b02:BA) (b03:Bool) (b04 b05:BA) (b06:Bool) (b07:BA) (r1 r2:(Sq BA)):Option U0:=gk n b0 b01 b02 b03 b04 b05 b06 b07 r1 r2 some
theorem EF (n:Nat) {S:Type}:∀ b0 b01 b02 b03 b04 b05 b06 b07 r1 r2 (φ:_→Option S),(be n b0 b01 b02 b03 b04 b05 b06 b07 r1 r2).bind φ=gk n b0 b01 b02 b03 b04 b05 b06 b07 r1 r2 φ:=by
 intros;unfold be gk;first | (simp only [fa,ba,iB,bB,oL,oX,nB,Option.bind_some]) | rfl
def Am (n:Nat):Hint OutS:={ live:=fun c=>[],run:=fun c=>none,xm:=fun c q=>none,nb:=[(71,1,.frz (.int .i64)),(71,5,.prm 9),(71,8,.prm 9)] }
theorem Zy (n:Nat):ta tys (da OutS (mt n)).keep (Am n) n (aa Tryz.f93) 0:=ma (fun _=>rfl) _ _ (by kernel_rfl)
theorem CA (n:Nat):Enters Tryz.prog 93:=enters_of (c:=aa Tryz.f93) Tryz.func93 (by kernel_rfl) (by kernel_rfl)
def Fp:List RSp:=[.one (.ptr 0 0 0)]
def Ep:List RS:=[.box 71 10 false [.dat .bool,.dat (.sl (.int .i64)),.dat .str,.dat .bool,.dat .str,.row 1,.dat .str,.dat .bool,.row 2,.dat .str],.row 9 1 .str true true,.row 9 1 .str true true]
def DA:List Sl:=[.ptr 0 0 0]
def EA:List RSp:=[]
def nf:List RS:=[.box 71 10 false [.dat .bool,.dat (.sl (.int .i64)),.dat .str,.dat .bool,.dat .str,.row 1,.dat .str,.dat .bool,.row 2,.dat .str],.row 9 1 .str true true,.row 9 1 .str true true]
def ik (y:U0):OutS:=⟨false,dl (dc nf ((y.1,(y.2.1,(y.2.2.1,(y.2.2.2.1,(y.2.2.2.2.1,(y.2.2.2.2.2.1,(y.2.2.2.2.2.2.1,(y.2.2.2.2.2.2.2.1,())))))))),(y.2.2.2.2.2.2.2.2.1,(y.2.2.2.2.2.2.2.2.2.1,())))) DA (),aw (Xt (dc nf ((y.1,(y.2.1,(y.2.2.1,(y.2.2.2.1,(y.2.2.2.2.1,(y.2.2.2.2.2.1,(y.2.2.2.2.2.2.1,(y.2.2.2.2.2.2.2.1,())))))))),(y.2.2.2.2.2.2.2.2.1,(y.2.2.2.2.2.2.2.2.2.1,())))) EA ()),Qo (dc nf ((y.1,(y.2.1,(y.2.2.1,(y.2.2.2.1,(y.2.2.2.2.1,(y.2.2.2.2.2.1,(y.2.2.2.2.2.2.1,(y.2.2.2.2.2.2.2.1,())))))))),(y.2.2.2.2.2.2.2.2.1,(y.2.2.2.2.2.2.2.2.2.1,())))) nf ((y.1,(y.2.1,(y.2.2.1,(y.2.2.2.1,(y.2.2.2.2.1,(y.2.2.2.2.2.1,(y.2.2.2.2.2.2.1,(y.2.2.2.2.2.2.2.1,())))))))),(y.2.2.2.2.2.2.2.2.1,(y.2.2.2.2.2.2.2.2.2.1,())))⟩
theorem AD (n:Nat):EntryOk Tryz.prog gl ⟨93,gf,none,some (csT Fp Ep (fun σ ρ=>be n ρ.1.1 ρ.1.2.1 ρ.1.2.2.1 ρ.1.2.2.2.1 ρ.1.2.2.2.2.1 ρ.1.2.2.2.2.2.1 ρ.1.2.2.2.2.2.2.1 ρ.1.2.2.2.2.2.2.2.1 ρ.2.1 ρ.2.2.1) ik)⟩:=
 Sc (CA n) fun σ ρ y h=>db tys_ok (Hu n) mixed (hint:=Am n) (n:=n) Tryz.func93 (Pa (Zy n)) (la (φ:=fun y=>some (ik y)) (by kernel_rfl) (EF n ρ.1.1 ρ.1.2.1 ρ.1.2.2.1 ρ.1.2.2.2.1 ρ.1.2.2.2.2.1 ρ.1.2.2.2.2.2.1 ρ.1.2.2.2.2.2.2.1 ρ.1.2.2.2.2.2.2.2.1 ρ.2.1 ρ.2.2.1 _) h)
def aj (n:Nat):List Entry:=⟨93,gf,none,some (csT Fp Ep (fun σ ρ=>be n ρ.1.1 ρ.1.2.1 ρ.1.2.2.1 ρ.1.2.2.2.1 ρ.1.2.2.2.2.1 ρ.1.2.2.2.2.2.1 ρ.1.2.2.2.2.2.2.1 ρ.1.2.2.2.2.2.2.2.1 ρ.2.1 ρ.2.2.1) ik)⟩::mt n
theorem tl (n:Nat):AllOk Tryz.prog gl (aj n):=.cons (AD n) (Hu n)
def Yf (n:Nat) {R:Type} (b0:Bool) (b01:(Sq Int)) (b02:BA) (b03:Bool) (b04 b05:BA) (b06:Bool) (b07:BA) (r1 r2:(Sq BA)) (k:U16→Option R):Option R:=
 if (decide ((b01.n:Int)>(0:Int)))=true then
 if 0≤(0:Int)∧(0:Int)<(b01.n:Int) then
  if (decide ((b01.at' (Int.toNat (0:Int)))≥(400:Int)))=true then
  if (decide ((b01.at' (Int.toNat (0:Int)))≤(599:Int)))=true then
   if 0≤(1:Int)∧(1:Int)≤(b01.n:Int) then
   (ua n (b01.at' (Int.toNat (0:Int))) b0 (⟨((Int.toNat (b01.n:Int)) - (Int.toNat (1:Int))),fun j_0=>b01.at' ((Int.toNat (1:Int))+j_0)⟩:Sq Int) b02 b03 b04 b05 b06 b07 r1 r2).bind fun v=>
   k (((b01.at' (Int.toNat (0:Int)))==(250:Int)),(v.1,(v.2.1,(v.2.2.1,(v.2.2.2.1,(v.2.2.2.2.1,(v.2.2.2.2.2.1,(v.2.2.2.2.2.2.1,(v.2.2.2.2.2.2.2.1,(v.2.2.2.2.2.2.2.2.1,(v.2.2.2.2.2.2.2.2.2.1,())))))))))))
   else
   none
  else
   if 0≤(1:Int)∧(1:Int)≤(b01.n:Int) then
   (ua n (250:Int) b0 (⟨((Int.toNat (b01.n:Int)) - (Int.toNat (1:Int))),fun j_0=>b01.at' ((Int.toNat (1:Int))+j_0)⟩:Sq Int) b02 b03 b04 b05 b06 b07 r1 r2).bind fun v1=>
   k (((250:Int)==(250:Int)),(v1.1,(v1.2.1,(v1.2.2.1,(v1.2.2.2.1,(v1.2.2.2.2.1,(v1.2.2.2.2.2.1,(v1.2.2.2.2.2.2.1,(v1.2.2.2.2.2.2.2.1,(v1.2.2.2.2.2.2.2.2.1,(v1.2.2.2.2.2.2.2.2.2.1,())))))))))))
   else
   none
  else
  if 0≤(1:Int)∧(1:Int)≤(b01.n:Int) then
   (ua n (250:Int) b0 (⟨((Int.toNat (b01.n:Int)) - (Int.toNat (1:Int))),fun j_0=>b01.at' ((Int.toNat (1:Int))+j_0)⟩:Sq Int) b02 b03 b04 b05 b06 b07 r1 r2).bind fun v2=>
   k (((250:Int)==(250:Int)),(v2.1,(v2.2.1,(v2.2.2.1,(v2.2.2.2.1,(v2.2.2.2.2.1,(v2.2.2.2.2.2.1,(v2.2.2.2.2.2.2.1,(v2.2.2.2.2.2.2.2.1,(v2.2.2.2.2.2.2.2.2.1,(v2.2.2.2.2.2.2.2.2.2.1,())))))))))))
  else
   none
 else
  none
 else
 (ua n (250:Int) b0 b01 b02 b03 b04 b05 b06 b07 r1 r2).bind fun v3=>
 k (((250:Int)==(250:Int)),(v3.1,(v3.2.1,(v3.2.2.1,(v3.2.2.2.1,(v3.2.2.2.2.1,(v3.2.2.2.2.2.1,(v3.2.2.2.2.2.2.1,(v3.2.2.2.2.2.2.2.1,(v3.2.2.2.2.2.2.2.2.1,(v3.2.2.2.2.2.2.2.2.2.1,())))))))))))
def Pb (n:Nat) (b0:Bool) (b01:(Sq Int)) (b02:BA) (b03:Bool) (b04 b05:BA) (b06:Bool) (b07:BA) (r1 r2:(Sq BA)):Option U16:=Yf n b0 b01 b02 b03 b04 b05 b06 b07 r1 r2 some
theorem CD (n:Nat) {S:Type}:∀ b0 b01 b02 b03 b04 b05 b06 b07 r1 r2 (φ:_→Option S),(Pb n b0 b01 b02 b03 b04 b05 b06 b07 r1 r2).bind φ=Yf n b0 b01 b02 b03 b04 b05 b06 b07 r1 r2 φ:=by
 intros;unfold Pb Yf;first | (simp only [fa,ba,iB,bB,oL,oX,nB,Option.bind_some]) | rfl
def vl (n:Nat):Hint OutS:={ live:=fun c=>[],run:=fun c=>none,xm:=fun c q=>none,nb:=[(71,1,.frz (.int .i64)),(71,5,.prm 9),(71,8,.prm 9)] }
theorem Ix (n:Nat):ta tys (da OutS (aj n)).keep (vl n) n (aa Tryz.f91) 0:=ma (fun _=>rfl) _ _ (by kernel_rfl)
theorem dz (n:Nat):Enters Tryz.prog 91:=enters_of (c:=aa Tryz.f91) Tryz.func91 (by kernel_rfl) (by kernel_rfl)
def po:List RSp:=[.one (.ptr 0 0 0)]
def oo:List RS:=[.box 71 10 false [.dat .bool,.dat (.sl (.int .i64)),.dat .str,.dat .bool,.dat .str,.row 1,.dat .str,.dat .bool,.row 2,.dat .str],.row 9 1 .str true true,.row 9 1 .str true true]
def ez:List Sl:=[.ptr 0 0 0]
def gz:List RSp:=[.one (.dat .bool)]
def Ie:List RS:=[.box 71 10 false [.dat .bool,.dat (.sl (.int .i64)),.dat .str,.dat .bool,.dat .str,.row 1,.dat .str,.dat .bool,.row 2,.dat .str],.row 9 1 .str true true,.row 9 1 .str true true]
def cj (y:U16):OutS:=⟨false,dl (dc Ie ((y.2.1,(y.2.2.1,(y.2.2.2.1,(y.2.2.2.2.1,(y.2.2.2.2.2.1,(y.2.2.2.2.2.2.1,(y.2.2.2.2.2.2.2.1,(y.2.2.2.2.2.2.2.2.1,())))))))),(y.2.2.2.2.2.2.2.2.2.1,(y.2.2.2.2.2.2.2.2.2.2.1,())))) ez (),aw (Xt (dc Ie ((y.2.1,(y.2.2.1,(y.2.2.2.1,(y.2.2.2.2.1,(y.2.2.2.2.2.1,(y.2.2.2.2.2.2.1,(y.2.2.2.2.2.2.2.1,(y.2.2.2.2.2.2.2.2.1,())))))))),(y.2.2.2.2.2.2.2.2.2.1,(y.2.2.2.2.2.2.2.2.2.2.1,())))) gz ((y.1,()),())),Qo (dc Ie ((y.2.1,(y.2.2.1,(y.2.2.2.1,(y.2.2.2.2.1,(y.2.2.2.2.2.1,(y.2.2.2.2.2.2.1,(y.2.2.2.2.2.2.2.1,(y.2.2.2.2.2.2.2.2.1,())))))))),(y.2.2.2.2.2.2.2.2.2.1,(y.2.2.2.2.2.2.2.2.2.2.1,())))) Ie ((y.2.1,(y.2.2.1,(y.2.2.2.1,(y.2.2.2.2.1,(y.2.2.2.2.2.1,(y.2.2.2.2.2.2.1,(y.2.2.2.2.2.2.2.1,(y.2.2.2.2.2.2.2.2.1,())))))))),(y.2.2.2.2.2.2.2.2.2.1,(y.2.2.2.2.2.2.2.2.2.2.1,())))⟩
theorem GA (n:Nat):EntryOk Tryz.prog gl ⟨91,gf,none,some (csT po oo (fun σ ρ=>Pb n ρ.1.1 ρ.1.2.1 ρ.1.2.2.1 ρ.1.2.2.2.1 ρ.1.2.2.2.2.1 ρ.1.2.2.2.2.2.1 ρ.1.2.2.2.2.2.2.1 ρ.1.2.2.2.2.2.2.2.1 ρ.2.1 ρ.2.2.1) cj)⟩:=
 Sc (dz n) fun σ ρ y h=>db tys_ok (tl n) mixed (hint:=vl n) (n:=n) Tryz.func91 (Pa (Ix n)) (la (φ:=fun y=>some (cj y)) (by kernel_rfl) (CD n ρ.1.1 ρ.1.2.1 ρ.1.2.2.1 ρ.1.2.2.2.1 ρ.1.2.2.2.2.1 ρ.1.2.2.2.2.2.1 ρ.1.2.2.2.2.2.2.1 ρ.1.2.2.2.2.2.2.2.1 ρ.2.1 ρ.2.2.1 _) h)
def Zh (n:Nat):List Entry:=⟨91,gf,none,some (csT po oo (fun σ ρ=>Pb n ρ.1.1 ρ.1.2.1 ρ.1.2.2.1 ρ.1.2.2.2.1 ρ.1.2.2.2.2.1 ρ.1.2.2.2.2.2.1 ρ.1.2.2.2.2.2.2.1 ρ.1.2.2.2.2.2.2.2.1 ρ.2.1 ρ.2.2.1) cj)⟩::aj n
theorem Rk (n:Nat):AllOk Tryz.prog gl (Zh n):=.cons (GA n) (tl n)
def Hg (n:Nat) {R:Type} (path:BA) (b0:Bool) (b01:(Sq Int)) (b02:BA) (b03:Bool) (b04 b05:BA) (b06:Bool) (b07:BA) (r1 r2:(Sq BA)) (k:U0→Option R):Option R:=
 (be n b0 b01 b02 b03 b04 b05 b06 b07 r1 r2).bind fun v=>
 (Pb n v.1 v.2.1 v.2.2.1 v.2.2.2.1 path v.2.2.2.2.2.1 v.2.2.2.2.2.2.1 v.2.2.2.2.2.2.2.1 v.2.2.2.2.2.2.2.2.1 v.2.2.2.2.2.2.2.2.2.1).bind fun v1=>
 k (v1.2.1,(v1.2.2.1,(v1.2.2.2.1,(v1.2.2.2.2.1,(v1.2.2.2.2.2.1,(v1.2.2.2.2.2.2.1,(v1.2.2.2.2.2.2.2.1,(v1.2.2.2.2.2.2.2.2.1,(v1.2.2.2.2.2.2.2.2.2.1,(v1.2.2.2.2.2.2.2.2.2.2.1,()))))))))))
def cd (n:Nat) (path:BA) (b0:Bool) (b01:(Sq Int)) (b02:BA) (b03:Bool) (b04 b05:BA) (b06:Bool) (b07:BA) (r1 r2:(Sq BA)):Option U0:=Hg n path b0 b01 b02 b03 b04 b05 b06 b07 r1 r2 some
theorem IF (n:Nat) {S:Type}:∀ path b0 b01 b02 b03 b04 b05 b06 b07 r1 r2 (φ:_→Option S),(cd n path b0 b01 b02 b03 b04 b05 b06 b07 r1 r2).bind φ=Hg n path b0 b01 b02 b03 b04 b05 b06 b07 r1 r2 φ:=by
 intros;unfold cd Hg;first | (simp only [fa,ba,iB,bB,oL,oX,nB,Option.bind_some]) | rfl
def Em (n:Nat):Hint OutS:={ live:=fun c=>[],run:=fun c=>none,xm:=fun c q=>none,nb:=[(71,1,.frz (.int .i64)),(71,5,.prm 9),(71,8,.prm 9)] }
theorem mz (n:Nat):ta tys (da OutS (Zh n)).keep (Em n) n (aa Tryz.f60) 0:=ma (fun _=>rfl) _ _ (by kernel_rfl)
theorem SA (n:Nat):Enters Tryz.prog 60:=enters_of (c:=aa Tryz.f60) Tryz.func60 (by kernel_rfl) (by kernel_rfl)
def Np:List RSp:=[.one (.ptr 0 0 0),.one (.dat .str)]
def Mp:List RS:=[.box 71 10 false [.dat .bool,.dat (.sl (.int .i64)),.dat .str,.dat .bool,.dat .str,.row 1,.dat .str,.dat .bool,.row 2,.dat .str],.row 9 1 .str true true,.row 9 1 .str true true]
def TA:List Sl:=[.ptr 0 0 0,.top]
def UA:List RSp:=[]
def uf:List RS:=[.box 71 10 false [.dat .bool,.dat (.sl (.int .i64)),.dat .str,.dat .bool,.dat .str,.row 1,.dat .str,.dat .bool,.row 2,.dat .str],.row 9 1 .str true true,.row 9 1 .str true true]
def qk (y:U0):OutS:=⟨false,dl (dc uf ((y.1,(y.2.1,(y.2.2.1,(y.2.2.2.1,(y.2.2.2.2.1,(y.2.2.2.2.2.1,(y.2.2.2.2.2.2.1,(y.2.2.2.2.2.2.2.1,())))))))),(y.2.2.2.2.2.2.2.2.1,(y.2.2.2.2.2.2.2.2.2.1,())))) TA (),aw (Xt (dc uf ((y.1,(y.2.1,(y.2.2.1,(y.2.2.2.1,(y.2.2.2.2.1,(y.2.2.2.2.2.1,(y.2.2.2.2.2.2.1,(y.2.2.2.2.2.2.2.1,())))))))),(y.2.2.2.2.2.2.2.2.1,(y.2.2.2.2.2.2.2.2.2.1,())))) UA ()),Qo (dc uf ((y.1,(y.2.1,(y.2.2.1,(y.2.2.2.1,(y.2.2.2.2.1,(y.2.2.2.2.2.1,(y.2.2.2.2.2.2.1,(y.2.2.2.2.2.2.2.1,())))))))),(y.2.2.2.2.2.2.2.2.1,(y.2.2.2.2.2.2.2.2.2.1,())))) uf ((y.1,(y.2.1,(y.2.2.1,(y.2.2.2.1,(y.2.2.2.2.1,(y.2.2.2.2.2.1,(y.2.2.2.2.2.2.1,(y.2.2.2.2.2.2.2.1,())))))))),(y.2.2.2.2.2.2.2.2.1,(y.2.2.2.2.2.2.2.2.2.1,())))⟩
theorem GD (n:Nat):EntryOk Tryz.prog gl ⟨60,gf,none,some (csT Np Mp (fun σ ρ=>cd n σ.2.1.1 ρ.1.1 ρ.1.2.1 ρ.1.2.2.1 ρ.1.2.2.2.1 ρ.1.2.2.2.2.1 ρ.1.2.2.2.2.2.1 ρ.1.2.2.2.2.2.2.1 ρ.1.2.2.2.2.2.2.2.1 ρ.2.1 ρ.2.2.1) qk)⟩:=
 Sc (SA n) fun σ ρ y h=>db tys_ok (Rk n) mixed (hint:=Em n) (n:=n) Tryz.func60 (Pa (mz n)) (la (φ:=fun y=>some (qk y)) (by kernel_rfl) (IF n σ.2.1.1 ρ.1.1 ρ.1.2.1 ρ.1.2.2.1 ρ.1.2.2.2.1 ρ.1.2.2.2.2.1 ρ.1.2.2.2.2.2.1 ρ.1.2.2.2.2.2.2.1 ρ.1.2.2.2.2.2.2.2.1 ρ.2.1 ρ.2.2.1 _) h)
def jj (n:Nat):List Entry:=⟨60,gf,none,some (csT Np Mp (fun σ ρ=>cd n σ.2.1.1 ρ.1.1 ρ.1.2.1 ρ.1.2.2.1 ρ.1.2.2.2.1 ρ.1.2.2.2.2.1 ρ.1.2.2.2.2.2.1 ρ.1.2.2.2.2.2.2.1 ρ.1.2.2.2.2.2.2.2.1 ρ.2.1 ρ.2.2.1) qk)⟩::Zh n
theorem Ig (n:Nat):AllOk Tryz.prog gl (jj n):=.cons (GD n) (Rk n)
def TG (n:Nat) {R:Type} (ok:Bool) (k:(Unit)→Option R) (kp:Int→Option R):Option R:=
 if (!ok)=true then
 kp (8:Int)
 else
 k ()
def jc (n:Nat) (ok:Bool):Option (Except Int (Unit)):=TG n ok (fun y=>some (.ok y)) (fun p=>some (.error p))
theorem WS (n:Nat) {S:Type}:∀ ok (φ:_→Option S),(jc n ok).bind φ=TG n ok (fun y=>φ (.ok y)) (fun p=>φ (.error p)):=by
 intros;unfold jc TG;first | (simp only [fa,ba,iB,bB,oL,oX,nB,Option.bind_some]) | rfl
def Mz (n:Nat):Hint Out:={ live:=fun c=>[],run:=fun c=>none,xm:=fun c q=>none }
theorem FK (n:Nat):ta tys (da Out (jj n)) (Mz n) n (aa Tryz.f167) 0:=ma (fun _=>rfl) _ _ (by kernel_rfl)
theorem rV (n:Nat):Enters Tryz.prog 167:=enters_of (c:=aa Tryz.f167) Tryz.func167 (by kernel_rfl) (by kernel_rfl)
def ZP (n:Nat):Entry:=⟨167,pcX 184 (.pair .bool .unit) (.many .unit) (fun xs=>jc n xs.1),none,none⟩
theorem mY (n:Nat):EntryOk Tryz.prog gl (ZP n):=
 HX (rV n) (fun xs y h=>ra tys_ok (Ig n) mixed (hint:=Mz n) (n:=n) Tryz.func167 (Pa (FK n)) (la (φ:=(fun r=>onX r (fun p=>some (Out.pan (yC 184 p))) fun y=>some (Out.ret (Vf (.many .unit) y)))) (by kernel_rfl) (WS n xs.1 _) h))
  (fun xs p h=>ra tys_ok (Ig n) mixed (hint:=Mz n) (n:=n) Tryz.func167 (Pa (FK n)) (la (φ:=(fun r=>onX r (fun p=>some (Out.pan (yC 184 p))) fun y=>some (Out.ret (Vf (.many .unit) y)))) (by kernel_rfl) (WS n xs.1 _) h))
def oJ (n:Nat):List Entry:=ZP n::jj n
theorem UG (n:Nat):AllOk Tryz.prog gl (oJ n):=.cons (mY n) (Ig n)
def un (n:Nat) {R:Type} (c:Int) (k:U20→Option R):Option R:=
 (og n).bind fun v=>
 if Ta (0+1) 1=true then
 k ((⟨(0+1),fun q=>if q<0 then (fun _=>Ba (.int .u8)) q else (fun q=>List.getD (α:=Int) [c] q (Ba (.int .u8))) (q - 0)⟩:Sq Int),())
 else
 none
def ic (n:Nat) (c:Int):Option U20:=un n c some
theorem fK (n:Nat) {S:Type}:∀ c (φ:_→Option S),(ic n c).bind φ=un n c φ:=by
 intros;unfold ic un;first | (simp only [fa,ba,iB,bB,oL,oX,nB,Option.bind_some]) | rfl
def bq (n:Nat):Hint OutS:={ live:=fun c=>[],run:=fun c=>none,xm:=fun c q=>none }
theorem iE (n:Nat):ta tys (da OutS (oJ n)) (bq n) n (aa Tryz.f198) 0:=ma (fun _=>rfl) _ _ (by kernel_rfl)
theorem lG (n:Nat):Enters Tryz.prog 198:=enters_of (c:=aa Tryz.f198) Tryz.func198 (by kernel_rfl) (by kernel_rfl)
def Au:List RSp:=[.one (.ptr 0 0 0),.one (.dat (.int .u8))]
def zu:List RS:=[.box 126 2 true [.cn .nilp,.cn .nils]]
def mG:List Sl:=[.ptr 0 0 0,.top]
def nG:List RSp:=[.one (.cn .nili)]
def Zg:List RS:=[.box 126 2 false [.ptr 0 0 0,.row 1],.row 5 1 (.int .u8) true false]
def vn (y:U20):OutS:=⟨false,dl (dc Zg ((),(y.1,()))) mG (),aw (Xt (dc Zg ((),(y.1,()))) nG ((),())),Qo (dc Zg ((),(y.1,()))) Zg ((),(y.1,()))⟩
theorem NI (n:Nat):EntryOk Tryz.prog gl ⟨198,gf,none,some (csT Au zu (fun σ ρ=>ic n σ.2.1.1) vn)⟩:=
 Sc (lG n) fun σ ρ y h=>df tys_ok (UG n) mixed (hint:=bq n) (n:=n) Tryz.func198 (Pa (iE n)) (la (φ:=fun y=>some (vn y)) (by kernel_rfl) (fK n σ.2.1.1 _) h)
def gm (n:Nat):List Entry:=⟨198,gf,none,some (csT Au zu (fun σ ρ=>ic n σ.2.1.1) vn)⟩::oJ n
theorem Mo (n:Nat):AllOk Tryz.prog gl (gm n):=.cons (NI n) (UG n)
def Ci (n:Nat) {R:Type} (c:Int) (r1:(Sq Int)) (k:U20→Option R):Option R:=
 (Ce n r1).bind fun v=>
 if Ta (v.1.n+1) 1=true then
 k ((⟨(v.1.n+1),fun q=>if q<v.1.n then v.1.at' q else (fun q=>List.getD (α:=Int) [c] q (Ba (.int .u8))) (q - v.1.n)⟩:Sq Int),())
 else
 none
def ib (n:Nat) (c:Int) (r1:(Sq Int)):Option U20:=Ci n c r1 some
theorem gK (n:Nat) {S:Type}:∀ c r1 (φ:_→Option S),(ib n c r1).bind φ=Ci n c r1 φ:=by
 intros;unfold ib Ci;first | (simp only [fa,ba,iB,bB,oL,oX,nB,Option.bind_some]) | rfl
def cq (n:Nat):Hint OutS:={ live:=fun c=>[],run:=fun c=>none,xm:=fun c q=>none }
theorem jE (n:Nat):ta tys (da OutS (gm n)) (cq n) n (aa Tryz.f198) 0:=ma (fun _=>rfl) _ _ (by kernel_rfl)
theorem oG (n:Nat):Enters Tryz.prog 198:=enters_of (c:=aa Tryz.f198) Tryz.func198 (by kernel_rfl) (by kernel_rfl)
def Cu:List RSp:=[.one (.ptr 0 0 0),.one (.dat (.int .u8))]
def Bu:List RS:=[.box 126 2 false [.ptr 0 0 0,.row 1],.row 5 1 (.int .u8) true false]
def pG:List Sl:=[.ptr 0 0 0,.top]
def qG:List RSp:=[.one (.cn .nili)]
def ah:List RS:=[.box 126 2 false [.ptr 0 0 0,.row 1],.row 5 1 (.int .u8) true false]
def wn (y:U20):OutS:=⟨false,dl (dc ah ((),(y.1,()))) pG (),aw (Xt (dc ah ((),(y.1,()))) qG ((),())),Qo (dc ah ((),(y.1,()))) ah ((),(y.1,()))⟩
theorem OI (n:Nat):EntryOk Tryz.prog gl ⟨198,gf,none,some (csT Cu Bu (fun σ ρ=>ib n σ.2.1.1 ρ.2.1) wn)⟩:=
 Sc (oG n) fun σ ρ y h=>df tys_ok (Mo n) mixed (hint:=cq n) (n:=n) Tryz.func198 (Pa (jE n)) (la (φ:=fun y=>some (wn y)) (by kernel_rfl) (gK n σ.2.1.1 ρ.2.1 _) h)
def Ff (n:Nat):List Entry:=⟨198,gf,none,some (csT Cu Bu (fun σ ρ=>ib n σ.2.1.1 ρ.2.1) wn)⟩::gm n
theorem qi (n:Nat):AllOk Tryz.prog gl (Ff n):=.cons (OI n) (Mo n)
def rc (n:Nat) {R:Type} (s1:BA) (i:Int) (r1:(Sq Int)) (kn:BA→Int→(Sq Int)→Option R) (ko:Unit→Option R) (kr:(BA×BA)→Option R) (kp:Int→Option R):Option R:=
 (jc n (decide (i<(s1.size:Int)))).bind fun x_1=>onX x_1 (fun p3=>
 kp p3) (fun v5=>
 if 0≤i∧i<(s1.size:Int) then
 if ((bt s1 i)==(34:Int))=true then
  if 0≤(IntKind.wrap .i64 (i+(1:Int)))∧(IntKind.wrap .i64 (i+(1:Int)))≤(s1.size:Int) then
  (Zd n r1).bind fun v6=>
  kr (v6.1,(s1.extract (Int.toNat (IntKind.wrap .i64 (i+(1:Int)))) (Int.toNat (s1.size:Int))))
  else
  none
 else
  if 0≤i∧i<(s1.size:Int) then
  if ((bt s1 i)==(92:Int))=true then
   (jc n (decide ((IntKind.wrap .i64 (i+(1:Int)))<(s1.size:Int)))).bind fun x_2=>onX x_2 (fun p4=>
   kp p4) (fun v7=>
   if 0≤(IntKind.wrap .i64 (i+(1:Int)))∧(IntKind.wrap .i64 (i+(1:Int)))<(s1.size:Int) then
   if (decide ((bt s1 (IntKind.wrap .i64 (i+(1:Int))))≥(32:Int)))=true then
    if 0≤(IntKind.wrap .i64 (i+(1:Int)))∧(IntKind.wrap .i64 (i+(1:Int)))<(s1.size:Int) then
    (jc n (decide ((bt s1 (IntKind.wrap .i64 (i+(1:Int))))≤(126:Int)))).bind fun x_3=>onX x_3 (fun p5=>
     kp p5) (fun v8=>
    if 0≤(IntKind.wrap .i64 (i+(1:Int)))∧(IntKind.wrap .i64 (i+(1:Int)))<(s1.size:Int) then
     (ib n (bt s1 (IntKind.wrap .i64 (i+(1:Int)))) r1).bind fun v9=>
     kn s1 (IntKind.wrap .i64 ((IntKind.wrap .i64 (i+(1:Int)))+(1:Int))) v9.1
    else
     none)
    else
    none
   else
    (jc n false).bind fun x_4=>onX x_4 (fun p6=>
    kp p6) (fun v10=>
    if 0≤(IntKind.wrap .i64 (i+(1:Int)))∧(IntKind.wrap .i64 (i+(1:Int)))<(s1.size:Int) then
    (ib n (bt s1 (IntKind.wrap .i64 (i+(1:Int)))) r1).bind fun v11=>
    kn s1 (IntKind.wrap .i64 ((IntKind.wrap .i64 (i+(1:Int)))+(1:Int))) v11.1
    else
    none)
   else
   none)
  else
   if 0≤i∧i<(s1.size:Int) then
   if (decide ((bt s1 i)≥(32:Int)))=true then
    if 0≤i∧i<(s1.size:Int) then
    (jc n (decide ((bt s1 i)≤(126:Int)))).bind fun x_5=>onX x_5 (fun p7=>
     kp p7) (fun v12=>
    if 0≤i∧i<(s1.size:Int) then
     (ib n (bt s1 i) r1).bind fun v13=>
     kn s1 (IntKind.wrap .i64 (i+(1:Int))) v13.1
    else
     none)
    else
    none
   else
    (jc n false).bind fun x_6=>onX x_6 (fun p8=>
    kp p8) (fun v14=>
    if 0≤i∧i<(s1.size:Int) then
    (ib n (bt s1 i) r1).bind fun v15=>
    kn s1 (IntKind.wrap .i64 (i+(1:Int))) v15.1
    else
    none)
   else
   none
  else
  none
 else
 none)
def Ja (n:Nat):Nat→BA→Int→(Sq Int)→Option (Lx Unit (BA×BA))
 | 0,_,_,_=>none
 | m+1,s1,i,r1=>rc n s1 i r1 (Ja n m) (fun a=>some (.out a)) (fun a=>some (.ret a)) (fun p=>some (.pan p))
theorem RO (n m:Nat) {S:Type}:∀ s1 i r1 (φ:_→Option S),(Ja n (m+1) s1 i r1).bind φ=rc n s1 i r1 (fun s1 i r1=>(Ja n m s1 i r1).bind φ) (fun a=>φ (.out a)) (fun a=>φ (.ret a)) (fun p=>φ (.pan p)):=by
 intros;first | (simp only [Ja,rc,fa,ba,iB,bB,oL,oX,nB,Option.bind_some]) | rfl
def tr:List Sl:=.dat .str::.top::.top::.top::.ptr 0 0 0::.dat (.int .i64)::tp 42 []
def sr:List RS:=[.box 126 2 false [.ptr 0 0 0,.row 1],.row 5 1 (.int .u8) true false]
def oF:List Sl:=.top::.top::.dat .str::.dat .str::tp 44 []
def nF:List RS:=[]
def Jf (K:XE→List AV→ia→Option Out):Lx Unit (BA×BA)→Option Out:=fun x=>onL x (fun _=>none) (fun a=>ak oF nF (a.1,(a.2,())) () (K .ret)) (fun p=>K (.panic (yC 184 p)) (List.replicate 48 .top) [])
def If (n:Nat) {R:Type} (s:BA) (k:(BA×BA×Unit)→Option R) (kp:Int→Option R):Option R:=
 (jc n (decide ((1:Int)<(s.size:Int)))).bind fun x_1=>onX x_1 (fun p=>
 kp p) (fun v=>
 if 0≤(1:Int)∧(1:Int)<(s.size:Int) then
 if ((bt s (1:Int))==(34:Int))=true then
  if 0≤(IntKind.wrap .i64 ((1:Int)+(1:Int)))∧(IntKind.wrap .i64 ((1:Int)+(1:Int)))≤(s.size:Int) then
  (ni n).bind fun v1=>
  k (v1.1,((s.extract (Int.toNat (IntKind.wrap .i64 ((1:Int)+(1:Int)))) (Int.toNat (s.size:Int))),()))
  else
  none
 else
  if 0≤(1:Int)∧(1:Int)<(s.size:Int) then
  if ((bt s (1:Int))==(92:Int))=true then
   (jc n (decide ((IntKind.wrap .i64 ((1:Int)+(1:Int)))<(s.size:Int)))).bind fun x_2=>onX x_2 (fun p1=>
   kp p1) (fun v2=>
   if 0≤(IntKind.wrap .i64 ((1:Int)+(1:Int)))∧(IntKind.wrap .i64 ((1:Int)+(1:Int)))<(s.size:Int) then
   if (decide ((bt s (IntKind.wrap .i64 ((1:Int)+(1:Int))))≥(32:Int)))=true then
    if 0≤(IntKind.wrap .i64 ((1:Int)+(1:Int)))∧(IntKind.wrap .i64 ((1:Int)+(1:Int)))<(s.size:Int) then
    (jc n (decide ((bt s (IntKind.wrap .i64 ((1:Int)+(1:Int))))≤(126:Int)))).bind fun x_3=>onX x_3 (fun p2=>
     kp p2) (fun v3=>
    if 0≤(IntKind.wrap .i64 ((1:Int)+(1:Int)))∧(IntKind.wrap .i64 ((1:Int)+(1:Int)))<(s.size:Int) then
     (ic n (bt s (IntKind.wrap .i64 ((1:Int)+(1:Int))))).bind fun v4=>
     (Ja n n s (IntKind.wrap .i64 ((IntKind.wrap .i64 ((1:Int)+(1:Int)))+(1:Int))) v4.1).bind fun x_4=>onL x_4
     (fun _=>none)
     (fun a_5=>
      k (a_5.1,(a_5.2,())))
     (fun p9=>
      kp p9)
    else
     none)
    else
    none
   else
    (jc n false).bind fun x_6=>onX x_6 (fun p10=>
    kp p10) (fun v16=>
    if 0≤(IntKind.wrap .i64 ((1:Int)+(1:Int)))∧(IntKind.wrap .i64 ((1:Int)+(1:Int)))<(s.size:Int) then
    (ic n (bt s (IntKind.wrap .i64 ((1:Int)+(1:Int))))).bind fun v17=>
    (Ja n n s (IntKind.wrap .i64 ((IntKind.wrap .i64 ((1:Int)+(1:Int)))+(1:Int))) v17.1).bind fun x_7=>onL x_7
     (fun _=>none)
     (fun a_8=>
     k (a_8.1,(a_8.2,())))
     (fun p11=>
     kp p11)
    else
    none)
   else
   none)
  else
   if 0≤(1:Int)∧(1:Int)<(s.size:Int) then
   if (decide ((bt s (1:Int))≥(32:Int)))=true then
    if 0≤(1:Int)∧(1:Int)<(s.size:Int) then
    (jc n (decide ((bt s (1:Int))≤(126:Int)))).bind fun x_9=>onX x_9 (fun p12=>
     kp p12) (fun v18=>
    if 0≤(1:Int)∧(1:Int)<(s.size:Int) then
     (ic n (bt s (1:Int))).bind fun v19=>
     (Ja n n s (IntKind.wrap .i64 ((1:Int)+(1:Int))) v19.1).bind fun x_10=>onL x_10
     (fun _=>none)
     (fun a_11=>
      k (a_11.1,(a_11.2,())))
     (fun p13=>
      kp p13)
    else
     none)
    else
    none
   else
    (jc n false).bind fun x_12=>onX x_12 (fun p14=>
    kp p14) (fun v20=>
    if 0≤(1:Int)∧(1:Int)<(s.size:Int) then
    (ic n (bt s (1:Int))).bind fun v21=>
    (Ja n n s (IntKind.wrap .i64 ((1:Int)+(1:Int))) v21.1).bind fun x_13=>onL x_13
     (fun _=>none)
     (fun a_14=>
     k (a_14.1,(a_14.2,())))
     (fun p15=>
     kp p15)
    else
    none)
   else
   none
  else
  none
 else
 none)
def me (n:Nat) (s:BA):Option (Except Int (BA×BA×Unit)):=If n s (fun y=>some (.ok y)) (fun p=>some (.error p))
theorem GM (n:Nat) {S:Type}:∀ s (φ:_→Option S),(me n s).bind φ=If n s (fun y=>φ (.ok y)) (fun p=>φ (.error p)):=by
 intros;unfold me If;first | (simp only [fa,ba,iB,bB,oL,oX,nB,Option.bind_some]) | rfl
def zj (n:Nat):Hint Out:={ live:=fun c=>(cond (Nat.beq c 0) (lv [0,4,5]) []),run:=fun c=>(cond (Nat.beq c 0) (some (aq tr sr fun σ ρ K=>(Ja n n σ.1 σ.2.1 ρ.2.1).bind (Jf K))) none),xm:=fun c q=>(cond (Nat.beq c 1&&q.isNone) (some [(2,none),(3,none)]) none),sch:=fun c=>(cond (Nat.beq c 6) (some [(1,0),(2,0),(3,0),(4,0),(0,2),(5,0),(6,0)]) none),pl:=fun c=>Nat.beq c 0 }
def En (n:Nat) (K:XE→List AV→ia→Option Out) (m:Nat) (s1:BA) (i:Int) (r1:(Sq Int)):Option Out:=Pe tys (da Out (Ff n)) (zj n) n (Da [1,1,1,0,0] (aa Tryz.f183)) 0 tr sr K m (s1,(i,())) ((),(r1,()))
theorem uE (n:Nat) (K:XE→List AV→ia→Option Out):∀ (m:Nat) s1 i r1,En n K m s1 i r1=(Ja n m s1 i r1).bind (Jf K)
 | 0,_,_,_=>by kernel_rfl
 | m+1,s1,i,r1=>by
  have h1:En n K (m+1) s1 i r1=rc n s1 i r1 (En n K m) (fun a=>Jf K (.out a)) (fun a=>Jf K (.ret a)) (fun p=>Jf K (.pan p)):=by kernel_rfl
  have h2:En n K m=fun s1 i r1=>(Ja n m s1 i r1).bind (Jf K):=by
   repeat (refine funext fun _=>?_)
   exact uE n K m _ _ _
  rw [h1,h2];exact (RO n m _ _ _ (Jf K)).symm
theorem FM (n:Nat):ie tys (da Out (Ff n)) (zj n) n (Da [1,1,1,0,0] (aa Tryz.f183)) 0:=Oa (sp:=tr) (rp:=sr) (by kernel_rfl) fun K σ ρ=>uE n K n σ.1 σ.2.1 ρ.2.1
theorem vE (n:Nat):ta tys (da Out (Ff n)) (zj n) n (aa Tryz.f183) 0:=⟨trivial,⟨trivial,⟨trivial,⟨FM n,⟨⟨trivial,⟨⟨trivial,⟨⟨trivial,trivial⟩,trivial⟩⟩,⟨⟨trivial,⟨⟨trivial,trivial⟩,trivial⟩⟩,⟨trivial,trivial⟩⟩⟩⟩,trivial⟩⟩⟩⟩⟩
theorem VQ (n:Nat):Enters Tryz.prog 183:=enters_of (c:=aa Tryz.f183) Tryz.func183 (by kernel_rfl) (by kernel_rfl)
def GK (n:Nat):Entry:=⟨183,pcX 184 (.pair .str .unit) (.many (.pair .str (.pair .str .unit))) (fun xs=>me n xs.1),none,none⟩
theorem ZS (n:Nat):EntryOk Tryz.prog gl (GK n):=
 HX (VQ n) (fun xs y h=>ra tys_ok (qi n) mixed (hint:=zj n) (n:=n) Tryz.func183 (Pa (vE n)) (la (φ:=(fun r=>onX r (fun p=>some (Out.pan (yC 184 p))) fun y=>some (Out.ret (Vf (.many (.pair .str (.pair .str .unit))) y)))) (by kernel_rfl) (GM n xs.1 _) h))
  (fun xs p h=>ra tys_ok (qi n) mixed (hint:=zj n) (n:=n) Tryz.func183 (Pa (vE n)) (la (φ:=(fun r=>onX r (fun p=>some (Out.pan (yC 184 p))) fun y=>some (Out.ret (Vf (.many (.pair .str (.pair .str .unit))) y)))) (by kernel_rfl) (GM n xs.1 _) h))
def Nz (n:Nat):List Entry:=GK n::Ff n
theorem Oz (n:Nat):AllOk Tryz.prog gl (Nz n):=.cons (ZS n) (qi n)
def eH (n:Nat) {R:Type} (c:Int) (k:Bool→Option R):Option R:=
 if (decide (c≥(97:Int)))=true then
 if (decide (c≤(122:Int)))=false then
  if (decide (c≥(48:Int)))=true then
  k (decide (c≤(57:Int)))
  else
  k false
 else
  k true
 else
 if (decide (c≥(48:Int)))=true then
  k (decide (c≤(57:Int)))
 else
  k false
def pF (n:Nat) (c:Int):Option Bool:=eH n c some
theorem KZ (n:Nat) {S:Type}:∀ c (φ:_→Option S),(pF n c).bind φ=eH n c φ:=by
 intros;unfold pF eH;first | (simp only [fa,ba,iB,bB,oL,oX,nB,Option.bind_some]) | rfl
def IK (n:Nat):Hint Out:={ live:=fun c=>[],run:=fun c=>none,xm:=fun c q=>none }
theorem bT (n:Nat):ta tys (da Out (Nz n)) (IK n) n (aa Tryz.f154) 0:=ma (fun _=>rfl) _ _ (by kernel_rfl)
theorem vV (n:Nat):Enters Tryz.prog 154:=enters_of (c:=aa Tryz.f154) Tryz.func154 (by kernel_rfl) (by kernel_rfl)
def bQ (n:Nat):Entry:=⟨154,pcT (.pair (.int .u8) .unit) (.one .bool) (fun xs=>pF n xs.1),none,none⟩
theorem qY (n:Nat):EntryOk Tryz.prog gl (bQ n):=
 Qa (vV n) fun xs y h=>ra tys_ok (Oz n) mixed (hint:=IK n) (n:=n) Tryz.func154 (Pa (bT n)) (la (φ:=(fun y=>some (Out.ret (Vf (.one .bool) y)))) (by kernel_rfl) (KZ n xs.1 _) h)
def cQ (n:Nat):List Entry:=bQ n::Nz n
theorem WQ (n:Nat):AllOk Tryz.prog gl (cQ n):=.cons (qY n) (Oz n)
theorem dA:Tryz.prog.funcs[164]?=some Tryz.f164:=by kernel_rfl
theorem eA:EntryOk Tryz.prog gl ⟨164,gf,some (.flat mD),none⟩:=dN dA (by kernel_rfl) (by kernel_rfl) (by kernel_rfl) (by kernel_rfl)
def Th (n:Nat):List Entry:=⟨164,gf,some (.flat mD),none⟩::cQ n
theorem Nk (n:Nat):AllOk Tryz.prog gl (Th n):=.cons eA (WQ n)
def Jn (n:Nat) {R:Type} (s:BA) (c:Int) (k:Int→Option R):Option R:=
 k (Lib.indexByte s.data.toList (Nat.toUInt8 (Int.toNat c)))
def eo (n:Nat) (s:BA) (c:Int):Option Int:=Jn n s c some
theorem eP (n:Nat) {S:Type}:∀ s c (φ:_→Option S),(eo n s c).bind φ=Jn n s c φ:=by
 intros;unfold eo Jn;first | (simp only [fa,ba,iB,bB,oL,oX,nB,Option.bind_some]) | rfl
def nw (n:Nat):Hint Out:={ live:=fun c=>[],run:=fun c=>none,xm:=fun c q=>none }
theorem yJ (n:Nat):ta tys (da Out (Th n)) (nw n) n (aa Tryz.f142) 0:=ma (fun _=>rfl) _ _ (by kernel_rfl)
theorem tL (n:Nat):Enters Tryz.prog 142:=enters_of (c:=aa Tryz.f142) Tryz.func142 (by kernel_rfl) (by kernel_rfl)
def jA (n:Nat):Entry:=⟨142,pcT (.pair .str (.pair (.int .u8) .unit)) (.one (.int .i64)) (fun xs=>eo n xs.1 xs.2.1),none,none⟩
theorem bN (n:Nat):EntryOk Tryz.prog gl (jA n):=
 Qa (tL n) fun xs y h=>ra tys_ok (Nk n) mixed (hint:=nw n) (n:=n) Tryz.func142 (Pa (yJ n)) (la (φ:=(fun y=>some (Out.ret (Vf (.one (.int .i64)) y)))) (by kernel_rfl) (eP n xs.1 xs.2.1 _) h)
def Dr (n:Nat):List Entry:=jA n::Th n
theorem cu (n:Nat):AllOk Tryz.prog gl (Dr n):=.cons (bN n) (Nk n)
def Vn (n:Nat) {R:Type} (s:BA) (c:Int) (k:Int→Option R):Option R:=
 (eo n s c).bind fun v=>
 k v
def sg (n:Nat) (s:BA) (c:Int):Option Int:=Vn n s c some
theorem QP (n:Nat) {S:Type}:∀ s c (φ:_→Option S),(sg n s c).bind φ=Vn n s c φ:=by
 intros;unfold sg Vn;first | (simp only [fa,ba,iB,bB,oL,oX,nB,Option.bind_some]) | rfl
def Yw (n:Nat):Hint Out:={ live:=fun c=>[],run:=fun c=>none,xm:=fun c q=>none }
theorem oK (n:Nat):ta tys (da Out (Dr n)) (Yw n) n (aa Tryz.f185) 0:=ma (fun _=>rfl) _ _ (by kernel_rfl)
theorem XL (n:Nat):Enters Tryz.prog 185:=enters_of (c:=aa Tryz.f185) Tryz.func185 (by kernel_rfl) (by kernel_rfl)
def tC (n:Nat):Entry:=⟨185,pcT (.pair .str (.pair (.int .u8) .unit)) (.one (.int .i64)) (fun xs=>sg n xs.1 xs.2.1),none,none⟩
theorem sO (n:Nat):EntryOk Tryz.prog gl (tC n):=
 Qa (XL n) fun xs y h=>ra tys_ok (cu n) mixed (hint:=Yw n) (n:=n) Tryz.func185 (Pa (oK n)) (la (φ:=(fun y=>some (Out.ret (Vf (.one (.int .i64)) y)))) (by kernel_rfl) (QP n xs.1 xs.2.1 _) h)
def ot (n:Nat):List Entry:=tC n::Dr n
theorem Ju (n:Nat):AllOk Tryz.prog gl (ot n):=.cons (sO n) (cu n)
def JG (n:Nat) {R:Type} (c:Int) (k:Bool→Option R):Option R:=
 (pF n c).bind fun v=>
 if v=false then
 if (decide (c≥(65:Int)))=true then
  if (decide (c≤(90:Int)))=false then
  (sg n (⟨#[33,35,36,37,38,39,42,43,45,47,61,63,94,95,96,123,124,125,126]⟩:BA) c).bind fun v1=>
  k (decide (v1≥(0:Int)))
  else
  k true
 else
  (sg n (⟨#[33,35,36,37,38,39,42,43,45,47,61,63,94,95,96,123,124,125,126]⟩:BA) c).bind fun v2=>
  k (decide (v2≥(0:Int)))
 else
 k true
def lF (n:Nat) (c:Int):Option Bool:=JG n c some
theorem JZ (n:Nat) {S:Type}:∀ c (φ:_→Option S),(lF n c).bind φ=JG n c φ:=by
 intros;unfold lF JG;first | (simp only [fa,ba,iB,bB,oL,oX,nB,Option.bind_some]) | rfl
def EK (n:Nat):Hint Out:={ live:=fun c=>[],run:=fun c=>none,xm:=fun c q=>none }
theorem QS (n:Nat):ta tys (da Out (ot n)) (EK n) n (aa Tryz.f199) 0:=ma (fun _=>rfl) _ _ (by kernel_rfl)
theorem pV (n:Nat):Enters Tryz.prog 199:=enters_of (c:=aa Tryz.f199) Tryz.func199 (by kernel_rfl) (by kernel_rfl)
def XP (n:Nat):Entry:=⟨199,pcT (.pair (.int .u8) .unit) (.one .bool) (fun xs=>lF n xs.1),none,none⟩
theorem kY (n:Nat):EntryOk Tryz.prog gl (XP n):=
 Qa (pV n) fun xs y h=>ra tys_ok (Ju n) mixed (hint:=EK n) (n:=n) Tryz.func199 (Pa (QS n)) (la (φ:=(fun y=>some (Out.ret (Vf (.one .bool) y)))) (by kernel_rfl) (JZ n xs.1 _) h)
def fw (n:Nat):List Entry:=XP n::ot n
theorem KG (n:Nat):AllOk Tryz.prog gl (fw n):=.cons (kY n) (Ju n)
def Tm (n:Nat) {R:Type} (s1:BA) (word t6 t7:Int) (kn:BA→Int→Int→Int→Option R) (ko:(Int)→Option R) (kr:(Bool)→Option R) (kp:Int→Option R):Option R:=
 if (decide (t7<t6))=true then
 if 0≤t7∧t7<(s1.size:Int) then
  if ((bt s1 t7)==(46:Int))=true then
  if (word==(0:Int))=false then
   if 0≤t7∧t7<(s1.size:Int) then
   if ((bt s1 t7) !=(46:Int))=true then
    if 0≤t7∧t7<(s1.size:Int) then
    (lF n (bt s1 t7)).bind fun v=>
    if (!v)=true then
     kr false
    else
     if 0≤t7∧t7<(s1.size:Int) then
     if ((bt s1 t7)==(46:Int))=true then
      kn s1 (0:Int) t6 (IntKind.wrap .i64 (t7+(1:Int)))
     else
      kn s1 (IntKind.wrap .i64 (word+(1:Int))) t6 (IntKind.wrap .i64 (t7+(1:Int)))
     else
     none
    else
    none
   else
    if 0≤t7∧t7<(s1.size:Int) then
    if ((bt s1 t7)==(46:Int))=true then
     kn s1 (0:Int) t6 (IntKind.wrap .i64 (t7+(1:Int)))
    else
     kn s1 (IntKind.wrap .i64 (word+(1:Int))) t6 (IntKind.wrap .i64 (t7+(1:Int)))
    else
    none
   else
   none
  else
   kr false
  else
  if 0≤t7∧t7<(s1.size:Int) then
   if ((bt s1 t7) !=(46:Int))=true then
   if 0≤t7∧t7<(s1.size:Int) then
    (lF n (bt s1 t7)).bind fun v1=>
    if (!v1)=true then
    kr false
    else
    if 0≤t7∧t7<(s1.size:Int) then
     if ((bt s1 t7)==(46:Int))=true then
     kn s1 (0:Int) t6 (IntKind.wrap .i64 (t7+(1:Int)))
     else
     kn s1 (IntKind.wrap .i64 (word+(1:Int))) t6 (IntKind.wrap .i64 (t7+(1:Int)))
    else
     none
   else
    none
   else
   if 0≤t7∧t7<(s1.size:Int) then
    if ((bt s1 t7)==(46:Int))=true then
    kn s1 (0:Int) t6 (IntKind.wrap .i64 (t7+(1:Int)))
    else
    kn s1 (IntKind.wrap .i64 (word+(1:Int))) t6 (IntKind.wrap .i64 (t7+(1:Int)))
   else
    none
  else
   none
 else
  none
 else
 ko word
def le (n:Nat):Nat→BA→Int→Int→Int→Option (Lx (Int) (Bool))
 | 0,_,_,_,_=>none
 | m+1,s1,word,t6,t7=>Tm n s1 word t6 t7 (le n m) (fun a=>some (.out a)) (fun a=>some (.ret a)) (fun p=>some (.pan p))
theorem RQ (n m:Nat) {S:Type}:∀ s1 word t6 t7 (φ:_→Option S),(le n (m+1) s1 word t6 t7).bind φ=Tm n s1 word t6 t7 (fun s1 word t6 t7=>(le n m s1 word t6 t7).bind φ) (fun a=>φ (.out a)) (fun a=>φ (.ret a)) (fun p=>φ (.pan p)):=by
 intros;first | (simp only [le,Tm,fa,ba,iB,bB,oL,oX,nB,Option.bind_some]) | rfl
def Su:List Sl:=.dat .str::.top::.top::.dat (.int .i64)::.top::.top::.dat (.int .i64)::.dat (.int .i64)::tp 32 []
def Ru:List RS:=[]
def XG:List Sl:=.top::.top::.top::.dat (.int .i64)::tp 36 []
def WG:List RS:=[]
def ZG:List Sl:=.top::.top::.dat .bool::tp 37 []
def YG:List RS:=[]
def ug (K:XE→List AV→ia→Option Out):Lx (Int) (Bool)→Option Out:=fun x=>onL x (fun a=>ak XG WG (a,()) () (K (.exit 0))) (fun a=>ak ZG YG (a,()) () (K .ret)) (fun _=>none)
def AC (n:Nat) {R:Type} (s:BA) (k:Bool→Option R):Option R:=
 (le n n s (0:Int) (s.size:Int) (0:Int)).bind fun x_1=>onL x_1
 (fun a_2=>
  k (decide (a_2>(0:Int))))
 (fun a_3=>
  k a_3)
 (fun _=>none)
def Vt (n:Nat) (s:BA):Option Bool:=AC n s some
theorem nY (n:Nat) {S:Type}:∀ s (φ:_→Option S),(Vt n s).bind φ=AC n s φ:=by
 intros;unfold Vt AC;first | (simp only [fa,ba,iB,bB,oL,oX,nB,Option.bind_some]) | rfl
def rq (n:Nat):Hint Out:={ live:=fun c=>(cond (Nat.beq c 0) (lv [0,3,6,7]) []),run:=fun c=>(cond (Nat.beq c 0) (some (aq Su Ru fun σ ρ K=>(le n n σ.1 σ.2.1 σ.2.2.1 σ.2.2.2.1).bind (ug K))) none),xm:=fun c q=>(cond (Nat.beq c 0&&Nat.beq (q.getD 1000000) 0&&q.isSome) (some [(3,none)]) (cond (Nat.beq c 1&&q.isNone) (some [(2,none)]) none)) }
def qq (n:Nat) (K:XE→List AV→ia→Option Out) (m:Nat) (s1:BA) (word:Int) (t6:Int) (t7:Int):Option Out:=Pe tys (da Out (fw n)) (rq n) n (Da [1,1,0,1,0,0] (aa Tryz.f186)) 0 Su Ru K m (s1,(word,(t6,(t7,())))) ()
theorem VG (n:Nat) (K:XE→List AV→ia→Option Out):∀ (m:Nat) s1 word t6 t7,qq n K m s1 word t6 t7=(le n m s1 word t6 t7).bind (ug K)
 | 0,_,_,_,_=>by kernel_rfl
 | m+1,s1,word,t6,t7=>by
  have h1:qq n K (m+1) s1 word t6 t7=Tm n s1 word t6 t7 (qq n K m) (fun a=>ug K (.out a)) (fun a=>ug K (.ret a)) (fun p=>ug K (.pan p)):=by kernel_rfl
  have h2:qq n K m=fun s1 word t6 t7=>(le n m s1 word t6 t7).bind (ug K):=by
   repeat (refine funext fun _=>?_)
   exact VG n K m _ _ _ _
  rw [h1,h2];exact (RQ n m _ _ _ _ (ug K)).symm
theorem PO (n:Nat):ie tys (da Out (fw n)) (rq n) n (Da [1,1,0,1,0,0] (aa Tryz.f186)) 0:=Oa (sp:=Su) (rp:=Ru) (by kernel_rfl) fun K σ ρ=>VG n K n σ.1 σ.2.1 σ.2.2.1 σ.2.2.2.1
theorem SQ (n:Nat):ta tys (da Out (fw n)) (rq n) n (aa Tryz.f186) 0:=⟨trivial,⟨trivial,⟨⟨trivial,⟨PO n,⟨trivial,⟨⟨trivial,trivial⟩,⟨⟨trivial,⟨⟨trivial,⟨⟨trivial,trivial⟩,trivial⟩⟩,⟨trivial,⟨trivial,⟨trivial,trivial⟩⟩⟩⟩⟩,trivial⟩⟩⟩⟩⟩,⟨trivial,trivial⟩⟩⟩⟩
theorem XS (n:Nat):Enters Tryz.prog 186:=enters_of (c:=aa Tryz.f186) Tryz.func186 (by kernel_rfl) (by kernel_rfl)
def DM (n:Nat):Entry:=⟨186,pcT (.pair .str .unit) (.one .bool) (fun xs=>Vt n xs.1),none,none⟩
theorem sV (n:Nat):EntryOk Tryz.prog gl (DM n):=
 Qa (XS n) fun xs y h=>ra tys_ok (KG n) mixed (hint:=rq n) (n:=n) Tryz.func186 (Pa (SQ n)) (la (φ:=(fun y=>some (Out.ret (Vf (.one .bool) y)))) (by kernel_rfl) (nY n xs.1 _) h)
def rr (n:Nat):List Entry:=DM n::fw n
theorem tE (n:Nat):AllOk Tryz.prog gl (rr n):=.cons (sV n) (KG n)
def Ph (n:Nat) {R:Type} (s1:BA) (t10 t11:Int) (r1:(Sq Int)) (kn:BA→Int→Int→(Sq Int)→Option R) (ko:((Sq Int))→Option R) (kr:Unit→Option R) (kp:Int→Option R):Option R:=
 if (decide (t11<t10))=true then
 if 0≤t11∧t11<(s1.size:Int) then
  if ((bt s1 t11)==(34:Int))=false then
  if 0≤t11∧t11<(s1.size:Int) then
   if ((bt s1 t11)==(92:Int))=true then
   (ib n (92:Int) r1).bind fun v2=>
   if 0≤t11∧t11<(s1.size:Int) then
    (ib n (bt s1 t11) v2.1).bind fun v3=>
    kn s1 t10 (IntKind.wrap .i64 (t11+(1:Int))) v3.1
   else
    none
   else
   if 0≤t11∧t11<(s1.size:Int) then
    (ib n (bt s1 t11) r1).bind fun v4=>
    kn s1 t10 (IntKind.wrap .i64 (t11+(1:Int))) v4.1
   else
    none
  else
   none
  else
  (ib n (92:Int) r1).bind fun v5=>
  if 0≤t11∧t11<(s1.size:Int) then
   (ib n (bt s1 t11) v5.1).bind fun v6=>
   kn s1 t10 (IntKind.wrap .i64 (t11+(1:Int))) v6.1
  else
   none
 else
  none
 else
 ko r1
def Zc (n:Nat):Nat→BA→Int→Int→(Sq Int)→Option (Lx ((Sq Int)) Unit)
 | 0,_,_,_,_=>none
 | m+1,s1,t10,t11,r1=>Ph n s1 t10 t11 r1 (Zc n m) (fun a=>some (.out a)) (fun a=>some (.ret a)) (fun p=>some (.pan p))
theorem TQ (n m:Nat) {S:Type}:∀ s1 t10 t11 r1 (φ:_→Option S),(Zc n (m+1) s1 t10 t11 r1).bind φ=Ph n s1 t10 t11 r1 (fun s1 t10 t11 r1=>(Zc n m s1 t10 t11 r1).bind φ) (fun a=>φ (.out a)) (fun a=>φ (.ret a)) (fun p=>φ (.pan p)):=by
 intros;first | (simp only [Zc,Ph,fa,ba,iB,bB,oL,oX,nB,Option.bind_some]) | rfl
def Uu:List Sl:=.dat .str::.top::.top::.ptr 0 0 0::tp 6 (.dat (.int .i64)::.dat (.int .i64)::tp 20 [])
def Tu:List RS:=[.box 126 2 false [.ptr 0 0 0,.row 1],.row 5 1 (.int .u8) true false]
def cH:List Sl:=.top::.top::.top::.ptr 0 0 0::tp 28 []
def bH:List RS:=[.box 126 2 false [.ptr 0 0 0,.row 1],.row 5 1 (.int .u8) true false]
def vg (K:XE→List AV→ia→Option Out):Lx ((Sq Int)) Unit→Option Out:=fun x=>onL x (fun a=>ak cH bH () ((),(a,())) (K (.exit 0))) (fun _=>none) (fun _=>none)
def CC (n:Nat) {R:Type} (s:BA) (k:BA→Option R):Option R:=
 (Vt n s).bind fun v=>
 if v=true then
 k s
 else
 (ic n (34:Int)).bind fun v1=>
 (Zc n n s (s.size:Int) (0:Int) v1.1).bind fun x_1=>onL x_1
  (fun a_2=>
  (Zd n a_2).bind fun v7=>
  if Ca v7.1 (⟨#[34]⟩:BA)=true then
   k (v7.1++(⟨#[34]⟩:BA))
  else
   none)
  (fun _=>none)
  (fun _=>none)
def BC (n:Nat) (s:BA):Option BA:=CC n s some
theorem oY (n:Nat) {S:Type}:∀ s (φ:_→Option S),(BC n s).bind φ=CC n s φ:=by
 intros;unfold BC CC;first | (simp only [fa,ba,iB,bB,oL,oX,nB,Option.bind_some]) | rfl
def tq (n:Nat):Hint Out:={ live:=fun c=>(cond (Nat.beq c 0) (lv [0,3,10,11]) []),run:=fun c=>(cond (Nat.beq c 0) (some (aq Uu Tu fun σ ρ K=>(Zc n n σ.1 σ.2.1 σ.2.2.1 ρ.2.1).bind (vg K))) none),xm:=fun c q=>(cond (Nat.beq c 0&&Nat.beq (q.getD 1000000) 0&&q.isSome) (some [(3,none)]) none) }
def sq (n:Nat) (K:XE→List AV→ia→Option Out) (m:Nat) (s1:BA) (t10:Int) (t11:Int) (r1:(Sq Int)):Option Out:=Pe tys (da Out (rr n)) (tq n) n (Da [1,1,1,1,0,1,0,0] (aa Tryz.f184)) 0 Uu Tu K m (s1,(t10,(t11,()))) ((),(r1,()))
theorem aH (n:Nat) (K:XE→List AV→ia→Option Out):∀ (m:Nat) s1 t10 t11 r1,sq n K m s1 t10 t11 r1=(Zc n m s1 t10 t11 r1).bind (vg K)
 | 0,_,_,_,_=>by kernel_rfl
 | m+1,s1,t10,t11,r1=>by
  have h1:sq n K (m+1) s1 t10 t11 r1=Ph n s1 t10 t11 r1 (sq n K m) (fun a=>vg K (.out a)) (fun a=>vg K (.ret a)) (fun p=>vg K (.pan p)):=by kernel_rfl
  have h2:sq n K m=fun s1 t10 t11 r1=>(Zc n m s1 t10 t11 r1).bind (vg K):=by
   repeat (refine funext fun _=>?_)
   exact aH n K m _ _ _ _
  rw [h1,h2];exact (TQ n m _ _ _ _ (vg K)).symm
theorem QO (n:Nat):ie tys (da Out (rr n)) (tq n) n (Da [1,1,1,1,0,1,0,0] (aa Tryz.f184)) 0:=Oa (sp:=Uu) (rp:=Tu) (by kernel_rfl) fun K σ ρ=>aH n K n σ.1 σ.2.1 σ.2.2.1 ρ.2.1
theorem UQ (n:Nat):ta tys (da Out (rr n)) (tq n) n (aa Tryz.f184) 0:=⟨trivial,⟨⟨trivial,⟨⟨trivial,trivial⟩,trivial⟩⟩,⟨trivial,⟨trivial,⟨⟨trivial,⟨QO n,⟨trivial,⟨⟨trivial,trivial⟩,⟨⟨trivial,⟨⟨trivial,⟨trivial,trivial⟩⟩,trivial⟩⟩,trivial⟩⟩⟩⟩⟩,⟨trivial,trivial⟩⟩⟩⟩⟩⟩
theorem YS (n:Nat):Enters Tryz.prog 184:=enters_of (c:=aa Tryz.f184) Tryz.func184 (by kernel_rfl) (by kernel_rfl)
def EM (n:Nat):Entry:=⟨184,pcT (.pair .str .unit) (.one .str) (fun xs=>BC n xs.1),none,none⟩
theorem tV (n:Nat):EntryOk Tryz.prog gl (EM n):=
 Qa (YS n) fun xs y h=>ra tys_ok (tE n) mixed (hint:=tq n) (n:=n) Tryz.func184 (Pa (UQ n)) (la (φ:=(fun y=>some (Out.ret (Vf (.one .str) y)))) (by kernel_rfl) (oY n xs.1 _) h)
def mF (n:Nat):List Entry:=EM n::rr n
theorem Vu (n:Nat):AllOk Tryz.prog gl (mF n):=.cons (tV n) (tE n)
def Lk (n:Nat) {R:Type} (s:BA) (k:(BA×BA×Unit)→Option R) (kp:Int→Option R):Option R:=
 (Sa n s (⟨#[34]⟩:BA)).bind fun v=>
 if v=true then
 (me n s).bind fun x_1=>onX x_1 (fun p=>
  kp p) (fun v1=>
 (BC n v1.1).bind fun v2=>
 k (v2,(v1.2.1,())))
 else
 (sg n s (64:Int)).bind fun v3=>
 if (decide (v3≥(0:Int)))=true then
  if 0≤v3∧v3≤(s.size:Int) then
  (Vt n (s.extract (Int.toNat (0:Int)) (Int.toNat v3))).bind fun v4=>
  (jc n v4).bind fun x_2=>onX x_2 (fun p1=>
   kp p1) (fun v5=>
  if 0≤v3∧v3≤(s.size:Int) then
   if 0≤v3∧v3≤(s.size:Int) then
   k ((s.extract (Int.toNat (0:Int)) (Int.toNat v3)),((s.extract (Int.toNat v3) (Int.toNat (s.size:Int))),()))
   else
   none
  else
   none)
  else
  none
 else
  (jc n false).bind fun x_3=>onX x_3 (fun p2=>
  kp p2) (fun v6=>
  if 0≤v3∧v3≤(s.size:Int) then
  if 0≤v3∧v3≤(s.size:Int) then
   k ((s.extract (Int.toNat (0:Int)) (Int.toNat v3)),((s.extract (Int.toNat v3) (Int.toNat (s.size:Int))),()))
  else
   none
  else
  none)
def bl (n:Nat) (s:BA):Option (Except Int (BA×BA×Unit)):=Lk n s (fun y=>some (.ok y)) (fun p=>some (.error p))
theorem YP (n:Nat) {S:Type}:∀ s (φ:_→Option S),(bl n s).bind φ=Lk n s (fun y=>φ (.ok y)) (fun p=>φ (.error p)):=by
 intros;unfold bl Lk;first | (simp only [fa,ba,iB,bB,oL,oX,nB,Option.bind_some]) | rfl
def px (n:Nat):Hint Out:={ live:=fun c=>[],run:=fun c=>none,xm:=fun c q=>none }
theorem SG (n:Nat):ta tys (da Out (mF n)) (px n) n (aa Tryz.f166) 0:=ma (fun _=>rfl) _ _ (by kernel_rfl)
theorem US (n:Nat):Enters Tryz.prog 166:=enters_of (c:=aa Tryz.f166) Tryz.func166 (by kernel_rfl) (by kernel_rfl)
def CM (n:Nat):Entry:=⟨166,pcX 184 (.pair .str .unit) (.many (.pair .str (.pair .str .unit))) (fun xs=>bl n xs.1),none,none⟩
theorem qV (n:Nat):EntryOk Tryz.prog gl (CM n):=
 HX (US n) (fun xs y h=>ra tys_ok (Vu n) mixed (hint:=px n) (n:=n) Tryz.func166 (Pa (SG n)) (la (φ:=(fun r=>onX r (fun p=>some (Out.pan (yC 184 p))) fun y=>some (Out.ret (Vf (.many (.pair .str (.pair .str .unit))) y)))) (by kernel_rfl) (YP n xs.1 _) h))
  (fun xs p h=>ra tys_ok (Vu n) mixed (hint:=px n) (n:=n) Tryz.func166 (Pa (SG n)) (la (φ:=(fun r=>onX r (fun p=>some (Out.pan (yC 184 p))) fun y=>some (Out.ret (Vf (.many (.pair .str (.pair .str .unit))) y)))) (by kernel_rfl) (YP n xs.1 _) h))
def qr (n:Nat):List Entry:=CM n::mF n
theorem sE (n:Nat):AllOk Tryz.prog gl (qr n):=.cons (qV n) (Vu n)
def Qh (n:Nat) {R:Type} (t9 t10:Int) (b:(Sq Int)) (kn:Int→Int→(Sq Int)→Option R) (ko:((Sq Int))→Option R) (kr:Unit→Option R) (kp:Int→Option R):Option R:=
 if (decide (t10<t9))=true then
 if 0≤t10∧t10<(b.n:Int) then
  if (decide ((b.at' (Int.toNat t10))≥(65:Int)))=true then
  if (decide ((b.at' (Int.toNat t10))≤(90:Int)))=true then
   if 0≤t10∧t10<(b.n:Int) then
   kn t9 (IntKind.wrap .i64 (t10+(1:Int))) (⟨b.n,fun q=>if q=(Int.toNat t10)∧q<b.n then (IntKind.wrap .u8 ((IntKind.wrap .u8 ((b.at' (Int.toNat t10))+(97:Int))) - (65:Int))) else b.at' q⟩:Sq Int)
   else
   none
  else
   kn t9 (IntKind.wrap .i64 (t10+(1:Int))) b
  else
  kn t9 (IntKind.wrap .i64 (t10+(1:Int))) b
 else
  none
 else
 ko b
def Cc (n:Nat):Nat→Int→Int→(Sq Int)→Option (Lx ((Sq Int)) Unit)
 | 0,_,_,_=>none
 | m+1,t9,t10,b=>Qh n t9 t10 b (Cc n m) (fun a=>some (.out a)) (fun a=>some (.ret a)) (fun p=>some (.pan p))
theorem XQ (n m:Nat) {S:Type}:∀ t9 t10 b (φ:_→Option S),(Cc n (m+1) t9 t10 b).bind φ=Qh n t9 t10 b (fun t9 t10 b=>(Cc n m t9 t10 b).bind φ) (fun a=>φ (.out a)) (fun a=>φ (.ret a)) (fun p=>φ (.pan p)):=by
 intros;first | (simp only [Cc,Qh,fa,ba,iB,bB,oL,oX,nB,Option.bind_some]) | rfl
def Xu:List Sl:=.top::.top::.top::.row 0::tp 4 (.row 0::.dat (.int .i64)::.dat (.int .i64)::tp 19 [])
def Wu:List RS:=[.row 5 1 (.int .u8) false true]
def iH:List Sl:=.top::.top::.top::.row 0::tp 26 []
def gH:List RS:=[.row 5 1 (.int .u8) false true]
def wg (K:XE→List AV→ia→Option Out):Lx ((Sq Int)) Unit→Option Out:=fun x=>onL x (fun a=>ak iH gH () (a,()) (K (.exit 0))) (fun _=>none) (fun _=>none)
def DC (n:Nat) {R:Type} (s:BA) (k:BA→Option R):Option R:=
 (Cc n n (s.size:Int) (0:Int) (⟨s.size,fun q=>bt s q⟩:Sq Int)).bind fun x_1=>onL x_1
 (fun a_2=>
  k (Oh a_2.n a_2.at'))
 (fun _=>none)
 (fun _=>none)
def Wt (n:Nat) (s:BA):Option BA:=DC n s some
theorem rY (n:Nat) {S:Type}:∀ s (φ:_→Option S),(Wt n s).bind φ=DC n s φ:=by
 intros;unfold Wt DC;first | (simp only [fa,ba,iB,bB,oL,oX,nB,Option.bind_some]) | rfl
def vq (n:Nat):Hint Out:={ live:=fun c=>(cond (Nat.beq c 0) [(3,some (.sl (.int .u8))),(8,some (.sl (.int .u8))),(9,none),(10,none)] []),run:=fun c=>(cond (Nat.beq c 0) (some (aq Xu Wu fun σ ρ K=>(Cc n n σ.1 σ.2.1 ρ.1).bind (wg K))) none),xm:=fun c q=>(cond (Nat.beq c 0&&Nat.beq (q.getD 1000000) 0&&q.isSome) (some [(3,some (.sl (.int .u8)))]) none) }
def uq (n:Nat) (K:XE→List AV→ia→Option Out) (m:Nat) (t9:Int) (t10:Int) (b:(Sq Int)):Option Out:=Pe tys (da Out (qr n)) (vq n) n (Da [1,1,0,1,0,0] (aa Tryz.f159)) 0 Xu Wu K m (t9,(t10,())) (b,())
theorem fH (n:Nat) (K:XE→List AV→ia→Option Out):∀ (m:Nat) t9 t10 b,uq n K m t9 t10 b=(Cc n m t9 t10 b).bind (wg K)
 | 0,_,_,_=>by kernel_rfl
 | m+1,t9,t10,b=>by
  have h1:uq n K (m+1) t9 t10 b=Qh n t9 t10 b (uq n K m) (fun a=>wg K (.out a)) (fun a=>wg K (.ret a)) (fun p=>wg K (.pan p)):=by kernel_rfl
  have h2:uq n K m=fun t9 t10 b=>(Cc n m t9 t10 b).bind (wg K):=by
   repeat (refine funext fun _=>?_)
   exact fH n K m _ _ _
  rw [h1,h2];exact (XQ n m _ _ _ (wg K)).symm
theorem SO (n:Nat):ie tys (da Out (qr n)) (vq n) n (Da [1,1,0,1,0,0] (aa Tryz.f159)) 0:=Oa (sp:=Xu) (rp:=Wu) (by kernel_rfl) fun K σ ρ=>fH n K n σ.1 σ.2.1 ρ.1
theorem YQ (n:Nat):ta tys (da Out (qr n)) (vq n) n (aa Tryz.f159) 0:=⟨trivial,⟨trivial,⟨⟨trivial,⟨SO n,⟨trivial,⟨⟨trivial,trivial⟩,⟨⟨trivial,⟨trivial,⟨trivial,trivial⟩⟩⟩,trivial⟩⟩⟩⟩⟩,⟨trivial,trivial⟩⟩⟩⟩
theorem cT (n:Nat):Enters Tryz.prog 159:=enters_of (c:=aa Tryz.f159) Tryz.func159 (by kernel_rfl) (by kernel_rfl)
def HM (n:Nat):Entry:=⟨159,pcT (.pair .str .unit) (.one .str) (fun xs=>Wt n xs.1),none,none⟩
theorem wV (n:Nat):EntryOk Tryz.prog gl (HM n):=
 Qa (cT n) fun xs y h=>ra tys_ok (sE n) mixed (hint:=vq n) (n:=n) Tryz.func159 (Pa (YQ n)) (la (φ:=(fun y=>some (Out.ret (Vf (.one .str) y)))) (by kernel_rfl) (rY n xs.1 _) h)
def qF (n:Nat):List Entry:=HM n::qr n
theorem xE (n:Nat):AllOk Tryz.prog gl (qF n):=.cons (wV n) (sE n)
def Dn (n:Nat) {R:Type} (s:BA) (k:Bool→Option R):Option R:=
 (Sa n s (⟨#[91]⟩:BA)).bind fun v=>
 k v
def qg (n:Nat) (s:BA):Option Bool:=Dn n s some
theorem KO (n:Nat) {S:Type}:∀ s (φ:_→Option S),(qg n s).bind φ=Dn n s φ:=by
 intros;unfold qg Dn;first | (simp only [fa,ba,iB,bB,oL,oX,nB,Option.bind_some]) | rfl
def ew (n:Nat):Hint Out:={ live:=fun c=>[],run:=fun c=>none,xm:=fun c q=>none }
theorem mJ (n:Nat):ta tys (da Out (qF n)) (ew n) n (aa Tryz.f128) 0:=ma (fun _=>rfl) _ _ (by kernel_rfl)
theorem nL (n:Nat):Enters Tryz.prog 128:=enters_of (c:=aa Tryz.f128) Tryz.func128 (by kernel_rfl) (by kernel_rfl)
def Hz (n:Nat):Entry:=⟨128,pcT (.pair .str .unit) (.one .bool) (fun xs=>qg n xs.1),none,none⟩
theorem Jz (n:Nat):EntryOk Tryz.prog gl (Hz n):=
 Qa (nL n) fun xs y h=>ra tys_ok (xE n) mixed (hint:=ew n) (n:=n) Tryz.func128 (Pa (mJ n)) (la (φ:=(fun y=>some (Out.ret (Vf (.one .bool) y)))) (by kernel_rfl) (KO n xs.1 _) h)
def Iz (n:Nat):List Entry:=Hz n::qF n
theorem GG (n:Nat):AllOk Tryz.prog gl (Iz n):=.cons (Jz n) (xE n)
theorem uJ:Tryz.prog.funcs[201]?=some Tryz.f201:=by kernel_rfl
theorem vJ:EntryOk Tryz.prog gl ⟨201,gf,some (.flat dY),none⟩:=CV uJ (by kernel_rfl) (by kernel_rfl) (by kernel_rfl) (by kernel_rfl)
def Vm (n:Nat):List Entry:=⟨201,gf,some (.flat dY),none⟩::Iz n
theorem qp (n:Nat):AllOk Tryz.prog gl (Vm n):=.cons vJ (GG n)
def iD (n:Nat) {R:Type} (s substr:BA) (k:Int→Option R):Option R:=
 (DE s substr).bind fun v=>
 k v
def Un (n:Nat) (s substr:BA):Option Int:=iD n s substr some
theorem oZ (n:Nat) {S:Type}:∀ s substr (φ:_→Option S),(Un n s substr).bind φ=iD n s substr φ:=by
 intros;unfold Un iD;first | (simp only [fa,ba,iB,bB,oL,oX,nB,Option.bind_some]) | rfl
def YI (n:Nat):Hint Out:={ live:=fun c=>[],run:=fun c=>none,xm:=fun c q=>none }
theorem AS (n:Nat):ta tys (da Out (Vm n)) (YI n) n (aa Tryz.f127) 0:=ma (fun _=>rfl) _ _ (by kernel_rfl)
theorem PU (n:Nat):Enters Tryz.prog 127:=enters_of (c:=aa Tryz.f127) Tryz.func127 (by kernel_rfl) (by kernel_rfl)
def tO (n:Nat):Entry:=⟨127,pcT (.pair .str (.pair .str .unit)) (.one (.int .i64)) (fun xs=>Un n xs.1 xs.2.1),none,none⟩
theorem uO (n:Nat):EntryOk Tryz.prog gl (tO n):=
 Qa (PU n) fun xs y h=>ra tys_ok (qp n) mixed (hint:=YI n) (n:=n) Tryz.func127 (Pa (AS n)) (la (φ:=(fun y=>some (Out.ret (Vf (.one (.int .i64)) y)))) (by kernel_rfl) (oZ n xs.1 xs.2.1 _) h)
def rt (n:Nat):List Entry:=tO n::Vm n
theorem fF (n:Nat):AllOk Tryz.prog gl (rt n):=.cons (uO n) (qp n)
def uy (n:Nat) {R:Type} (s1 substr1:BA) (n0:Int) (kn:BA→BA→Int→Option R) (ko:Unit→Option R) (kr:(Int)→Option R) (kp:Int→Option R):Option R:=
 (Un n s1 substr1).bind fun v=>
 if (v==(-1:Int))=true then
 kr n0
 else
 if 0≤(IntKind.wrap .i64 (v+(substr1.size:Int)))∧(IntKind.wrap .i64 (v+(substr1.size:Int)))≤(s1.size:Int) then
  kn (s1.extract (Int.toNat (IntKind.wrap .i64 (v+(substr1.size:Int)))) (Int.toNat (s1.size:Int))) substr1 (IntKind.wrap .i64 (n0+(1:Int)))
 else
  none
def ri (n:Nat):Nat→BA→BA→Int→Option (Lx Unit (Int))
 | 0,_,_,_=>none
 | m+1,s1,substr1,n0=>uy n s1 substr1 n0 (ri n m) (fun a=>some (.out a)) (fun a=>some (.ret a)) (fun p=>some (.pan p))
theorem xS (n m:Nat) {S:Type}:∀ s1 substr1 n0 (φ:_→Option S),(ri n (m+1) s1 substr1 n0).bind φ=uy n s1 substr1 n0 (fun s1 substr1 n0=>(ri n m s1 substr1 n0).bind φ) (fun a=>φ (.out a)) (fun a=>φ (.ret a)) (fun p=>φ (.pan p)):=by
 intros;first | (simp only [ri,uy,fa,ba,iB,bB,oL,oX,nB,Option.bind_some]) | rfl
def Yv:List Sl:=.dat .str::.dat .str::.top::.top::.top::.dat (.int .i64)::tp 28 []
def Xv:List RS:=[]
def WI:List Sl:=tp 4 (.dat (.int .i64)::tp 29 [])
def VI:List RS:=[]
def eh (K:XE→List AV→ia→Option Out):Lx Unit (Int)→Option Out:=fun x=>onL x (fun _=>none) (fun a=>ak WI VI (a,()) () (K .ret)) (fun _=>none)
def gD (n:Nat) {R:Type} (s substr:BA) (k:Int→Option R):Option R:=
 if ((substr.size:Int)==(0:Int))=true then
 none
 else
 if ((substr.size:Int)==(1:Int))=true then
  if 0≤(0:Int)∧(0:Int)<(substr.size:Int) then
  k ((Lib.countByte s.data.toList (Nat.toUInt8 (Int.toNat (bt substr (0:Int)))):Nat):Int)
  else
  none
 else
  (ri n n s substr (0:Int)).bind fun x_1=>onL x_1
  (fun _=>none)
  (fun a_2=>
   k a_2)
  (fun _=>none)
def fD (n:Nat) (s substr:BA):Option Int:=gD n s substr some
theorem mZ (n:Nat) {S:Type}:∀ s substr (φ:_→Option S),(fD n s substr).bind φ=gD n s substr φ:=by
 intros;unfold fD gD;first | (simp only [fa,ba,iB,bB,oL,oX,nB,Option.bind_some]) | rfl
def ar (n:Nat):Hint Out:={ live:=fun c=>(cond (Nat.beq c 0) (lv [0,1,5]) []),run:=fun c=>(cond (Nat.beq c 0) (some (aq Yv Xv fun σ ρ K=>(ri n n σ.1 σ.2.1 σ.2.2.1).bind (eh K))) none),xm:=fun c q=>(cond (Nat.beq c 1&&q.isNone) (some [(4,none)]) none) }
def Zq (n:Nat) (K:XE→List AV→ia→Option Out) (m:Nat) (s1:BA) (substr1:BA) (n0:Int):Option Out:=Pe tys (da Out (rt n)) (ar n) n (Da [1,1,1,1,0,0] (aa Tryz.f188)) 0 Yv Xv K m (s1,(substr1,(n0,()))) ()
theorem UI (n:Nat) (K:XE→List AV→ia→Option Out):∀ (m:Nat) s1 substr1 n0,Zq n K m s1 substr1 n0=(ri n m s1 substr1 n0).bind (eh K)
 | 0,_,_,_=>by kernel_rfl
 | m+1,s1,substr1,n0=>by
  have h1:Zq n K (m+1) s1 substr1 n0=uy n s1 substr1 n0 (Zq n K m) (fun a=>eh K (.out a)) (fun a=>eh K (.ret a)) (fun p=>eh K (.pan p)):=by kernel_rfl
  have h2:Zq n K m=fun s1 substr1 n0=>(ri n m s1 substr1 n0).bind (eh K):=by
   repeat (refine funext fun _=>?_)
   exact UI n K m _ _ _
  rw [h1,h2];exact (xS n m _ _ _ (eh K)).symm
theorem NP (n:Nat):ie tys (da Out (rt n)) (ar n) n (Da [1,1,1,1,0,0] (aa Tryz.f188)) 0:=Oa (sp:=Yv) (rp:=Xv) (by kernel_rfl) fun K σ ρ=>UI n K n σ.1 σ.2.1 σ.2.2.1
theorem yS (n:Nat):ta tys (da Out (rt n)) (ar n) n (aa Tryz.f188) 0:=⟨trivial,⟨⟨trivial,⟨⟨trivial,trivial⟩,trivial⟩⟩,⟨⟨trivial,⟨⟨trivial,trivial⟩,trivial⟩⟩,⟨trivial,⟨NP n,⟨trivial,⟨⟨trivial,⟨⟨trivial,trivial⟩,trivial⟩⟩,⟨trivial,trivial⟩⟩⟩⟩⟩⟩⟩⟩
theorem NU (n:Nat):Enters Tryz.prog 188:=enters_of (c:=aa Tryz.f188) Tryz.func188 (by kernel_rfl) (by kernel_rfl)
def oO (n:Nat):Entry:=⟨188,pcT (.pair .str (.pair .str .unit)) (.one (.int .i64)) (fun xs=>fD n xs.1 xs.2.1),none,none⟩
theorem IW (n:Nat):EntryOk Tryz.prog gl (oO n):=
 Qa (NU n) fun xs y h=>ra tys_ok (fF n) mixed (hint:=ar n) (n:=n) Tryz.func188 (Pa (yS n)) (la (φ:=(fun y=>some (Out.ret (Vf (.one (.int .i64)) y)))) (by kernel_rfl) (mZ n xs.1 xs.2.1 _) h)
def kt (n:Nat):List Entry:=oO n::rt n
theorem eF (n:Nat):AllOk Tryz.prog gl (kt n):=.cons (IW n) (fF n)
def uh (n:Nat) {R:Type} (s1 sep1:BA) (sepSave1 n01 i:Int) (a:(Sq BA)) (kn:BA→BA→Int→Int→Int→(Sq BA)→Option R) (ko:(BA×Int×(Sq BA))→Option R) (kr:Unit→Option R) (kp:Int→Option R):Option R:=
 if (decide (i<n01))=true then
 (Un n s1 sep1).bind fun v1=>
 if (decide (v1<(0:Int)))=true then
  ko (s1,i,a)
 else
  if 0≤(IntKind.wrap .i64 (v1+sepSave1))∧(IntKind.wrap .i64 (v1+sepSave1))≤(s1.size:Int) then
  if 0≤i∧i<(a.n:Int) then
   if 0≤(IntKind.wrap .i64 (v1+(sep1.size:Int)))∧(IntKind.wrap .i64 (v1+(sep1.size:Int)))≤(s1.size:Int) then
   kn (s1.extract (Int.toNat (IntKind.wrap .i64 (v1+(sep1.size:Int)))) (Int.toNat (s1.size:Int))) sep1 sepSave1 n01 (IntKind.wrap .i64 (i+(1:Int))) (⟨a.n,fun q=>if q=(Int.toNat i)∧q<a.n then (s1.extract (Int.toNat (0:Int)) (Int.toNat (IntKind.wrap .i64 (v1+sepSave1)))) else a.at' q⟩:Sq BA)
   else
   none
  else
   none
  else
  none
 else
 ko (s1,i,a)
def Tb (n:Nat):Nat→BA→BA→Int→Int→Int→(Sq BA)→Option (Lx (BA×Int×(Sq BA)) Unit)
 | 0,_,_,_,_,_,_=>none
 | m+1,s1,sep1,sepSave1,n01,i,a=>uh n s1 sep1 sepSave1 n01 i a (Tb n m) (fun a=>some (.out a)) (fun a=>some (.ret a)) (fun p=>some (.pan p))
theorem ZL (n m:Nat) {S:Type}:∀ s1 sep1 sepSave1 n01 i a (φ:_→Option S),(Tb n (m+1) s1 sep1 sepSave1 n01 i a).bind φ=uh n s1 sep1 sepSave1 n01 i a (fun s1 sep1 sepSave1 n01 i a=>(Tb n m s1 sep1 sepSave1 n01 i a).bind φ) (fun a=>φ (.out a)) (fun a=>φ (.ret a)) (fun p=>φ (.pan p)):=by
 intros;first | (simp only [Tb,uh,fa,ba,iB,bB,oL,oX,nB,Option.bind_some]) | rfl
def Bn:List Sl:=.dat .str::.dat .str::.dat (.int .i64)::.dat (.int .i64)::tp 5 (.row 0::.dat (.int .i64)::tp 55 [])
def An:List RS:=[.row 9 1 .str false false]
def vC:List Sl:=.dat .str::tp 8 (.row 0::.dat (.int .i64)::tp 55 [])
def uC:List RS:=[.row 9 1 .str false false]
def Pd (K:XE→List AV→ia→Option Out):Lx (BA×Int×(Sq BA)) Unit→Option Out:=fun x=>onL x (fun a=>ak vC uC (a.1,(a.2.1,())) (a.2.2,()) (K (.exit 0))) (fun _=>none) (fun _=>none)
def br (n:Nat) {R:Type} (s sep:BA) (sepSave n0:Int) (k:(Sq BA)→Option R):Option R:=
 if (n0==(0:Int))=true then
 k (⟨0,fun _=>Ba .str⟩:Sq BA)
 else
 if (sep.toList==(⟨#[]⟩:BA).toList)=true then
  none
 else
  if (decide (n0<(0:Int)))=true then
  (fD n s sep).bind fun v=>
  if 0≤(if (IntKind.wrap .i64 ((s.size:Int)+(1:Int)))<(IntKind.wrap .i64 (v+(1:Int))) then (IntKind.wrap .i64 ((s.size:Int)+(1:Int))) else (IntKind.wrap .i64 (v+(1:Int))))∧(if (IntKind.wrap .i64 ((s.size:Int)+(1:Int)))<(IntKind.wrap .i64 (v+(1:Int))) then (IntKind.wrap .i64 ((s.size:Int)+(1:Int))) else (IntKind.wrap .i64 (v+(1:Int))))≤(if (IntKind.wrap .i64 ((s.size:Int)+(1:Int)))<(IntKind.wrap .i64 (v+(1:Int))) then (IntKind.wrap .i64 ((s.size:Int)+(1:Int))) else (IntKind.wrap .i64 (v+(1:Int)))) then
   if Ta (Int.toNat (if (IntKind.wrap .i64 ((s.size:Int)+(1:Int)))<(IntKind.wrap .i64 (v+(1:Int))) then (IntKind.wrap .i64 ((s.size:Int)+(1:Int))) else (IntKind.wrap .i64 (v+(1:Int))))) 16=true then
   (Tb n n s sep sepSave (IntKind.wrap .i64 ((if (IntKind.wrap .i64 ((s.size:Int)+(1:Int)))<(IntKind.wrap .i64 (v+(1:Int))) then (IntKind.wrap .i64 ((s.size:Int)+(1:Int))) else (IntKind.wrap .i64 (v+(1:Int)))) - (1:Int))) (0:Int) (⟨(Int.toNat (if (IntKind.wrap .i64 ((s.size:Int)+(1:Int)))<(IntKind.wrap .i64 (v+(1:Int))) then (IntKind.wrap .i64 ((s.size:Int)+(1:Int))) else (IntKind.wrap .i64 (v+(1:Int))))),fun _=>(⟨#[]⟩:BA)⟩:Sq BA)).bind fun x_1=>onL x_1
    (fun a_2=>
    if 0≤a_2.2.1∧a_2.2.1<(a_2.2.2.n:Int) then
     if 0≤(IntKind.wrap .i64 (a_2.2.1+(1:Int)))∧(IntKind.wrap .i64 (a_2.2.1+(1:Int)))≤(a_2.2.2.n:Int) then
     k (⟨((Int.toNat (IntKind.wrap .i64 (a_2.2.1+(1:Int)))) - (Int.toNat (0:Int))),fun j_0=>(fun q=>if q=(Int.toNat a_2.2.1)∧q<a_2.2.2.n then a_2.1 else a_2.2.2.at' q) ((Int.toNat (0:Int))+j_0)⟩:Sq BA)
     else
     none
    else
     none)
    (fun _=>none)
    (fun _=>none)
   else
   none
  else
   none
  else
  if 0≤(if (IntKind.wrap .i64 ((s.size:Int)+(1:Int)))<n0 then (IntKind.wrap .i64 ((s.size:Int)+(1:Int))) else n0)∧(if (IntKind.wrap .i64 ((s.size:Int)+(1:Int)))<n0 then (IntKind.wrap .i64 ((s.size:Int)+(1:Int))) else n0)≤(if (IntKind.wrap .i64 ((s.size:Int)+(1:Int)))<n0 then (IntKind.wrap .i64 ((s.size:Int)+(1:Int))) else n0) then
   if Ta (Int.toNat (if (IntKind.wrap .i64 ((s.size:Int)+(1:Int)))<n0 then (IntKind.wrap .i64 ((s.size:Int)+(1:Int))) else n0)) 16=true then
   (Tb n n s sep sepSave (IntKind.wrap .i64 ((if (IntKind.wrap .i64 ((s.size:Int)+(1:Int)))<n0 then (IntKind.wrap .i64 ((s.size:Int)+(1:Int))) else n0) - (1:Int))) (0:Int) (⟨(Int.toNat (if (IntKind.wrap .i64 ((s.size:Int)+(1:Int)))<n0 then (IntKind.wrap .i64 ((s.size:Int)+(1:Int))) else n0)),fun _=>(⟨#[]⟩:BA)⟩:Sq BA)).bind fun x_3=>onL x_3
    (fun a_4=>
    if 0≤a_4.2.1∧a_4.2.1<(a_4.2.2.n:Int) then
     if 0≤(IntKind.wrap .i64 (a_4.2.1+(1:Int)))∧(IntKind.wrap .i64 (a_4.2.1+(1:Int)))≤(a_4.2.2.n:Int) then
     k (⟨((Int.toNat (IntKind.wrap .i64 (a_4.2.1+(1:Int)))) - (Int.toNat (0:Int))),fun j_0=>(fun q=>if q=(Int.toNat a_4.2.1)∧q<a_4.2.2.n then a_4.1 else a_4.2.2.at' q) ((Int.toNat (0:Int))+j_0)⟩:Sq BA)
     else
     none
    else
     none)
    (fun _=>none)
    (fun _=>none)
   else
   none
  else
   none
def ut (n:Nat) (s sep:BA) (sepSave n0:Int):Option (Sq BA):=br n s sep sepSave n0 some
theorem CS (n:Nat) {S:Type}:∀ s sep sepSave n0 (φ:_→Option S),(ut n s sep sepSave n0).bind φ=br n s sep sepSave n0 φ:=by
 intros;unfold ut br;first | (simp only [fa,ba,iB,bB,oL,oX,nB,Option.bind_some]) | rfl
def Wj (n:Nat):Hint Out:={ live:=fun c=>(cond (Nat.beq c 0) [(0,none),(1,none),(2,none),(3,none),(9,some (.sl .str)),(10,none)] []),run:=fun c=>(cond (Nat.beq c 0) (some (aq Bn An fun σ ρ K=>(Tb n n σ.1 σ.2.1 σ.2.2.1 σ.2.2.2.1 σ.2.2.2.2.1 ρ.1).bind (Pd K))) none),xm:=fun c q=>(cond (Nat.beq c 0&&Nat.beq (q.getD 1000000) 0&&q.isSome) (some [(0,none),(9,some (.sl .str)),(10,none)]) (cond (Nat.beq c 1&&Nat.beq (q.getD 1000000) 0&&q.isSome) (some [(0,none),(9,some (.sl .str)),(10,none)]) none)) }
def Vj (n:Nat) (K:XE→List AV→ia→Option Out) (m:Nat) (s1:BA) (sep1:BA) (sepSave1:Int) (n01:Int) (i:Int) (a:(Sq BA)):Option Out:=Pe tys (da Out (kt n)) (Wj n) n (Da [1,1,1,1,1,1,1,1,0,0,0] (aa Tryz.f168)) 0 Bn An K m (s1,(sep1,(sepSave1,(n01,(i,()))))) (a,())
theorem Oy (n:Nat) (K:XE→List AV→ia→Option Out):∀ (m:Nat) s1 sep1 sepSave1 n01 i a,Vj n K m s1 sep1 sepSave1 n01 i a=(Tb n m s1 sep1 sepSave1 n01 i a).bind (Pd K)
 | 0,_,_,_,_,_,_=>by kernel_rfl
 | m+1,s1,sep1,sepSave1,n01,i,a=>by
  have h1:Vj n K (m+1) s1 sep1 sepSave1 n01 i a=uh n s1 sep1 sepSave1 n01 i a (Vj n K m) (fun a=>Pd K (.out a)) (fun a=>Pd K (.ret a)) (fun p=>Pd K (.pan p)):=by kernel_rfl
  have h2:Vj n K m=fun s1 sep1 sepSave1 n01 i a=>(Tb n m s1 sep1 sepSave1 n01 i a).bind (Pd K):=by
   repeat (refine funext fun _=>?_)
   exact Oy n K m _ _ _ _ _ _
  rw [h1,h2];exact (ZL n m _ _ _ _ _ _ (Pd K)).symm
theorem qK (n:Nat):ie tys (da Out (kt n)) (Wj n) n (Da [1,1,1,1,1,1,1,1,0,0,0] (aa Tryz.f168)) 0:=Oa (sp:=Bn) (rp:=An) (by kernel_rfl) fun K σ ρ=>Oy n K n σ.1 σ.2.1 σ.2.2.1 σ.2.2.2.1 σ.2.2.2.2.1 ρ.1
theorem aM (n:Nat):ta tys (da Out (kt n)) (Wj n) n (aa Tryz.f168) 0:=⟨trivial,⟨⟨trivial,⟨⟨trivial,trivial⟩,trivial⟩⟩,⟨⟨trivial,⟨⟨trivial,trivial⟩,trivial⟩⟩,⟨⟨trivial,⟨trivial,trivial⟩⟩,⟨trivial,⟨trivial,⟨trivial,⟨trivial,⟨⟨qK n,⟨⟨trivial,⟨trivial,trivial⟩⟩,⟨trivial,⟨⟨trivial,⟨trivial,trivial⟩⟩,⟨trivial,⟨trivial,trivial⟩⟩⟩⟩⟩⟩,⟨trivial,⟨trivial,trivial⟩⟩⟩⟩⟩⟩⟩⟩⟩⟩⟩
theorem yO (n:Nat):Enters Tryz.prog 168:=enters_of (c:=aa Tryz.f168) Tryz.func168 (by kernel_rfl) (by kernel_rfl)
def gF (n:Nat):Entry:=⟨168,pcT K2 (.one (.sl .str)) (fun xs=>ut n xs.1 xs.2.1 xs.2.2.1 xs.2.2.2.1),none,none⟩
theorem SP (n:Nat):EntryOk Tryz.prog gl (gF n):=
 Qa (yO n) fun xs y h=>ra tys_ok (eF n) mixed (hint:=Wj n) (n:=n) Tryz.func168 (Pa (aM n)) (la (φ:=(fun y=>some (Out.ret (Vf (.one (.sl .str)) y)))) (by kernel_rfl) (CS n xs.1 xs.2.1 xs.2.2.1 xs.2.2.2.1 _) h)
def Zv (n:Nat):List Entry:=gF n::kt n
theorem Zw (n:Nat):AllOk Tryz.prog gl (Zv n):=.cons (SP n) (eF n)
def kD (n:Nat) {R:Type} (s sep:BA) (k:(Sq BA)→Option R):Option R:=
 (ut n s sep (0:Int) (-1:Int)).bind fun v=>
 k v
def jD (n:Nat) (s sep:BA):Option (Sq BA):=kD n s sep some
theorem pZ (n:Nat) {S:Type}:∀ s sep (φ:_→Option S),(jD n s sep).bind φ=kD n s sep φ:=by
 intros;unfold jD kD;first | (simp only [fa,ba,iB,bB,oL,oX,nB,Option.bind_some]) | rfl
def ZI (n:Nat):Hint Out:={ live:=fun c=>[],run:=fun c=>none,xm:=fun c q=>none }
theorem BS (n:Nat):ta tys (da Out (Zv n)) (ZI n) n (aa Tryz.f151) 0:=ma (fun _=>rfl) _ _ (by kernel_rfl)
theorem QU (n:Nat):Enters Tryz.prog 151:=enters_of (c:=aa Tryz.f151) Tryz.func151 (by kernel_rfl) (by kernel_rfl)
def vO (n:Nat):Entry:=⟨151,pcT (.pair .str (.pair .str .unit)) (.one (.sl .str)) (fun xs=>jD n xs.1 xs.2.1),none,none⟩
theorem KW (n:Nat):EntryOk Tryz.prog gl (vO n):=
 Qa (QU n) fun xs y h=>ra tys_ok (Zw n) mixed (hint:=ZI n) (n:=n) Tryz.func151 (Pa (BS n)) (la (φ:=(fun y=>some (Out.ret (Vf (.one (.sl .str)) y)))) (by kernel_rfl) (pZ n xs.1 xs.2.1 _) h)
def wO (n:Nat):List Entry:=vO n::Zv n
theorem RP (n:Nat):AllOk Tryz.prog gl (wO n):=.cons (KW n) (Zw n)
def si (n:Nat):List Entry:=⟨152,fun {R}=>R1 (R:=R) 208,none,none⟩::wO n
theorem Lu (n:Nat):AllOk Tryz.prog gl (si n):=.cons Y6 (RP n)
end
end Go.Proofs.YtddefjokgaajfaaGreatDoor.AM
