/- Typed functions that tell what the Go functions of this seat answer, and proofs of it, by program (gen.py). -/
import Derived.Test.YtddefjokgaajfaaGreatDoorWT
import Derived.Test.YtddefjokgaajfaaGreatDoorWB
import Derived.Test.YtddefjokgaajfaaGreatDoorWL
import Derived.Test.YtddefjokgaajfaaGreatDoorWM
import Derived.Test.YtddefjokgaajfaaGreatDoorWN
set_option linter.all false
set_option linter.unusedVariables false
set_option linter.unusedSimpArgs false
set_option maxRecDepth 1000000
set_option maxHeartbeats 0
namespace Go.Proofs.YtddefjokgaajfaaGreatDoor.AM
open Go Go.RowKit
noncomputable section
abbrev K0:CTy:=(.pair (.pair .str (.pair .bool .unit)) (.pair (.sl (.pair .str (.pair .bool .unit))) .unit))
abbrev K1:CTy:=(.pair (.pair .str (.pair .bool .unit)) (.pair (.sl (.int .u8)) .unit))
abbrev K2:CTy:=(.pair .str (.pair .str (.pair (.int .i64) (.pair (.int .i64) .unit))))
abbrev K3:CTy:=(.pair (.pair .str (.pair .str .unit)) (.pair .bool (.pair (.int .i64) .unit)))
abbrev K4:CTy:=(.pair .bool (.pair (.sl (.int .i64)) (.pair (.sl (.sl (.int .u8))) .unit)))
abbrev K5:CTy:=(.pair K4 .unit)
abbrev K6:CTy:=(.pair (.pair .str (.pair .str .unit)) (.pair .bool (.pair .bool .unit)))
abbrev U0:Type:=(Bool×(Sq Int)×BA×Bool×BA×BA×Bool×BA×(Sq BA)×(Sq BA)×Unit)
abbrev U1:Type:=(BA×(BA×Unit))
abbrev U2:Type:=(BA×(Bool×Unit))
abbrev U3:Type:=(BA×Bool×(Sq Int)×Int×BA×Bool×BA×Bool×BA×(Sq U1)×(Sq BA)×Unit)
abbrev U4:Type:=(BA×Bool×(Sq Int)×BA×Bool×BA×BA×Bool×BA×(Sq BA)×(Sq BA)×Unit)
abbrev U5:Type:=(Bool×(Sq Int)×Int×BA×Bool×BA×Bool×BA×(Sq U1)×(Sq BA)×Unit)
abbrev U6:Type:=(Bool×(Sq Int)×BA×Bool×BA×(Sq BA)×BA×Bool×BA×(Sq BA)×Unit)
abbrev U7:Type:=(BA×Bool×(Sq Int)×Int×BA×Bool×BA×Bool×BA×(Sq U1)×(Sq BA))
abbrev U8:Type:=(Bool×(Sq Int)×BA×Bool×BA×BA×Bool×BA×(Sq BA)×(Sq BA))
abbrev U9:Type:=(Sq (Sq Int))
abbrev U10:Type:=(Bool×(Sq Int)×Int×BA×Bool×BA×Bool×BA×(Sq BA)×(Sq U1)×(Sq BA)×Unit)
abbrev U11:Type:=(Bool×(Sq Int)×BA×Bool×BA×BA×Bool×BA×(Sq BA)×(Sq BA)×(Sq BA)×Unit)
abbrev U12:Type:=(Bool×Bool×(Sq Int)×BA×Bool×BA×(Sq BA)×BA×Bool×BA×(Sq BA)×Unit)
abbrev U13:Type:=(Bool×Bool×(Sq Int)×BA×Bool×BA×BA×Bool×BA×(Sq BA)×(Sq BA)×Unit)
abbrev U14:Type:=(Int×Bool×(Sq Int)×Int×BA×Bool×BA×Bool×BA×(Sq U1)×(Sq BA)×Unit)
abbrev U15:Type:=(Bool×(Sq Int)×BA×Bool×BA×(Sq BA)×BA×Bool×BA×(Sq BA))
abbrev U16:Type:=((Sq Int)×Unit)
abbrev U17:Type:=(Int×((Sq BA)×Unit))
abbrev U18:Type:=(Int×(Sq Int)×Unit)
abbrev U19:Type:=(Bool×((Sq Int)×(U9×Unit)))
def I8 (n:Nat):List Entry:=[]
theorem NY (n:Nat):AllOk Tryz.prog gl (I8 n):=.nil
def pF (n:Nat) {R:Type} (i n0:Int) (k:Int→Option R):Option R:=
 if (IntKind.wrap .u64 n0)=0 then
 none
 else
 k (IntKind.wrap .i64 (Int.tmod (IntKind.wrap .u64 i) (IntKind.wrap .u64 n0)))
def WH (n:Nat) (i n0:Int):Option Int:=pF n i n0 some
theorem xV (n:Nat) {S:Type}:∀ i n0 (φ:_→Option S),(WH n i n0).bind φ=pF n i n0 φ:=by
 intros;unfold WH pF;first | (simp only [fa,ba,iB,bB,oL,oX,nB,Option.bind_some]) | rfl
def PD (n:Nat):Hint Out:={ live:=fun c=>[],run:=fun c=>none,xm:=fun c q=>none }
theorem BO (n:Nat):ua tys (da Out (I8 n)) (PD n) n (aa Tryz.f22) 0:=ma (fun _=>rfl) _ _ (by kernel_rfl)
theorem gR (n:Nat):Enters Tryz.prog 22:=enters_of (c:=aa Tryz.f22) Tryz.func22 (by kernel_rfl) (by kernel_rfl)
def ZJ (n:Nat):Entry:=⟨22,pcT (.pair (.int .i64) (.pair (.int .i64) .unit)) (.one (.int .i64)) (fun xs=>WH n xs.1 xs.2.1),none,none⟩
theorem HT (n:Nat):EntryOk Tryz.prog gl (ZJ n):=
 Oa (gR n) fun xs y h=>ra tys_ok (NY n) mixed (hint:=PD n) (n:=n) Tryz.func22 (Na (BO n)) (la (φ:=(fun y=>some (Out.ret (Kf (.one (.int .i64)) y)))) (by kernel_rfl) (xV n xs.1 xs.2.1 _) h)
def aK (n:Nat):List Entry:=ZJ n::I8 n
theorem mN (n:Nat):AllOk Tryz.prog gl (aK n):=.cons (HT n) (NY n)
def Ng (n:Nat):List Entry:=Gl::aK n
theorem Ei (n:Nat):AllOk Tryz.prog gl (Ng n):=.cons lx (mN n)
def qw (n:Nat) {R:Type} (lmtp:Bool) (r0:(Sq Int)) (k:U0→Option R):Option R:=
 (sx 8 r0).bind fun v=>
 k (lmtp,(v.1,((⟨#[]⟩:BA),(false,((⟨#[]⟩:BA),((⟨#[]⟩:BA),(false,((⟨#[]⟩:BA),((⟨0,fun _=>Aa .str⟩:Sq BA),((⟨0,fun _=>Aa .str⟩:Sq BA),()))))))))))
def Pq (n:Nat) (lmtp:Bool) (r0:(Sq Int)):Option U0:=qw n lmtp r0 some
theorem bQ (n:Nat) {S:Type}:∀ lmtp r0 (φ:_→Option S),(Pq n lmtp r0).bind φ=qw n lmtp r0 φ:=by
 intros;unfold Pq qw;first | (simp only [fa,ba,iB,bB,oL,oX,nB,Option.bind_some]) | rfl
def zx (n:Nat):Hint OutS:={ live:=fun c=>[],run:=fun c=>none,xm:=fun c q=>none,nb:=[(71,1,.frz (.int .i64)),(71,5,.prm 9),(71,8,.prm 9)],na:=true }
theorem lK (n:Nat):ua tys (da OutS (Ng n)).keep (zx n) n (aa Tryz.f9) 0:=ma (fun _=>rfl) _ _ (by kernel_rfl)
theorem TL (n:Nat):Enters Tryz.prog 9:=enters_of (c:=aa Tryz.f9) Tryz.func9 (by kernel_rfl) (by kernel_rfl)
def oD:List RSp:=[.one (.dat .bool),.one (.row 0)]
def nD:List RS:=[.row 3 1 (.int .i64) false false]
def UL:List Sl:=[.top,.top]
def VL:List RSp:=[.one (.ptr 0 0 0)]
def Ck:List RS:=[.box 71 10 false [.dat .bool,.dat (.sl (.int .i64)),.dat .str,.dat .bool,.dat .str,.row 1,.dat .str,.dat .bool,.row 2,.dat .str],.row 9 1 .str true true,.row 9 1 .str true true]
def sw (y:U0):OutS:=⟨false,Kl (Yb Ck ((y.1,(y.2.1,(y.2.2.1,(y.2.2.2.1,(y.2.2.2.2.1,(y.2.2.2.2.2.1,(y.2.2.2.2.2.2.1,(y.2.2.2.2.2.2.2.1,())))))))),(y.2.2.2.2.2.2.2.2.1,(y.2.2.2.2.2.2.2.2.2.1,())))) UL (),Xu (Us (Yb Ck ((y.1,(y.2.1,(y.2.2.1,(y.2.2.2.1,(y.2.2.2.2.1,(y.2.2.2.2.2.1,(y.2.2.2.2.2.2.1,(y.2.2.2.2.2.2.2.1,())))))))),(y.2.2.2.2.2.2.2.2.1,(y.2.2.2.2.2.2.2.2.2.1,())))) VL ((),())),ao (Yb Ck ((y.1,(y.2.1,(y.2.2.1,(y.2.2.2.1,(y.2.2.2.2.1,(y.2.2.2.2.2.1,(y.2.2.2.2.2.2.1,(y.2.2.2.2.2.2.2.1,())))))))),(y.2.2.2.2.2.2.2.2.1,(y.2.2.2.2.2.2.2.2.2.1,())))) Ck ((y.1,(y.2.1,(y.2.2.1,(y.2.2.2.1,(y.2.2.2.2.1,(y.2.2.2.2.2.1,(y.2.2.2.2.2.2.1,(y.2.2.2.2.2.2.2.1,())))))))),(y.2.2.2.2.2.2.2.2.1,(y.2.2.2.2.2.2.2.2.2.1,())))⟩
theorem RN (n:Nat):EntryOk Tryz.prog gl ⟨9,Re,none,some (csT oD nD (fun σ ρ=>Pq n σ.1.1 ρ.1) sw)⟩:=
 Lc (TL n) fun σ ρ y h=>Xa tys_ok (Ei n) mixed (hint:=zx n) (n:=n) Tryz.func9 (Na (lK n)) (la (φ:=fun y=>some (sw y)) (by kernel_rfl) (bQ n σ.1.1 ρ.1 _) h)
def mD (n:Nat):List Entry:=⟨9,Re,none,some (csT oD nD (fun σ ρ=>Pq n σ.1.1 ρ.1) sw)⟩::Ng n
theorem tI (n:Nat):AllOk Tryz.prog gl (mD n):=.cons (RN n) (Ei n)
def iE (n:Nat):List Entry:=⟨118,pcT (.pair .str (.pair .str .unit)) (.one (.int .i64)) (fun xs=>lD xs.1 xs.2.1),none,none⟩::mD n
theorem kD (n:Nat):AllOk Tryz.prog gl (iE n):=.cons ZY (tI n)
def bG (n:Nat) {R:Type} (s sep:BA) (k:(BA×BA×Bool×Unit)→Option R):Option R:=
 (lD s sep).bind fun v=>
 if (decide (v≥(0:Int)))=true then
 if 0≤v∧v≤(s.size:Int) then
  if 0≤(IntKind.wrap .i64 (v+(sep.size:Int)))∧(IntKind.wrap .i64 (v+(sep.size:Int)))≤(s.size:Int) then
  k ((s.extract (Int.toNat (0:Int)) (Int.toNat v)),((s.extract (Int.toNat (IntKind.wrap .i64 (v+(sep.size:Int)))) (Int.toNat (s.size:Int))),(true,())))
  else
  none
 else
  none
 else
 k (s,((⟨#[]⟩:BA),(false,())))
def UO (n:Nat) (s sep:BA):Option (BA×BA×Bool×Unit):=bG n s sep some
theorem H1 (n:Nat) {S:Type}:∀ s sep (φ:_→Option S),(UO n s sep).bind φ=bG n s sep φ:=by
 intros;unfold UO bG;first | (simp only [fa,ba,iB,bB,oL,oX,nB,Option.bind_some]) | rfl
def IL (n:Nat):Hint Out:={ live:=fun c=>[],run:=fun c=>none,xm:=fun c q=>none }
theorem tU (n:Nat):ua tys (da Out (iE n)) (IL n) n (aa Tryz.f89) 0:=ma (fun _=>rfl) _ _ (by kernel_rfl)
theorem fX (n:Nat):Enters Tryz.prog 89:=enters_of (c:=aa Tryz.f89) Tryz.func89 (by kernel_rfl) (by kernel_rfl)
def lS (n:Nat):Entry:=⟨89,pcT (.pair .str (.pair .str .unit)) (.many (.pair .str (.pair .str (.pair .bool .unit)))) (fun xs=>UO n xs.1 xs.2.1),none,none⟩
theorem XY (n:Nat):EntryOk Tryz.prog gl (lS n):=
 Oa (fX n) fun xs y h=>ra tys_ok (kD n) mixed (hint:=IL n) (n:=n) Tryz.func89 (Na (tU n)) (la (φ:=(fun y=>some (Out.ret (Kf (.many (.pair .str (.pair .str (.pair .bool .unit)))) y)))) (by kernel_rfl) (H1 n xs.1 xs.2.1 _) h)
def HL (n:Nat):List Entry:=lS n::iE n
theorem EJ (n:Nat):AllOk Tryz.prog gl (HL n):=.cons (XY n) (kD n)
def LH (n:Nat) {R:Type} (s sep:BA) (k:(BA×BA×Bool×Unit)→Option R):Option R:=
 (UO n s sep).bind fun v=>
 k (v.1,(v.2.1,(v.2.2.1,())))
def XJ (n:Nat) (s sep:BA):Option (BA×BA×Bool×Unit):=LH n s sep some
theorem Q2 (n:Nat) {S:Type}:∀ s sep (φ:_→Option S),(XJ n s sep).bind φ=LH n s sep φ:=by
 intros;unfold XJ LH;first | (simp only [fa,ba,iB,bB,oL,oX,nB,Option.bind_some]) | rfl
def YM (n:Nat):Hint Out:={ live:=fun c=>[],run:=fun c=>none,xm:=fun c q=>none }
theorem rV (n:Nat):ua tys (da Out (HL n)) (YM n) n (aa Tryz.f52) 0:=ma (fun _=>rfl) _ _ (by kernel_rfl)
theorem UX (n:Nat):Enters Tryz.prog 52:=enters_of (c:=aa Tryz.f52) Tryz.func52 (by kernel_rfl) (by kernel_rfl)
def tT (n:Nat):Entry:=⟨52,pcT (.pair .str (.pair .str .unit)) (.many (.pair .str (.pair .str (.pair .bool .unit)))) (fun xs=>XJ n xs.1 xs.2.1),none,none⟩
theorem QZ (n:Nat):EntryOk Tryz.prog gl (tT n):=
 Oa (UX n) fun xs y h=>ra tys_ok (EJ n) mixed (hint:=YM n) (n:=n) Tryz.func52 (Na (rV n)) (la (φ:=(fun y=>some (Out.ret (Kf (.many (.pair .str (.pair .str (.pair .bool .unit)))) y)))) (by kernel_rfl) (Q2 n xs.1 xs.2.1 _) h)
def XM (n:Nat):List Entry:=tT n::HL n
theorem YJ (n:Nat):AllOk Tryz.prog gl (XM n):=.cons (QZ n) (EJ n)
def Tm (n:Nat) {R:Type} (s suffix:BA) (k:Bool→Option R):Option R:=
 if (decide ((s.size:Int)≥(suffix.size:Int)))=true then
 if 0≤(IntKind.wrap .i64 ((s.size:Int) - (suffix.size:Int)))∧(IntKind.wrap .i64 ((s.size:Int) - (suffix.size:Int)))≤(s.size:Int) then
  k ((s.extract (Int.toNat (IntKind.wrap .i64 ((s.size:Int) - (suffix.size:Int)))) (Int.toNat (s.size:Int))).toList==suffix.toList)
 else
  none
 else
 k false
def zn (n:Nat) (s suffix:BA):Option Bool:=Tm n s suffix some
theorem MN (n:Nat) {S:Type}:∀ s suffix (φ:_→Option S),(zn n s suffix).bind φ=Tm n s suffix φ:=by
 intros;unfold zn Tm;first | (simp only [fa,ba,iB,bB,oL,oX,nB,Option.bind_some]) | rfl
def pv (n:Nat):Hint Out:={ live:=fun c=>[],run:=fun c=>none,xm:=fun c q=>none }
theorem nI (n:Nat):ua tys (da Out (XM n)) (pv n) n (aa Tryz.f95) 0:=ma (fun _=>rfl) _ _ (by kernel_rfl)
theorem fK (n:Nat):Enters Tryz.prog 95:=enters_of (c:=aa Tryz.f95) Tryz.func95 (by kernel_rfl) (by kernel_rfl)
def gz (n:Nat):Entry:=⟨95,pcT (.pair .str (.pair .str .unit)) (.one .bool) (fun xs=>zn n xs.1 xs.2.1),none,none⟩
theorem KL (n:Nat):EntryOk Tryz.prog gl (gz n):=
 Oa (fK n) fun xs y h=>ra tys_ok (YJ n) mixed (hint:=pv n) (n:=n) Tryz.func95 (Na (nI n)) (la (φ:=(fun y=>some (Out.ret (Kf (.one .bool) y)))) (by kernel_rfl) (MN n xs.1 xs.2.1 _) h)
def Lq (n:Nat):List Entry:=gz n::XM n
theorem Ys (n:Nat):AllOk Tryz.prog gl (Lq n):=.cons (KL n) (YJ n)
def ln (n:Nat) {R:Type} (s suffix:BA) (k:Bool→Option R):Option R:=
 (zn n s suffix).bind fun v=>
 k v
def Mc (n:Nat) (s suffix:BA):Option Bool:=ln n s suffix some
theorem xO (n:Nat) {S:Type}:∀ s suffix (φ:_→Option S),(Mc n s suffix).bind φ=ln n s suffix φ:=by
 intros;unfold Mc ln;first | (simp only [fa,ba,iB,bB,oL,oX,nB,Option.bind_some]) | rfl
def Xv (n:Nat):Hint Out:={ live:=fun c=>[],run:=fun c=>none,xm:=fun c q=>none }
theorem dJ (n:Nat):ua tys (da Out (Lq n)) (Xv n) n (aa Tryz.f59) 0:=ma (fun _=>rfl) _ _ (by kernel_rfl)
theorem JK (n:Nat):Enters Tryz.prog 59:=enters_of (c:=aa Tryz.f59) Tryz.func59 (by kernel_rfl) (by kernel_rfl)
def aB (n:Nat):Entry:=⟨59,pcT (.pair .str (.pair .str .unit)) (.one .bool) (fun xs=>Mc n xs.1 xs.2.1),none,none⟩
theorem cB (n:Nat):EntryOk Tryz.prog gl (aB n):=
 Oa (JK n) fun xs y h=>ra tys_ok (Ys n) mixed (hint:=Xv n) (n:=n) Tryz.func59 (Na (dJ n)) (la (φ:=(fun y=>some (Out.ret (Kf (.one .bool) y)))) (by kernel_rfl) (xO n xs.1 xs.2.1 _) h)
def Yr (n:Nat):List Entry:=aB n::Lq n
theorem Qt (n:Nat):AllOk Tryz.prog gl (Yr n):=.cons (cB n) (Ys n)
def nw (n:Nat) {R:Type} (f:U2) (k:U2→Option R):Option R:=
 if (!f.2.1)=true then
 if (decide ((f.1.size:Int)<(512:Int)))=true then
  k (f.1,(f.2.1,()))
 else
  (Mc n f.1 (⟨#[13]⟩:BA)).bind fun v=>
  if v=true then
  k ((⟨#[13]⟩:BA),(true,()))
  else
  k ((⟨#[]⟩:BA),(true,()))
 else
 (Mc n f.1 (⟨#[13]⟩:BA)).bind fun v1=>
 if v1=true then
  k ((⟨#[13]⟩:BA),(true,()))
 else
  k ((⟨#[]⟩:BA),(true,()))
def nv (n:Nat) (f:U2):Option U2:=nw n f some
theorem rU (n:Nat) {S:Type}:∀ f (φ:_→Option S),(nv n f).bind φ=nw n f φ:=by
 intros;unfold nv nw;first | (simp only [fa,ba,iB,bB,oL,oX,nB,Option.bind_some]) | rfl
def jD (n:Nat):Hint Out:={ live:=fun c=>[],run:=fun c=>none,xm:=fun c q=>none }
theorem JN (n:Nat):ua tys (da Out (Yr n)) (jD n) n (aa Tryz.f53) 0:=ma (fun _=>rfl) _ _ (by kernel_rfl)
theorem QP (n:Nat):Enters Tryz.prog 53:=enters_of (c:=aa Tryz.f53) Tryz.func53 (by kernel_rfl) (by kernel_rfl)
def DJ (n:Nat):Entry:=⟨53,pcT (.pair (.pair .str (.pair .bool .unit)) .unit) (.one (.pair .str (.pair .bool .unit))) (fun xs=>nv n xs.1),none,none⟩
theorem eS (n:Nat):EntryOk Tryz.prog gl (DJ n):=
 Oa (QP n) fun xs y h=>ra tys_ok (Qt n) mixed (hint:=jD n) (n:=n) Tryz.func53 (Na (JN n)) (la (φ:=(fun y=>some (Out.ret (Kf (.one (.pair .str (.pair .bool .unit))) y)))) (by kernel_rfl) (rU n xs.1 _) h)
def Zy (n:Nat):List Entry:=DJ n::Yr n
theorem az (n:Nat):AllOk Tryz.prog gl (Zy n):=.cons (eS n) (Qt n)
def Vs (n:Nat) {R:Type} (s:BA) (skip:Bool) (k:U2→Option R):Option R:=
 if skip=false then
 if (decide ((IntKind.wrap .i64 ((s.size:Int)+(2:Int)))>(512:Int)))=true then
  k ((⟨#[]⟩:BA),(true,()))
 else
  k (s,(false,()))
 else
 k ((⟨#[]⟩:BA),(true,()))
def sq (n:Nat) (s:BA) (skip:Bool):Option U2:=Vs n s skip some
theorem fS (n:Nat) {S:Type}:∀ s skip (φ:_→Option S),(sq n s skip).bind φ=Vs n s skip φ:=by
 intros;unfold sq Vs;first | (simp only [fa,ba,iB,bB,oL,oX,nB,Option.bind_some]) | rfl
def bz (n:Nat):Hint Out:={ live:=fun c=>[],run:=fun c=>none,xm:=fun c q=>none }
theorem CL (n:Nat):ua tys (da Out (Zy n)) (bz n) n (aa Tryz.f54) 0:=ma (fun _=>rfl) _ _ (by kernel_rfl)
theorem KN (n:Nat):Enters Tryz.prog 54:=enters_of (c:=aa Tryz.f54) Tryz.func54 (by kernel_rfl) (by kernel_rfl)
def YF (n:Nat):Entry:=⟨54,pcT (.pair .str (.pair .bool .unit)) (.one (.pair .str (.pair .bool .unit))) (fun xs=>sq n xs.1 xs.2.1),none,none⟩
theorem RP (n:Nat):EntryOk Tryz.prog gl (YF n):=
 Oa (KN n) fun xs y h=>ra tys_ok (az n) mixed (hint:=bz n) (n:=n) Tryz.func54 (Na (CL n)) (la (φ:=(fun y=>some (Out.ret (Kf (.one (.pair .str (.pair .bool .unit))) y)))) (by kernel_rfl) (fS n xs.1 xs.2.1 _) h)
def yk (n:Nat):List Entry:=YF n::Zy n
theorem wx (n:Nat):AllOk Tryz.prog gl (yk n):=.cons (RP n) (az n)
def ck (n:Nat) {R:Type} (all:BA) (skip:Bool) (t4:BA) (t41:Bool) (l:(Sq U2)) (kn:BA→Bool→BA→Bool→(Sq U2)→Option R) (ko:Unit→Option R) (kr:(BA×Bool×(Sq U2))→Option R) (kp:Int→Option R):Option R:=
 (XJ n all (⟨#[13,10]⟩:BA)).bind fun v=>
 if (!v.2.2.1)=true then
 (nv n (all,(skip,()))).bind fun v1=>
 kr (v1.1,v1.2.1,l)
 else
 (sq n v.1 skip).bind fun v2=>
 if Ta (l.n+1) 24=true then
  kn v.2.1 false t4 t41 (⟨(l.n+1),fun q=>if q<l.n then l.at' q else (fun q=>List.getD (α:=U2) [(v2.1,(v2.2.1,()))] q (Aa (.pair .str (.pair .bool .unit)))) (q - l.n)⟩:Sq U2)
 else
  none
def sd (n:Nat):Nat→BA→Bool→BA→Bool→(Sq U2)→Option (Lx Unit (BA×Bool×(Sq U2)))
 | 0,_,_,_,_,_=>none
 | m+1,all,skip,t4,t41,l=>ck n all skip t4 t41 l (sd n m) (fun a=>some (.out a)) (fun a=>some (.ret a)) (fun p=>some (.pan p))
theorem GN (n m:Nat) {S:Type}:∀ all skip t4 t41 l (φ:_→Option S),(sd n (m+1) all skip t4 t41 l).bind φ=ck n all skip t4 t41 l (fun all skip t4 t41 l=>(sd n m all skip t4 t41 l).bind φ) (fun a=>φ (.out a)) (fun a=>φ (.ret a)) (fun p=>φ (.pan p)):=by
 intros;first | (simp only [sd,ck,fa,ba,iB,bB,oL,oX,nB,Option.bind_some]) | rfl
def Iq:List Sl:=tp 4 (.ptr 0 0 0::.top::.row 1::.dat .str::.dat .bool::tp 30 [])
def Hq:List RS:=[.box 45 2 true [.dat .str,.dat .bool],.row 60 2 (.pair .str (.pair .bool .unit)) true false]
def fE:List Sl:=tp 4 (.ptr 0 0 0::.row 1::tp 33 [])
def eE:List RS:=[.box 45 2 true [.dat .str,.dat .bool],.row 60 2 (.pair .str (.pair .bool .unit)) true false]
def sf (K:XE→List AV→ia→Option Out):Lx Unit (BA×Bool×(Sq U2))→Option Out:=fun x=>onL x (fun _=>none) (fun a=>Bk fE eE () ((a.1,(a.2.1,())),(a.2.2,())) (K .ret)) (fun _=>none)
def mw (n:Nat) {R:Type} (f:U2) (b:(Sq Int)) (k:(U2×(Sq U2)×Unit)→Option R):Option R:=
 if Ca f.1 (ah b.n b.at')=true then
 (sd n n (f.1++(ah b.n b.at')) f.2.1 (⟨#[]⟩:BA) false (⟨0,fun _=>Aa (.pair .str (.pair .bool .unit))⟩:Sq U2)).bind fun x_1=>onL x_1
  (fun _=>none)
  (fun a_2=>
  k ((a_2.1,(a_2.2.1,())),(a_2.2.2,())))
  (fun _=>none)
 else
 none
def yn (n:Nat) (f:U2) (b:(Sq Int)):Option (U2×(Sq U2)×Unit):=mw n f b some
theorem qU (n:Nat) {S:Type}:∀ f b (φ:_→Option S),(yn n f b).bind φ=mw n f b φ:=by
 intros;unfold yn mw;first | (simp only [fa,ba,iB,bB,oL,oX,nB,Option.bind_some]) | rfl
def Rm (n:Nat):Hint Out:={ live:=fun c=>(cond (Nat.beq c 0) [(4,none),(6,some (.sl (.pair .str (.pair .bool .unit)))),(7,none),(8,none)] []),run:=fun c=>(cond (Nat.beq c 0) (some (Ms Iq Hq fun σ ρ K=>(sd n n σ.1 σ.2.1 ρ.1.1 ρ.1.2.1 ρ.2.1).bind (sf K))) none),xm:=fun c q=>(cond (Nat.beq c 1&&q.isNone) (some [(4,none),(5,some (.sl (.pair .str (.pair .bool .unit))))]) none) }
def Qm (n:Nat) (K:XE→List AV→ia→Option Out) (m:Nat) (all:BA) (skip:Bool) (t4:BA) (t41:Bool) (l:(Sq U2)):Option Out:=Ef tys (da Out (yk n)) (Rm n) n (Fa [1,1,1,1,0,0] (aa Tryz.f34)) 0 Iq Hq K m (all,(skip,())) ((t4,(t41,())),(l,()))
theorem iD (n:Nat) (K:XE→List AV→ia→Option Out):∀ (m:Nat) all skip t4 t41 l,Qm n K m all skip t4 t41 l=(sd n m all skip t4 t41 l).bind (sf K)
 | 0,_,_,_,_,_=>by kernel_rfl
 | m+1,all,skip,t4,t41,l=>by
  have h1:Qm n K (m+1) all skip t4 t41 l=ck n all skip t4 t41 l (Qm n K m) (fun a=>sf K (.out a)) (fun a=>sf K (.ret a)) (fun p=>sf K (.pan p)):=by kernel_rfl
  have h2:Qm n K m=fun all skip t4 t41 l=>(sd n m all skip t4 t41 l).bind (sf K):=by
   repeat (refine funext fun _=>?_)
   exact iD n K m _ _ _ _ _
  rw [h1,h2];exact (GN n m _ _ _ _ _ (sf K)).symm
theorem BL (n:Nat):Pe tys (da Out (yk n)) (Rm n) n (Fa [1,1,1,1,0,0] (aa Tryz.f34)) 0:=Qa (sp:=Iq) (rp:=Hq) (by kernel_rfl) fun K σ ρ=>iD n K n σ.1 σ.2.1 ρ.1.1 ρ.1.2.1 ρ.2.1
theorem HN (n:Nat):ua tys (da Out (yk n)) (Rm n) n (aa Tryz.f34) 0:=⟨trivial,⟨trivial,⟨trivial,⟨trivial,⟨BL n,⟨trivial,⟨⟨trivial,⟨⟨trivial,trivial⟩,trivial⟩⟩,⟨trivial,trivial⟩⟩⟩⟩⟩⟩⟩⟩
theorem PP (n:Nat):Enters Tryz.prog 34:=enters_of (c:=aa Tryz.f34) Tryz.func34 (by kernel_rfl) (by kernel_rfl)
def CJ (n:Nat):Entry:=⟨34,pcT K1 (.many K0) (fun xs=>yn n xs.1 xs.2.1),none,none⟩
theorem dS (n:Nat):EntryOk Tryz.prog gl (CJ n):=
 Oa (PP n) fun xs y h=>ra tys_ok (wx n) mixed (hint:=Rm n) (n:=n) Tryz.func34 (Na (HN n)) (la (φ:=(fun y=>some (Out.ret (Kf (.many K0) y)))) (by kernel_rfl) (qU n xs.1 xs.2.1 _) h)
def Xy (n:Nat):List Entry:=CJ n::yk n
theorem Yy (n:Nat):AllOk Tryz.prog gl (Xy n):=.cons (dS n) (wx n)
def eA (n:Nat) {R:Type} (code:Int) (k:BA→Option R):Option R:=
 if (code==(220:Int))=true then
 k (⟨#[104,101,114,101]⟩:BA)
 else
 if (code==(250:Int))=true then
  k (⟨#[111,107]⟩:BA)
 else
  if (code==(354:Int))=true then
  k (⟨#[103,111,32,111,110]⟩:BA)
  else
  if (code==(221:Int))=true then
   k (⟨#[98,121,101]⟩:BA)
  else
   if (code==(500:Int))=true then
   k (⟨#[119,104,97,116,63]⟩:BA)
   else
   if (code==(503:Int))=true then
    k (⟨#[110,111,116,32,121,101,116]⟩:BA)
   else
    k (⟨#[110,111]⟩:BA)
def wB (n:Nat) (code:Int):Option BA:=eA n code some
theorem yS (n:Nat) {S:Type}:∀ code (φ:_→Option S),(wB n code).bind φ=eA n code φ:=by
 intros;unfold wB eA;first | (simp only [fa,ba,iB,bB,oL,oX,nB,Option.bind_some]) | rfl
def fA (n:Nat):Hint Out:={ live:=fun c=>[],run:=fun c=>none,xm:=fun c q=>none }
theorem aM (n:Nat):ua tys (da Out (Xy n)) (fA n) n (aa Tryz.f51) 0:=ma (fun _=>rfl) _ _ (by kernel_rfl)
theorem UN (n:Nat):Enters Tryz.prog 51:=enters_of (c:=aa Tryz.f51) Tryz.func51 (by kernel_rfl) (by kernel_rfl)
def lG (n:Nat):Entry:=⟨51,pcT (.pair (.int .i64) .unit) (.one .str) (fun xs=>wB n xs.1),none,none⟩
theorem fQ (n:Nat):EntryOk Tryz.prog gl (lG n):=
 Oa (UN n) fun xs y h=>ra tys_ok (Yy n) mixed (hint:=fA n) (n:=n) Tryz.func51 (Na (aM n)) (la (φ:=(fun y=>some (Out.ret (Kf (.one .str) y)))) (by kernel_rfl) (yS n xs.1 _) h)
def Uk (n:Nat):List Entry:=lG n::Xy n
theorem Cx (n:Nat):AllOk Tryz.prog gl (Uk n):=.cons (fQ n) (Yy n)
def an (n:Nat) {R:Type} (s1:BA) (t5 t6:Int) (kn:BA→Int→Int→Option R) (ko:(BA)→Option R) (kr:(Bool)→Option R) (kp:Int→Option R):Option R:=
 if (decide (t6<t5))=true then
 if 0≤t6∧t6<(s1.size:Int) then
  if (decide ((bt s1 t6)<(32:Int)))=false then
  if 0≤t6∧t6<(s1.size:Int) then
   if (decide ((bt s1 t6)>(126:Int)))=true then
   kr false
   else
   kn s1 t5 (IntKind.wrap .i64 (t6+(1:Int)))
  else
   none
  else
  kr false
 else
  none
 else
 ko s1
def Qd (n:Nat):Nat→BA→Int→Int→Option (Lx (BA) (Bool))
 | 0,_,_,_=>none
 | m+1,s1,t5,t6=>an n s1 t5 t6 (Qd n m) (fun a=>some (.out a)) (fun a=>some (.ret a)) (fun p=>some (.pan p))
theorem wK (n m:Nat) {S:Type}:∀ s1 t5 t6 (φ:_→Option S),(Qd n (m+1) s1 t5 t6).bind φ=an n s1 t5 t6 (fun s1 t5 t6=>(Qd n m s1 t5 t6).bind φ) (fun a=>φ (.out a)) (fun a=>φ (.ret a)) (fun p=>φ (.pan p)):=by
 intros;first | (simp only [Qd,an,fa,ba,iB,bB,oL,oX,nB,Option.bind_some]) | rfl
def Em:List Sl:=.dat .str::tp 4 (.dat (.int .i64)::.dat (.int .i64)::tp 16 [])
def Dm:List RS:=[]
def HA:List Sl:=.dat .str::tp 22 []
def GA:List RS:=[]
def JA:List Sl:=.top::.top::.dat .bool::tp 20 []
def IA:List RS:=[]
def Ed (K:XE→List AV→ia→Option Out):Lx (BA) (Bool)→Option Out:=fun x=>onL x (fun a=>Bk HA GA (a,()) () (K (.exit 0))) (fun a=>Bk JA IA (a,()) () (K .ret)) (fun _=>none)
def dx (n:Nat) {R:Type} (s:BA) (k:Bool→Option R):Option R:=
 (Qd n n s (s.size:Int) (0:Int)).bind fun x_1=>onL x_1
 (fun a_2=>
  k (decide ((a_2.size:Int)≤(506:Int))))
 (fun a_3=>
  k a_3)
 (fun _=>none)
def cx (n:Nat) (s:BA):Option Bool:=dx n s some
theorem PQ (n:Nat) {S:Type}:∀ s (φ:_→Option S),(cx n s).bind φ=dx n s φ:=by
 intros;unfold cx dx;first | (simp only [fa,ba,iB,bB,oL,oX,nB,Option.bind_some]) | rfl
def tj (n:Nat):Hint Out:={ live:=fun c=>(cond (Nat.beq c 0) (lv [0,5,6]) []),run:=fun c=>(cond (Nat.beq c 0) (some (Ms Em Dm fun σ ρ K=>(Qd n n σ.1 σ.2.1 σ.2.2.1).bind (Ed K))) none),xm:=fun c q=>(cond (Nat.beq c 0&&Nat.beq (q.getD 1000000) 0&&q.isSome) (some [(0,none)]) (cond (Nat.beq c 1&&q.isNone) (some [(2,none)]) none)) }
def sj (n:Nat) (K:XE→List AV→ia→Option Out) (m:Nat) (s1:BA) (t5:Int) (t6:Int):Option Out:=Ef tys (da Out (Uk n)) (tj n) n (Fa [1,0,1,0,0] (aa Tryz.f115)) 0 Em Dm K m (s1,(t5,(t6,()))) ()
theorem Ix (n:Nat) (K:XE→List AV→ia→Option Out):∀ (m:Nat) s1 t5 t6,sj n K m s1 t5 t6=(Qd n m s1 t5 t6).bind (Ed K)
 | 0,_,_,_=>by kernel_rfl
 | m+1,s1,t5,t6=>by
  have h1:sj n K (m+1) s1 t5 t6=an n s1 t5 t6 (sj n K m) (fun a=>Ed K (.out a)) (fun a=>Ed K (.ret a)) (fun p=>Ed K (.pan p)):=by kernel_rfl
  have h2:sj n K m=fun s1 t5 t6=>(Qd n m s1 t5 t6).bind (Ed K):=by
   repeat (refine funext fun _=>?_)
   exact Ix n K m _ _ _
  rw [h1,h2];exact (wK n m _ _ _ (Ed K)).symm
theorem SI (n:Nat):Pe tys (da Out (Uk n)) (tj n) n (Fa [1,0,1,0,0] (aa Tryz.f115)) 0:=Qa (sp:=Em) (rp:=Dm) (by kernel_rfl) fun K σ ρ=>Ix n K n σ.1 σ.2.1 σ.2.2.1
theorem xK (n:Nat):ua tys (da Out (Uk n)) (tj n) n (aa Tryz.f115) 0:=⟨trivial,⟨⟨trivial,⟨SI n,⟨trivial,⟨⟨trivial,trivial⟩,⟨⟨trivial,⟨trivial,⟨⟨trivial,trivial⟩,trivial⟩⟩⟩,trivial⟩⟩⟩⟩⟩,⟨trivial,trivial⟩⟩⟩
theorem LM (n:Nat):Enters Tryz.prog 115:=enters_of (c:=aa Tryz.f115) Tryz.func115 (by kernel_rfl) (by kernel_rfl)
def JD (n:Nat):Entry:=⟨115,pcT (.pair .str .unit) (.one .bool) (fun xs=>cx n xs.1),none,none⟩
theorem qO (n:Nat):EntryOk Tryz.prog gl (JD n):=
 Oa (LM n) fun xs y h=>ra tys_ok (Cx n) mixed (hint:=tj n) (n:=n) Tryz.func115 (Na (xK n)) (la (φ:=(fun y=>some (Out.ret (Kf (.one .bool) y)))) (by kernel_rfl) (PQ n xs.1 _) h)
def Pu (n:Nat):List Entry:=JD n::Uk n
theorem Rv (n:Nat):AllOk Tryz.prog gl (Pu n):=.cons (qO n) (Cx n)
def Zw (n:Nat) {R:Type} (s:BA) (k:Bool→Option R):Option R:=
 (cx n s).bind fun v=>
 k (!v)
def Yw (n:Nat) (s:BA):Option Bool:=Zw n s some
theorem NQ (n:Nat) {S:Type}:∀ s (φ:_→Option S),(Yw n s).bind φ=Zw n s φ:=by
 intros;unfold Yw Zw;first | (simp only [fa,ba,iB,bB,oL,oX,nB,Option.bind_some]) | rfl
def Hx (n:Nat):Hint Out:={ live:=fun c=>[],run:=fun c=>none,xm:=fun c q=>none }
theorem vK (n:Nat):ua tys (da Out (Pu n)) (Hx n) n (aa Tryz.f114) 0:=ma (fun _=>rfl) _ _ (by kernel_rfl)
theorem JM (n:Nat):Enters Tryz.prog 114:=enters_of (c:=aa Tryz.f114) Tryz.func114 (by kernel_rfl) (by kernel_rfl)
def GD (n:Nat):Entry:=⟨114,pcT (.pair .str .unit) (.one .bool) (fun xs=>Yw n xs.1),none,none⟩
theorem oO (n:Nat):EntryOk Tryz.prog gl (GD n):=
 Oa (JM n) fun xs y h=>ra tys_ok (Rv n) mixed (hint:=Hx n) (n:=n) Tryz.func114 (Na (vK n)) (la (φ:=(fun y=>some (Out.ret (Kf (.one .bool) y)))) (by kernel_rfl) (NQ n xs.1 _) h)
def jj (n:Nat):List Entry:=GD n::Pu n
theorem Qv (n:Nat):AllOk Tryz.prog gl (jj n):=.cons (oO n) (Rv n)
def FH (n:Nat) {R:Type} (s1:(Sq BA)) (t7 t8:Int) (kn:(Sq BA)→Int→Int→Option R) (ko:(Unit)→Option R) (kr:(Int)→Option R) (kp:Int→Option R):Option R:=
 if (decide (t8<t7))=true then
 if 0≤t8∧t8<(s1.n:Int) then
  (Yw n (s1.at' (Int.toNat t8))).bind fun v=>
  if v=true then
  kr t8
  else
  kn s1 t7 (IntKind.wrap .i64 (t8+(1:Int)))
 else
  none
 else
 ko ()
def Vn (n:Nat):Nat→(Sq BA)→Int→Int→Option (Lx (Unit) (Int))
 | 0,_,_,_=>none
 | m+1,s1,t7,t8=>FH n s1 t7 t8 (Vn n m) (fun a=>some (.out a)) (fun a=>some (.ret a)) (fun p=>some (.pan p))
theorem mV (n m:Nat) {S:Type}:∀ s1 t7 t8 (φ:_→Option S),(Vn n (m+1) s1 t7 t8).bind φ=FH n s1 t7 t8 (fun s1 t7 t8=>(Vn n m s1 t7 t8).bind φ) (fun a=>φ (.out a)) (fun a=>φ (.ret a)) (fun p=>φ (.pan p)):=by
 intros;first | (simp only [Vn,FH,fa,ba,iB,bB,oL,oX,nB,Option.bind_some]) | rfl
def XA:List Sl:=.dat (.sl .str)::.fnc 114::tp 5 (.dat (.int .i64)::.dat (.int .i64)::tp 10 [])
def WA:List RS:=[.ghost [.top,.top]]
def FK:List Sl:=tp 19 []
def EK:List RS:=[.ghost [.top,.top]]
def HK:List Sl:=tp 4 (.dat (.int .i64)::tp 14 [])
def GK:List RS:=[.ghost [.top,.top]]
def Xj (K:XE→List AV→ia→Option OutS):Lx (Unit) (Int)→Option OutS:=fun x=>onL x (fun a=>Bk FK EK () ((),()) (K (.exit 0))) (fun a=>Bk HK GK (a,()) ((),()) (K .ret)) (fun _=>none)
def VQ (n:Nat) {R:Type} (s:(Sq BA)) (k:(Int×Unit)→Option R):Option R:=
 (Vn n n s (s.n:Int) (0:Int)).bind fun x_1=>onL x_1
 (fun a_2=>
  k ((-1:Int),()))
 (fun a_3=>
  k (a_3,()))
 (fun _=>none)
def oT (n:Nat) (s:(Sq BA)):Option (Int×Unit):=VQ n s some
theorem M2 (n:Nat) {S:Type}:∀ s (φ:_→Option S),(oT n s).bind φ=VQ n s φ:=by
 intros;unfold oT VQ;first | (simp only [fa,ba,iB,bB,oL,oX,nB,Option.bind_some]) | rfl
def jx (n:Nat):Hint OutS:={ live:=fun c=>(cond (Nat.beq c 0) [(0,some (.sl .str)),(1,none),(7,none),(8,none)] []),run:=fun c=>(cond (Nat.beq c 0) (some (Ms XA WA fun σ ρ K=>(Vn n n σ.1 σ.2.1 σ.2.2.1).bind (Xj K))) none),xm:=fun c q=>(cond (Nat.beq c 0&&Nat.beq (q.getD 1000000) 0&&q.isSome) (some []) (cond (Nat.beq c 1&&q.isNone) (some [(4,none)]) none)) }
def gx (n:Nat) (K:XE→List AV→ia→Option OutS) (m:Nat) (s1:(Sq BA)) (t7:Int) (t8:Int):Option OutS:=Ef tys (da OutS (jj n)) (jx n) n (Fa [1,0,1,0,0] (aa Tryz.f132)) 0 XA WA K m (s1,(t7,(t8,()))) ((),())
theorem TM (n:Nat) (K:XE→List AV→ia→Option OutS):∀ (m:Nat) s1 t7 t8,gx n K m s1 t7 t8=(Vn n m s1 t7 t8).bind (Xj K)
 | 0,_,_,_=>by kernel_rfl
 | m+1,s1,t7,t8=>by
  have h1:gx n K (m+1) s1 t7 t8=FH n s1 t7 t8 (gx n K m) (fun a=>Xj K (.out a)) (fun a=>Xj K (.ret a)) (fun p=>Xj K (.pan p)):=by kernel_rfl
  have h2:gx n K m=fun s1 t7 t8=>(Vn n m s1 t7 t8).bind (Xj K):=by
   repeat (refine funext fun _=>?_)
   exact TM n K m _ _ _
  rw [h1,h2];exact (mV n m _ _ _ (Xj K)).symm
theorem pT (n:Nat):Pe tys (da OutS (jj n)) (jx n) n (Fa [1,0,1,0,0] (aa Tryz.f132)) 0:=Qa (sp:=XA) (rp:=WA) (by kernel_rfl) fun K σ ρ=>TM n K n σ.1 σ.2.1 σ.2.2.1
theorem nV (n:Nat):ua tys (da OutS (jj n)) (jx n) n (aa Tryz.f132) 0:=⟨trivial,⟨⟨trivial,⟨pT n,⟨trivial,⟨⟨trivial,trivial⟩,⟨⟨trivial,⟨trivial,⟨⟨trivial,trivial⟩,trivial⟩⟩⟩,trivial⟩⟩⟩⟩⟩,⟨trivial,trivial⟩⟩⟩
theorem PX (n:Nat):Enters Tryz.prog 132:=enters_of (c:=aa Tryz.f132) Tryz.func132 (by kernel_rfl) (by kernel_rfl)
def rT:List RSp:=[.one (.dat (.sl .str)),.one (.fnc 114)]
def qT:List RS:=[]
def QX:List Sl:=[.top,.top]
def RX:List RSp:=[.one (.dat (.int .i64))]
def NB:List RS:=[]
def WQ (y:(Int×Unit)):OutS:=⟨false,Kl (Yb NB ()) QX (),Xu (Us (Yb NB ()) RX ((y.1,()),())),ao (Yb NB ()) NB ()⟩
theorem NZ (n:Nat):EntryOk Tryz.prog gl ⟨132,Re,none,some (csT rT qT (fun σ ρ=>oT n σ.1.1) WQ)⟩:=
 Lc (PX n) fun σ ρ y h=>Me tys_ok (Qv n) mixed (hint:=jx n) (n:=n) Tryz.func132 (Na (nV n)) (la (φ:=fun y=>some (WQ y)) (by kernel_rfl) (M2 n σ.1.1 _) h)
def UM (n:Nat):List Entry:=⟨132,Re,none,some (csT rT qT (fun σ ρ=>oT n σ.1.1) WQ)⟩::jj n
theorem WJ (n:Nat):AllOk Tryz.prog gl (UM n):=.cons (NZ n) (Qv n)
def TQ (n:Nat) {R:Type} (s:(Sq BA)) (k:(Bool×Unit)→Option R):Option R:=
 (oT n s).bind fun v=>
 k ((decide (v.1≥(0:Int))),())
def lT (n:Nat) (s:(Sq BA)):Option (Bool×Unit):=TQ n s some
theorem L2 (n:Nat) {S:Type}:∀ s (φ:_→Option S),(lT n s).bind φ=TQ n s φ:=by
 intros;unfold lT TQ;first | (simp only [fa,ba,iB,bB,oL,oX,nB,Option.bind_some]) | rfl
def SM (n:Nat):Hint OutS:={ live:=fun c=>[],run:=fun c=>none,xm:=fun c q=>none }
theorem lV (n:Nat):ua tys (da OutS (UM n)) (SM n) n (aa Tryz.f106) 0:=ma (fun _=>rfl) _ _ (by kernel_rfl)
theorem MX (n:Nat):Enters Tryz.prog 106:=enters_of (c:=aa Tryz.f106) Tryz.func106 (by kernel_rfl) (by kernel_rfl)
def nT:List RSp:=[.one (.dat (.sl .str)),.one (.fnc 114)]
def mT:List RS:=[]
def NX:List Sl:=[.top,.top]
def OX:List RSp:=[.one (.dat .bool)]
def MB:List RS:=[]
def UQ (y:(Bool×Unit)):OutS:=⟨false,Kl (Yb MB ()) NX (),Xu (Us (Yb MB ()) OX ((y.1,()),())),ao (Yb MB ()) MB ()⟩
theorem MZ (n:Nat):EntryOk Tryz.prog gl ⟨106,Re,none,some (csT nT mT (fun σ ρ=>lT n σ.1.1) UQ)⟩:=
 Lc (MX n) fun σ ρ y h=>Me tys_ok (WJ n) mixed (hint:=SM n) (n:=n) Tryz.func106 (Na (lV n)) (la (φ:=fun y=>some (UQ y)) (by kernel_rfl) (L2 n σ.1.1 _) h)
def RM (n:Nat):List Entry:=⟨106,Re,none,some (csT nT mT (fun σ ρ=>lT n σ.1.1) UQ)⟩::UM n
theorem VJ (n:Nat):AllOk Tryz.prog gl (RM n):=.cons (MZ n) (WJ n)
def TE (n:Nat) {R:Type} (r:U17) (k:Bool→Option R):Option R:=
 if (decide (r.1≥(200:Int)))=true then
 if (decide (r.1≤(599:Int)))=true then
  if (decide ((r.2.1.n:Int)≥(1:Int)))=true then
  if (decide ((r.2.1.n:Int)≤(16:Int)))=true then
   (lT n r.2.1).bind fun v=>
   k (!v.1)
  else
   k false
  else
  k false
 else
  k false
 else
 k false
def yH (n:Nat) (r:U17):Option Bool:=TE n r some
theorem fV (n:Nat) {S:Type}:∀ r (φ:_→Option S),(yH n r).bind φ=TE n r φ:=by
 intros;unfold yH TE;first | (simp only [fa,ba,iB,bB,oL,oX,nB,Option.bind_some]) | rfl
def HD (n:Nat):Hint Out:={ live:=fun c=>[],run:=fun c=>none,xm:=fun c q=>none }
theorem pO (n:Nat):ua tys (da Out (RM n)) (HD n) n (aa Tryz.f85) 0:=ma (fun _=>rfl) _ _ (by kernel_rfl)
theorem OQ (n:Nat):Enters Tryz.prog 85:=enters_of (c:=aa Tryz.f85) Tryz.func85 (by kernel_rfl) (by kernel_rfl)
def RJ (n:Nat):Entry:=⟨85,pcT (.pair (.pair (.int .i64) (.pair (.sl .str) .unit)) .unit) (.one .bool) (fun xs=>yH n xs.1),none,none⟩
theorem iT (n:Nat):EntryOk Tryz.prog gl (RJ n):=
 Oa (OQ n) fun xs y h=>ra tys_ok (VJ n) mixed (hint:=HD n) (n:=n) Tryz.func85 (Na (pO n)) (la (φ:=(fun y=>some (Out.ret (Kf (.one .bool) y)))) (by kernel_rfl) (fV n xs.1 _) h)
def SJ (n:Nat):List Entry:=RJ n::RM n
theorem KM (n:Nat):AllOk Tryz.prog gl (SJ n):=.cons (iT n) (VJ n)
def jB (n:Nat):List Entry:=⟨87,pcT (.pair (.int .i64) .unit) (.one .str) (fun xs=>VP xs.1),none,none⟩::SJ n
theorem PH (n:Nat):AllOk Tryz.prog gl (jB n):=.cons D5 (KM n)
theorem sv:Tryz.prog.funcs[140]?=some Tryz.f140:=by kernel_rfl
theorem tv:EntryOk Tryz.prog gl ⟨140,Re,some .ident,none⟩:=QN sv (by kernel_rfl) (by kernel_rfl) (by kernel_rfl) (by kernel_rfl)
def Lf (n:Nat):List Entry:=⟨140,Re,some .ident,none⟩::jB n
theorem Dh (n:Nat):AllOk Tryz.prog gl (Lf n):=.cons tv (PH n)
def Jm (n:Nat) {R:Type} (k:Unit→Option R):Option R:=
 k ()
def Sf (n:Nat):Option Unit:=Jm n some
theorem YI (n:Nat) {S:Type}:∀ (φ:_→Option S),(Sf n).bind φ=Jm n φ:=by
 intros;unfold Sf Jm;first | (simp only [fa,ba,iB,bB,oL,oX,nB,Option.bind_some]) | rfl
def xp (n:Nat):Hint OutS:={ live:=fun c=>[],run:=fun c=>none,xm:=fun c q=>none }
theorem TC (n:Nat):ua tys (da OutS (Lf n)) (xp n) n (aa Tryz.f116) 0:=ma (fun _=>rfl) _ _ (by kernel_rfl)
theorem dF (n:Nat):Enters Tryz.prog 116:=enters_of (c:=aa Tryz.f116) Tryz.func116 (by kernel_rfl) (by kernel_rfl)
def Lt:List RSp:=[.one (.ptr 0 0 0)]
def Kt:List RS:=[.box 126 2 true [.cn .nilp,.cn .nils]]
def eF:List Sl:=[.ptr 0 0 0]
def fF:List RSp:=[]
def Lg:List RS:=[.box 126 2 false [.ptr 0 0 0,.cn .nils]]
def Km (y:Unit):OutS:=⟨false,Kl (Yb Lg ((),())) eF (),Xu (Us (Yb Lg ((),())) fF ()),ao (Yb Lg ((),())) Lg ((),())⟩
theorem DH (n:Nat):EntryOk Tryz.prog gl ⟨116,Re,none,some (csT Lt Kt (fun σ ρ=>Sf n) Km)⟩:=
 Lc (dF n) fun σ ρ y h=>Me tys_ok (Dh n) mixed (hint:=xp n) (n:=n) Tryz.func116 (Na (TC n)) (la (φ:=fun y=>some (Km y)) (by kernel_rfl) (YI n _) h)
def Dl (n:Nat):List Entry:=⟨116,Re,none,some (csT Lt Kt (fun σ ρ=>Sf n) Km)⟩::Lf n
theorem Tn (n:Nat):AllOk Tryz.prog gl (Dl n):=.cons (DH n) (Dh n)
def Tj (n:Nat) {R:Type} (s:BA) (k:U18→Option R):Option R:=
 (Sf n).bind fun v=>
 if Ta (0+s.size) 1=true then
 k ((s.size:Int),((⟨(0+s.size),fun q=>if q<0 then (fun _=>Aa (.int .u8)) q else (fun (q:Nat)=>bt s q) (q - 0)⟩:Sq Int),()))
 else
 none
def Vd (n:Nat) (s:BA):Option U18:=Tj n s some
theorem bF (n:Nat) {S:Type}:∀ s (φ:_→Option S),(Vd n s).bind φ=Tj n s φ:=by
 intros;unfold Vd Tj;first | (simp only [fa,ba,iB,bB,oL,oX,nB,Option.bind_some]) | rfl
def fm (n:Nat):Hint OutS:={ live:=fun c=>[],run:=fun c=>none,xm:=fun c q=>none }
theorem Dy (n:Nat):ua tys (da OutS (Dl n)) (fm n) n (aa Tryz.f86) 0:=ma (fun _=>rfl) _ _ (by kernel_rfl)
theorem QA (n:Nat):Enters Tryz.prog 86:=enters_of (c:=aa Tryz.f86) Tryz.func86 (by kernel_rfl) (by kernel_rfl)
def pp:List RSp:=[.one (.ptr 0 0 0),.one (.dat .str)]
def np:List RS:=[.box 126 2 true [.cn .nilp,.cn .nils]]
def RA:List Sl:=[.ptr 0 0 0,.top]
def SA:List RSp:=[.one (.dat (.int .i64)),.one (.cn .nili)]
def lf:List RS:=[.box 126 2 false [.ptr 0 0 0,.row 1],.row 5 1 (.int .u8) true false]
def Uj (y:U18):OutS:=⟨false,Kl (Yb lf ((),(y.2.1,()))) RA (),Xu (Us (Yb lf ((),(y.2.1,()))) SA ((y.1,()),((),()))),ao (Yb lf ((),(y.2.1,()))) lf ((),(y.2.1,()))⟩
theorem RC (n:Nat):EntryOk Tryz.prog gl ⟨86,Re,none,some (csT pp np (fun σ ρ=>Vd n σ.2.1.1) Uj)⟩:=
 Lc (QA n) fun σ ρ y h=>Me tys_ok (Tn n) mixed (hint:=fm n) (n:=n) Tryz.func86 (Na (Dy n)) (la (φ:=fun y=>some (Uj y)) (by kernel_rfl) (bF n σ.2.1.1 _) h)
def Yi (n:Nat):List Entry:=⟨86,Re,none,some (csT pp np (fun σ ρ=>Vd n σ.2.1.1) Uj)⟩::Dl n
theorem Bl (n:Nat):AllOk Tryz.prog gl (Yi n):=.cons (RC n) (Tn n)
def mi (n:Nat) {R:Type} (r1:(Sq Int)) (k:U16→Option R):Option R:=
 k (r1,())
def oe (n:Nat) (r1:(Sq Int)):Option U16:=mi n r1 some
theorem ZI (n:Nat) {S:Type}:∀ r1 (φ:_→Option S),(oe n r1).bind φ=mi n r1 φ:=by
 intros;unfold oe mi;first | (simp only [fa,ba,iB,bB,oL,oX,nB,Option.bind_some]) | rfl
def yp (n:Nat):Hint OutS:={ live:=fun c=>[],run:=fun c=>none,xm:=fun c q=>none }
theorem UC (n:Nat):ua tys (da OutS (Yi n)) (yp n) n (aa Tryz.f116) 0:=ma (fun _=>rfl) _ _ (by kernel_rfl)
theorem gF (n:Nat):Enters Tryz.prog 116:=enters_of (c:=aa Tryz.f116) Tryz.func116 (by kernel_rfl) (by kernel_rfl)
def Nt:List RSp:=[.one (.ptr 0 0 0)]
def Mt:List RS:=[.box 126 2 false [.ptr 0 0 0,.row 1],.row 5 1 (.int .u8) true false]
def iF:List Sl:=[.ptr 0 0 0]
def jF:List RSp:=[]
def Mg:List RS:=[.box 126 2 false [.ptr 0 0 0,.row 1],.row 5 1 (.int .u8) true false]
def Lm (y:U16):OutS:=⟨false,Kl (Yb Mg ((),(y.1,()))) iF (),Xu (Us (Yb Mg ((),(y.1,()))) jF ()),ao (Yb Mg ((),(y.1,()))) Mg ((),(y.1,()))⟩
theorem EH (n:Nat):EntryOk Tryz.prog gl ⟨116,Re,none,some (csT Nt Mt (fun σ ρ=>oe n ρ.2.1) Lm)⟩:=
 Lc (gF n) fun σ ρ y h=>Me tys_ok (Bl n) mixed (hint:=yp n) (n:=n) Tryz.func116 (Na (UC n)) (la (φ:=fun y=>some (Lm y)) (by kernel_rfl) (ZI n ρ.2.1 _) h)
def Fl (n:Nat):List Entry:=⟨116,Re,none,some (csT Nt Mt (fun σ ρ=>oe n ρ.2.1) Lm)⟩::Yi n
theorem Un (n:Nat):AllOk Tryz.prog gl (Fl n):=.cons (EH n) (Bl n)
def Vj (n:Nat) {R:Type} (s:BA) (r1:(Sq Int)) (k:U18→Option R):Option R:=
 (oe n r1).bind fun v=>
 if Ta (v.1.n+s.size) 1=true then
 k ((s.size:Int),((⟨(v.1.n+s.size),fun q=>if q<v.1.n then v.1.at' q else (fun (q:Nat)=>bt s q) (q - v.1.n)⟩:Sq Int),()))
 else
 none
def Wd (n:Nat) (s:BA) (r1:(Sq Int)):Option U18:=Vj n s r1 some
theorem cF (n:Nat) {S:Type}:∀ s r1 (φ:_→Option S),(Wd n s r1).bind φ=Vj n s r1 φ:=by
 intros;unfold Wd Vj;first | (simp only [fa,ba,iB,bB,oL,oX,nB,Option.bind_some]) | rfl
def gm (n:Nat):Hint OutS:={ live:=fun c=>[],run:=fun c=>none,xm:=fun c q=>none }
theorem Ey (n:Nat):ua tys (da OutS (Fl n)) (gm n) n (aa Tryz.f86) 0:=ma (fun _=>rfl) _ _ (by kernel_rfl)
theorem TA (n:Nat):Enters Tryz.prog 86:=enters_of (c:=aa Tryz.f86) Tryz.func86 (by kernel_rfl) (by kernel_rfl)
def vp:List RSp:=[.one (.ptr 0 0 0),.one (.dat .str)]
def qp:List RS:=[.box 126 2 false [.ptr 0 0 0,.row 1],.row 5 1 (.int .u8) true false]
def UA:List Sl:=[.ptr 0 0 0,.top]
def VA:List RSp:=[.one (.dat (.int .i64)),.one (.cn .nili)]
def mf:List RS:=[.box 126 2 false [.ptr 0 0 0,.row 1],.row 5 1 (.int .u8) true false]
def Wj (y:U18):OutS:=⟨false,Kl (Yb mf ((),(y.2.1,()))) UA (),Xu (Us (Yb mf ((),(y.2.1,()))) VA ((y.1,()),((),()))),ao (Yb mf ((),(y.2.1,()))) mf ((),(y.2.1,()))⟩
theorem SC (n:Nat):EntryOk Tryz.prog gl ⟨86,Re,none,some (csT vp qp (fun σ ρ=>Wd n σ.2.1.1 ρ.2.1) Wj)⟩:=
 Lc (TA n) fun σ ρ y h=>Me tys_ok (Un n) mixed (hint:=gm n) (n:=n) Tryz.func86 (Na (Ey n)) (la (φ:=fun y=>some (Wj y)) (by kernel_rfl) (cF n σ.2.1.1 ρ.2.1 _) h)
def Zi (n:Nat):List Entry:=⟨86,Re,none,some (csT vp qp (fun σ ρ=>Wd n σ.2.1.1 ρ.2.1) Wj)⟩::Fl n
theorem Cl (n:Nat):AllOk Tryz.prog gl (Zi n):=.cons (SC n) (Un n)
def bn (n:Nat) {R:Type} (r1:(Sq Int)) (k:(BA×Unit)→Option R):Option R:=
 if (r1.n:Int)=(r1.n:Int)∧(r1.n:Int)≤9223372036854775807 then
 k ((ah r1.n r1.at'),())
 else
 none
def Rd (n:Nat) (r1:(Sq Int)):Option (BA×Unit):=bn n r1 some
theorem tO (n:Nat) {S:Type}:∀ r1 (φ:_→Option S),(Rd n r1).bind φ=bn n r1 φ:=by
 intros;unfold Rd bn;first | (simp only [fa,ba,iB,bB,oL,oX,nB,Option.bind_some]) | rfl
def Tv (n:Nat):Hint OutS:={ live:=fun c=>[],run:=fun c=>none,xm:=fun c q=>none,sch:=fun c=>(cond (Nat.beq c 1) (some [(0,0),(1,0),(2,0),(5,0),(6,0),(7,0),(3,1),(8,1),(9,0),(4,3),(10,2),(11,0)]) none) }
theorem UI (n:Nat):ua tys (da OutS (Zi n)) (Tv n) n (aa Tryz.f88) 0:=ma (fun _=>rfl) _ _ (by kernel_rfl)
theorem yK (n:Nat):Enters Tryz.prog 88:=enters_of (c:=aa Tryz.f88) Tryz.func88 (by kernel_rfl) (by kernel_rfl)
def NA:List RSp:=[.one (.ptr 0 0 0)]
def MA:List RS:=[.box 126 2 false [.ptr 0 0 0,.row 1],.row 5 1 (.int .u8) true false]
def zK:List Sl:=[.ptr 0 0 0]
def AK:List RSp:=[.one (.dat .str)]
def uj:List RS:=[.box 126 2 false [.ptr 0 0 0,.top]]
def Qu (y:(BA×Unit)):OutS:=⟨false,Kl (Yb uj ((),())) zK (),Xu (Us (Yb uj ((),())) AK ((y.1,()),())),ao (Yb uj ((),())) uj ((),())⟩
theorem PM (n:Nat):EntryOk Tryz.prog gl ⟨88,Re,none,some (csT NA MA (fun σ ρ=>Rd n ρ.2.1) Qu)⟩:=
 Lc (yK n) fun σ ρ y h=>Me tys_ok (Cl n) mixed (hint:=Tv n) (n:=n) Tryz.func88 (Na (UI n)) (la (φ:=fun y=>some (Qu y)) (by kernel_rfl) (tO n ρ.2.1 _) h)
def Vr (n:Nat):List Entry:=⟨88,Re,none,some (csT NA MA (fun σ ρ=>Rd n ρ.2.1) Qu)⟩::Zi n
theorem Et (n:Nat):AllOk Tryz.prog gl (Vr n):=.cons (PM n) (Cl n)
def dn (n:Nat) {R:Type} (k:(BA×Unit)→Option R):Option R:=
 if ((0:Nat):Int)=0 then
 k ((⟨#[]⟩:BA),())
 else
 none
def Sh (n:Nat):Option (BA×Unit):=dn n some
theorem uO (n:Nat) {S:Type}:∀ (φ:_→Option S),(Sh n).bind φ=dn n φ:=by
 intros;unfold Sh dn;first | (simp only [fa,ba,iB,bB,oL,oX,nB,Option.bind_some]) | rfl
def Uv (n:Nat):Hint OutS:={ live:=fun c=>[],run:=fun c=>none,xm:=fun c q=>none,sch:=fun c=>(cond (Nat.beq c 1) (some [(0,0),(1,0),(2,0),(5,0),(6,0),(7,0),(3,1),(8,1),(9,0),(4,3),(10,2),(11,0)]) none) }
theorem VI (n:Nat):ua tys (da OutS (Vr n)) (Uv n) n (aa Tryz.f88) 0:=ma (fun _=>rfl) _ _ (by kernel_rfl)
theorem BK (n:Nat):Enters Tryz.prog 88:=enters_of (c:=aa Tryz.f88) Tryz.func88 (by kernel_rfl) (by kernel_rfl)
def PA:List RSp:=[.one (.ptr 0 0 0)]
def OA:List RS:=[.box 126 2 true [.cn .nilp,.cn .nils]]
def CK:List Sl:=[.ptr 0 0 0]
def DK:List RSp:=[.one (.dat .str)]
def vj:List RS:=[.box 126 2 true [.cn .nilp,.cn .nils]]
def Ru (y:(BA×Unit)):OutS:=⟨false,Kl (Yb vj ((),())) CK (),Xu (Us (Yb vj ((),())) DK ((y.1,()),())),ao (Yb vj ((),())) vj ((),())⟩
theorem QM (n:Nat):EntryOk Tryz.prog gl ⟨88,Re,none,some (csT PA OA (fun σ ρ=>Sh n) Ru)⟩:=
 Lc (BK n) fun σ ρ y h=>Me tys_ok (Et n) mixed (hint:=Uv n) (n:=n) Tryz.func88 (Na (VI n)) (la (φ:=fun y=>some (Ru y)) (by kernel_rfl) (uO n _) h)
def Th (n:Nat):List Entry:=⟨88,Re,none,some (csT PA OA (fun σ ρ=>Sh n) Ru)⟩::Vr n
theorem Ft (n:Nat):AllOk Tryz.prog gl (Th n):=.cons (QM n) (Et n)
def Zm (n:Nat) {R:Type} (t12:(Sq BA)) (t13 t14 r1:Int) (r2:(Sq BA)) (r21:(Sq Int)) (kn:(Sq BA)→Int→Int→Int→(Sq BA)→(Sq Int)→Option R) (ko:((Sq Int))→Option R) (kr:Unit→Option R) (kp:Int→Option R):Option R:=
 if (decide (t14<t13))=true then
 if 0≤t14∧t14<(t12.n:Int) then
  if (t14==(IntKind.wrap .i64 ((r2.n:Int) - (1:Int))))=true then
  (VP r1).bind fun v3=>
  if Ca v3 (⟨#[32]⟩:BA)=true then
   if Ca (v3++(⟨#[32]⟩:BA)) (t12.at' (Int.toNat t14))=true then
   if Ca ((v3++(⟨#[32]⟩:BA))++(t12.at' (Int.toNat t14))) (⟨#[13,10]⟩:BA)=true then
    (Wd n (((v3++(⟨#[32]⟩:BA))++(t12.at' (Int.toNat t14)))++(⟨#[13,10]⟩:BA)) r21).bind fun v4=>
    kn t12 t13 (IntKind.wrap .i64 (t14+(1:Int))) r1 r2 v4.2.1
   else
    none
   else
   none
  else
   none
  else
  (VP r1).bind fun v5=>
  if Ca v5 (⟨#[45]⟩:BA)=true then
   if Ca (v5++(⟨#[45]⟩:BA)) (t12.at' (Int.toNat t14))=true then
   if Ca ((v5++(⟨#[45]⟩:BA))++(t12.at' (Int.toNat t14))) (⟨#[13,10]⟩:BA)=true then
    (Wd n (((v5++(⟨#[45]⟩:BA))++(t12.at' (Int.toNat t14)))++(⟨#[13,10]⟩:BA)) r21).bind fun v6=>
    kn t12 t13 (IntKind.wrap .i64 (t14+(1:Int))) r1 r2 v6.2.1
   else
    none
   else
   none
  else
   none
 else
  none
 else
 ko r21
def rd (n:Nat):Nat→(Sq BA)→Int→Int→Int→(Sq BA)→(Sq Int)→Option (Lx ((Sq Int)) Unit)
 | 0,_,_,_,_,_,_=>none
 | m+1,t12,t13,t14,r1,r2,r21=>Zm n t12 t13 t14 r1 r2 r21 (rd n m) (fun a=>some (.out a)) (fun a=>some (.ret a)) (fun p=>some (.pan p))
theorem tK (n m:Nat) {S:Type}:∀ t12 t13 t14 r1 r2 r21 (φ:_→Option S),(rd n (m+1) t12 t13 t14 r1 r2 r21).bind φ=Zm n t12 t13 t14 r1 r2 r21 (fun t12 t13 t14 r1 r2 r21=>(rd n m t12 t13 t14 r1 r2 r21).bind φ) (fun a=>φ (.out a)) (fun a=>φ (.ret a)) (fun p=>φ (.pan p)):=by
 intros;first | (simp only [rd,Zm,fa,ba,iB,bB,oL,oX,nB,Option.bind_some]) | rfl
def Cm:List Sl:=.top::.ptr 0 0 0::.top::.top::.ptr 1 0 0::tp 7 (.dat (.sl .str)::.dat (.int .i64)::.dat (.int .i64)::tp 21 [])
def Bm:List RS:=[.box 94 2 true [.dat (.int .i64),.dat (.sl .str)],.box 126 2 false [.ptr 1 0 0,.row 2],.row 5 1 (.int .u8) true false]
def FA:List Sl:=tp 4 (.ptr 0 0 0::tp 31 [])
def EA:List RS:=[.box 126 2 false [.ptr 0 0 0,.row 1],.row 5 1 (.int .u8) true false]
def Dd (K:XE→List AV→ia→Option Out):Lx ((Sq Int)) Unit→Option Out:=fun x=>onL x (fun a=>Bk FA EA () ((),(a,())) (K (.exit 0))) (fun _=>none) (fun _=>none)
def Xw (n:Nat) {R:Type} (r:U17) (k:(BA×Int×Unit)→Option R):Option R:=
 (yH n (r.1,(r.2.1,()))).bind fun v=>
 if (!v)=true then
 k ((⟨#[]⟩:BA),((1:Int),()))
 else
 if (decide ((0:Int)<(r.2.1.n:Int)))=true then
  if 0≤(0:Int)∧(0:Int)<(r.2.1.n:Int) then
  if ((0:Int)==(IntKind.wrap .i64 ((r.2.1.n:Int) - (1:Int))))=true then
   (VP r.1).bind fun v1=>
   if Ca v1 (⟨#[32]⟩:BA)=true then
   if Ca (v1++(⟨#[32]⟩:BA)) (r.2.1.at' (Int.toNat (0:Int)))=true then
    if Ca ((v1++(⟨#[32]⟩:BA))++(r.2.1.at' (Int.toNat (0:Int)))) (⟨#[13,10]⟩:BA)=true then
    (Vd n (((v1++(⟨#[32]⟩:BA))++(r.2.1.at' (Int.toNat (0:Int))))++(⟨#[13,10]⟩:BA))).bind fun v2=>
    (rd n n r.2.1 (r.2.1.n:Int) (IntKind.wrap .i64 ((0:Int)+(1:Int))) r.1 r.2.1 v2.2.1).bind fun x_1=>onL x_1
     (fun a_2=>
     (Rd n a_2).bind fun v7=>
     k (v7.1,((0:Int),())))
     (fun _=>none)
     (fun _=>none)
    else
    none
   else
    none
   else
   none
  else
   (VP r.1).bind fun v8=>
   if Ca v8 (⟨#[45]⟩:BA)=true then
   if Ca (v8++(⟨#[45]⟩:BA)) (r.2.1.at' (Int.toNat (0:Int)))=true then
    if Ca ((v8++(⟨#[45]⟩:BA))++(r.2.1.at' (Int.toNat (0:Int)))) (⟨#[13,10]⟩:BA)=true then
    (Vd n (((v8++(⟨#[45]⟩:BA))++(r.2.1.at' (Int.toNat (0:Int))))++(⟨#[13,10]⟩:BA))).bind fun v9=>
    (rd n n r.2.1 (r.2.1.n:Int) (IntKind.wrap .i64 ((0:Int)+(1:Int))) r.1 r.2.1 v9.2.1).bind fun x_3=>onL x_3
     (fun a_4=>
     (Rd n a_4).bind fun v10=>
     k (v10.1,((0:Int),())))
     (fun _=>none)
     (fun _=>none)
    else
    none
   else
    none
   else
   none
  else
  none
 else
  (Sh n).bind fun v11=>
  k (v11.1,((0:Int),()))
def Ww (n:Nat) (r:U17):Option (BA×Int×Unit):=Xw n r some
theorem MQ (n:Nat) {S:Type}:∀ r (φ:_→Option S),(Ww n r).bind φ=Xw n r φ:=by
 intros;unfold Ww Xw;first | (simp only [fa,ba,iB,bB,oL,oX,nB,Option.bind_some]) | rfl
def rj (n:Nat):Hint Out:={ live:=fun c=>(cond (Nat.beq c 0) [(1,none),(4,none),(12,some (.sl .str)),(13,none),(14,none)] []),run:=fun c=>(cond (Nat.beq c 0) (some (Ms Cm Bm fun σ ρ K=>(rd n n σ.1 σ.2.1 σ.2.2.1 ρ.1.1 ρ.1.2.1 ρ.2.2.1).bind (Dd K))) none),xm:=fun c q=>(cond (Nat.beq c 0&&Nat.beq (q.getD 1000000) 0&&q.isSome) (some [(4,none)]) none),pl:=fun c=>Nat.beq c 0 }
def qj (n:Nat) (K:XE→List AV→ia→Option Out) (m:Nat) (t12:(Sq BA)) (t13:Int) (t14:Int) (r1:Int) (r2:(Sq BA)) (r21:(Sq Int)):Option Out:=Ef tys (da Out (Th n)) (rj n) n (Fa [1,1,1,0,1,0,0] (aa Tryz.f50)) 0 Cm Bm K m (t12,(t13,(t14,()))) ((r1,(r2,())),((),(r21,())))
theorem Gx (n:Nat) (K:XE→List AV→ia→Option Out):∀ (m:Nat) t12 t13 t14 r1 r2 r21,qj n K m t12 t13 t14 r1 r2 r21=(rd n m t12 t13 t14 r1 r2 r21).bind (Dd K)
 | 0,_,_,_,_,_,_=>by kernel_rfl
 | m+1,t12,t13,t14,r1,r2,r21=>by
  have h1:qj n K (m+1) t12 t13 t14 r1 r2 r21=Zm n t12 t13 t14 r1 r2 r21 (qj n K m) (fun a=>Dd K (.out a)) (fun a=>Dd K (.ret a)) (fun p=>Dd K (.pan p)):=by kernel_rfl
  have h2:qj n K m=fun t12 t13 t14 r1 r2 r21=>(rd n m t12 t13 t14 r1 r2 r21).bind (Dd K):=by
   repeat (refine funext fun _=>?_)
   exact Gx n K m _ _ _ _ _ _
  rw [h1,h2];exact (tK n m _ _ _ _ _ _ (Dd K)).symm
theorem RI (n:Nat):Pe tys (da Out (Th n)) (rj n) n (Fa [1,1,1,0,1,0,0] (aa Tryz.f50)) 0:=Qa (sp:=Cm) (rp:=Bm) (by kernel_rfl) fun K σ ρ=>Gx n K n σ.1 σ.2.1 σ.2.2.1 ρ.1.1 ρ.1.2.1 ρ.2.2.1
theorem uK (n:Nat):ua tys (da Out (Th n)) (rj n) n (aa Tryz.f50) 0:=⟨trivial,⟨⟨trivial,⟨⟨trivial,trivial⟩,trivial⟩⟩,⟨trivial,⟨⟨trivial,⟨RI n,⟨trivial,⟨⟨trivial,trivial⟩,⟨⟨trivial,⟨trivial,⟨⟨trivial,⟨trivial,trivial⟩⟩,trivial⟩⟩⟩,trivial⟩⟩⟩⟩⟩,⟨trivial,trivial⟩⟩⟩⟩⟩
theorem IM (n:Nat):Enters Tryz.prog 50:=enters_of (c:=aa Tryz.f50) Tryz.func50 (by kernel_rfl) (by kernel_rfl)
def FD (n:Nat):Entry:=⟨50,pcT (.pair (.pair (.int .i64) (.pair (.sl .str) .unit)) .unit) (.many (.pair .str (.pair (.int .i64) .unit))) (fun xs=>Ww n xs.1),none,none⟩
theorem nO (n:Nat):EntryOk Tryz.prog gl (FD n):=
 Oa (IM n) fun xs y h=>ra tys_ok (Ft n) mixed (hint:=rj n) (n:=n) Tryz.func50 (Na (uK n)) (la (φ:=(fun y=>some (Out.ret (Kf (.many (.pair .str (.pair (.int .i64) .unit))) y)))) (by kernel_rfl) (MQ n xs.1 _) h)
def Ou (n:Nat):List Entry:=FD n::Th n
theorem Pv (n:Nat):AllOk Tryz.prog gl (Ou n):=.cons (nO n) (Ft n)
def cA (n:Nat) {R:Type} (code:Int) (k:BA→Option R):Option R:=
 (wB n code).bind fun v=>
 (Ww n (code,((⟨1,fun q=>List.getD (α:=BA) [v] q (Aa .str)⟩:Sq BA),()))).bind fun v1=>
 k v1.1
def wd (n:Nat) (code:Int):Option BA:=cA n code some
theorem xS (n:Nat) {S:Type}:∀ code (φ:_→Option S),(wd n code).bind φ=cA n code φ:=by
 intros;unfold wd cA;first | (simp only [fa,ba,iB,bB,oL,oX,nB,Option.bind_some]) | rfl
def dA (n:Nat):Hint Out:={ live:=fun c=>[],run:=fun c=>none,xm:=fun c q=>none }
theorem ZL (n:Nat):ua tys (da Out (Ou n)) (dA n) n (aa Tryz.f33) 0:=ma (fun _=>rfl) _ _ (by kernel_rfl)
theorem TN (n:Nat):Enters Tryz.prog 33:=enters_of (c:=aa Tryz.f33) Tryz.func33 (by kernel_rfl) (by kernel_rfl)
def kG (n:Nat):Entry:=⟨33,pcT (.pair (.int .i64) .unit) (.one .str) (fun xs=>wd n xs.1),none,none⟩
theorem dQ (n:Nat):EntryOk Tryz.prog gl (kG n):=
 Oa (TN n) fun xs y h=>ra tys_ok (Pv n) mixed (hint:=dA n) (n:=n) Tryz.func33 (Na (ZL n)) (la (φ:=(fun y=>some (Out.ret (Kf (.one .str) y)))) (by kernel_rfl) (xS n xs.1 _) h)
def Kw (n:Nat):List Entry:=kG n::Ou n
theorem Bx (n:Nat):AllOk Tryz.prog gl (Kw n):=.cons (dQ n) (Pv n)
def nh (n:Nat) {R:Type} (code:Int) (b0:Bool) (b01:(Sq Int)) (b02:BA) (b03:Bool) (b04 b05:BA) (b06:Bool) (b07:BA) (r1 r2:(Sq BA)) (k:U0→Option R):Option R:=
 (wd n code).bind fun v=>
 if Ca b07 v=true then
 k (b0,(b01,(b02,(b03,(b04,(b05,(b06,((b07++v),(r1,(r2,()))))))))))
 else
 none
def ta (n:Nat) (code:Int) (b0:Bool) (b01:(Sq Int)) (b02:BA) (b03:Bool) (b04 b05:BA) (b06:Bool) (b07:BA) (r1 r2:(Sq BA)):Option U0:=nh n code b0 b01 b02 b03 b04 b05 b06 b07 r1 r2 some
theorem iG (n:Nat) {S:Type}:∀ code b0 b01 b02 b03 b04 b05 b06 b07 r1 r2 (φ:_→Option S),(ta n code b0 b01 b02 b03 b04 b05 b06 b07 r1 r2).bind φ=nh n code b0 b01 b02 b03 b04 b05 b06 b07 r1 r2 φ:=by
 intros;unfold ta nh;first | (simp only [fa,ba,iB,bB,oL,oX,nB,Option.bind_some]) | rfl
def Hn (n:Nat):Hint OutS:={ live:=fun c=>[],run:=fun c=>none,xm:=fun c q=>none,sch:=fun c=>(cond (Nat.beq c 0) (some [(0,0),(1,0),(2,0),(4,0),(3,1),(5,3),(6,0),(7,0),(8,0),(9,2)]) none),nb:=[(71,1,.frz (.int .i64)),(71,5,.prm 9),(71,8,.prm 9)] }
theorem Wz (n:Nat):ua tys (da OutS (Kw n)).keep (Hn n) n (aa Tryz.f55) 0:=ma (fun _=>rfl) _ _ (by kernel_rfl)
theorem rC (n:Nat):Enters Tryz.prog 55:=enters_of (c:=aa Tryz.f55) Tryz.func55 (by kernel_rfl) (by kernel_rfl)
def ar:List RSp:=[.one (.ptr 0 0 0),.one (.dat (.int .i64))]
def Zq:List RS:=[.box 71 10 false [.dat .bool,.dat (.sl (.int .i64)),.dat .str,.dat .bool,.dat .str,.row 1,.dat .str,.dat .bool,.row 2,.dat .str],.row 9 1 .str true true,.row 9 1 .str true true]
def sC:List Sl:=[.ptr 0 0 0,.top]
def tC:List RSp:=[]
def If:List RS:=[.box 71 10 false [.dat .bool,.dat (.sl (.int .i64)),.dat .str,.dat .bool,.dat .str,.row 1,.dat .str,.dat .bool,.row 2,.dat .str],.row 9 1 .str true true,.row 9 1 .str true true]
def Rk (y:U0):OutS:=⟨false,Kl (Yb If ((y.1,(y.2.1,(y.2.2.1,(y.2.2.2.1,(y.2.2.2.2.1,(y.2.2.2.2.2.1,(y.2.2.2.2.2.2.1,(y.2.2.2.2.2.2.2.1,())))))))),(y.2.2.2.2.2.2.2.2.1,(y.2.2.2.2.2.2.2.2.2.1,())))) sC (),Xu (Us (Yb If ((y.1,(y.2.1,(y.2.2.1,(y.2.2.2.1,(y.2.2.2.2.1,(y.2.2.2.2.2.1,(y.2.2.2.2.2.2.1,(y.2.2.2.2.2.2.2.1,())))))))),(y.2.2.2.2.2.2.2.2.1,(y.2.2.2.2.2.2.2.2.2.1,())))) tC ()),ao (Yb If ((y.1,(y.2.1,(y.2.2.1,(y.2.2.2.1,(y.2.2.2.2.1,(y.2.2.2.2.2.1,(y.2.2.2.2.2.2.1,(y.2.2.2.2.2.2.2.1,())))))))),(y.2.2.2.2.2.2.2.2.1,(y.2.2.2.2.2.2.2.2.2.1,())))) If ((y.1,(y.2.1,(y.2.2.1,(y.2.2.2.1,(y.2.2.2.2.1,(y.2.2.2.2.2.1,(y.2.2.2.2.2.2.1,(y.2.2.2.2.2.2.2.1,())))))))),(y.2.2.2.2.2.2.2.2.1,(y.2.2.2.2.2.2.2.2.2.1,())))⟩
theorem tE (n:Nat):EntryOk Tryz.prog gl ⟨55,Re,none,some (csT ar Zq (fun σ ρ=>ta n σ.2.1.1 ρ.1.1 ρ.1.2.1 ρ.1.2.2.1 ρ.1.2.2.2.1 ρ.1.2.2.2.2.1 ρ.1.2.2.2.2.2.1 ρ.1.2.2.2.2.2.2.1 ρ.1.2.2.2.2.2.2.2.1 ρ.2.1 ρ.2.2.1) Rk)⟩:=
 Lc (rC n) fun σ ρ y h=>Xa tys_ok (Bx n) mixed (hint:=Hn n) (n:=n) Tryz.func55 (Na (Wz n)) (la (φ:=fun y=>some (Rk y)) (by kernel_rfl) (iG n σ.2.1.1 ρ.1.1 ρ.1.2.1 ρ.1.2.2.1 ρ.1.2.2.2.1 ρ.1.2.2.2.2.1 ρ.1.2.2.2.2.2.1 ρ.1.2.2.2.2.2.2.1 ρ.1.2.2.2.2.2.2.2.1 ρ.2.1 ρ.2.2.1 _) h)
def Mj (n:Nat):List Entry:=⟨55,Re,none,some (csT ar Zq (fun σ ρ=>ta n σ.2.1.1 ρ.1.1 ρ.1.2.1 ρ.1.2.2.1 ρ.1.2.2.2.1 ρ.1.2.2.2.2.1 ρ.1.2.2.2.2.2.1 ρ.1.2.2.2.2.2.2.1 ρ.1.2.2.2.2.2.2.2.1 ρ.2.1 ρ.2.2.1) Rk)⟩::Kw n
theorem Yl (n:Nat):AllOk Tryz.prog gl (Mj n):=.cons (tE n) (Bx n)
def Sm (n:Nat) {R:Type} (s prefix0:BA) (k:Bool→Option R):Option R:=
 if (decide ((s.size:Int)≥(prefix0.size:Int)))=true then
 if 0≤(prefix0.size:Int)∧(prefix0.size:Int)≤(s.size:Int) then
  k ((s.extract (Int.toNat (0:Int)) (Int.toNat (prefix0.size:Int))).toList==prefix0.toList)
 else
  none
 else
 k false
def Vf (n:Nat) (s prefix0:BA):Option Bool:=Sm n s prefix0 some
theorem LN (n:Nat) {S:Type}:∀ s prefix0 (φ:_→Option S),(Vf n s prefix0).bind φ=Sm n s prefix0 φ:=by
 intros;unfold Vf Sm;first | (simp only [fa,ba,iB,bB,oL,oX,nB,Option.bind_some]) | rfl
def ov (n:Nat):Hint Out:={ live:=fun c=>[],run:=fun c=>none,xm:=fun c q=>none }
theorem mI (n:Nat):ua tys (da Out (Mj n)) (ov n) n (aa Tryz.f94) 0:=ma (fun _=>rfl) _ _ (by kernel_rfl)
theorem eK (n:Nat):Enters Tryz.prog 94:=enters_of (c:=aa Tryz.f94) Tryz.func94 (by kernel_rfl) (by kernel_rfl)
def ez (n:Nat):Entry:=⟨94,pcT (.pair .str (.pair .str .unit)) (.one .bool) (fun xs=>Vf n xs.1 xs.2.1),none,none⟩
theorem JL (n:Nat):EntryOk Tryz.prog gl (ez n):=
 Oa (eK n) fun xs y h=>ra tys_ok (Yl n) mixed (hint:=ov n) (n:=n) Tryz.func94 (Na (mI n)) (la (φ:=(fun y=>some (Out.ret (Kf (.one .bool) y)))) (by kernel_rfl) (LN n xs.1 xs.2.1 _) h)
def Kq (n:Nat):List Entry:=ez n::Mj n
theorem Xs (n:Nat):AllOk Tryz.prog gl (Kq n):=.cons (JL n) (Yl n)
def Ak (n:Nat) {R:Type} (s prefix0:BA) (k:BA→Option R):Option R:=
 (Vf n s prefix0).bind fun v=>
 if v=true then
 if 0≤(prefix0.size:Int)∧(prefix0.size:Int)≤(s.size:Int) then
  k (s.extract (Int.toNat (prefix0.size:Int)) (Int.toNat (s.size:Int)))
 else
  none
 else
 k s
def zk (n:Nat) (s prefix0:BA):Option BA:=Ak n s prefix0 some
theorem ML (n:Nat) {S:Type}:∀ s prefix0 (φ:_→Option S),(zk n s prefix0).bind φ=Ak n s prefix0 φ:=by
 intros;unfold zk Ak;first | (simp only [fa,ba,iB,bB,oL,oX,nB,Option.bind_some]) | rfl
def ct (n:Nat):Hint Out:={ live:=fun c=>[],run:=fun c=>none,xm:=fun c q=>none }
theorem cG (n:Nat):ua tys (da Out (Kq n)) (ct n) n (aa Tryz.f119) 0:=ma (fun _=>rfl) _ _ (by kernel_rfl)
theorem pI (n:Nat):Enters Tryz.prog 119:=enters_of (c:=aa Tryz.f119) Tryz.func119 (by kernel_rfl) (by kernel_rfl)
def xx (n:Nat):Entry:=⟨119,pcT (.pair .str (.pair .str .unit)) (.one .str) (fun xs=>zk n xs.1 xs.2.1),none,none⟩
theorem iK (n:Nat):EntryOk Tryz.prog gl (xx n):=
 Oa (pI n) fun xs y h=>ra tys_ok (Xs n) mixed (hint:=ct n) (n:=n) Tryz.func119 (Na (cG n)) (la (φ:=(fun y=>some (Out.ret (Kf (.one .str) y)))) (by kernel_rfl) (ML n xs.1 xs.2.1 _) h)
def bo (n:Nat):List Entry:=xx n::Kq n
theorem Nq (n:Nat):AllOk Tryz.prog gl (bo n):=.cons (iK n) (Xs n)
def Hl (n:Nat) {R:Type} (s prefix0:BA) (k:BA→Option R):Option R:=
 (zk n s prefix0).bind fun v=>
 k v
def ni (n:Nat) (s prefix0:BA):Option BA:=Hl n s prefix0 some
theorem fN (n:Nat) {S:Type}:∀ s prefix0 (φ:_→Option S),(ni n s prefix0).bind φ=Hl n s prefix0 φ:=by
 intros;unfold ni Hl;first | (simp only [fa,ba,iB,bB,oL,oX,nB,Option.bind_some]) | rfl
def Tt (n:Nat):Hint Out:={ live:=fun c=>[],run:=fun c=>none,xm:=fun c q=>none }
theorem OH (n:Nat):ua tys (da Out (bo n)) (Tt n) n (aa Tryz.f90) 0:=ma (fun _=>rfl) _ _ (by kernel_rfl)
theorem fJ (n:Nat):Enters Tryz.prog 90:=enters_of (c:=aa Tryz.f90) Tryz.func90 (by kernel_rfl) (by kernel_rfl)
def Kx (n:Nat):Entry:=⟨90,pcT (.pair .str (.pair .str .unit)) (.one .str) (fun xs=>ni n xs.1 xs.2.1),none,none⟩
theorem LK (n:Nat):EntryOk Tryz.prog gl (Kx n):=
 Oa (fJ n) fun xs y h=>ra tys_ok (Nq n) mixed (hint:=Tt n) (n:=n) Tryz.func90 (Na (OH n)) (la (φ:=(fun y=>some (Out.ret (Kf (.one .str) y)))) (by kernel_rfl) (fN n xs.1 xs.2.1 _) h)
def xo (n:Nat):List Entry:=Kx n::bo n
theorem ks (n:Nat):AllOk Tryz.prog gl (xo n):=.cons (LK n) (Nq n)
def kw (n:Nat) {R:Type} (line:BA) (k:(BA×Bool×Unit)→Option R):Option R:=
 if (line.toList==(⟨#[46]⟩:BA).toList)=true then
 k ((⟨#[]⟩:BA),(true,()))
 else
 (ni n line (⟨#[46]⟩:BA)).bind fun v=>
 k (v,(false,()))
def Gq (n:Nat) (line:BA):Option (BA×Bool×Unit):=kw n line some
theorem nU (n:Nat) {S:Type}:∀ line (φ:_→Option S),(Gq n line).bind φ=kw n line φ:=by
 intros;unfold Gq kw;first | (simp only [fa,ba,iB,bB,oL,oX,nB,Option.bind_some]) | rfl
def eD (n:Nat):Hint Out:={ live:=fun c=>[],run:=fun c=>none,xm:=fun c q=>none }
theorem CN (n:Nat):ua tys (da Out (xo n)) (eD n) n (aa Tryz.f56) 0:=ma (fun _=>rfl) _ _ (by kernel_rfl)
theorem MP (n:Nat):Enters Tryz.prog 56:=enters_of (c:=aa Tryz.f56) Tryz.func56 (by kernel_rfl) (by kernel_rfl)
def zJ (n:Nat):Entry:=⟨56,pcT (.pair .str .unit) (.many (.pair .str (.pair .bool .unit))) (fun xs=>Gq n xs.1),none,none⟩
theorem RR (n:Nat):EntryOk Tryz.prog gl (zJ n):=
 Oa (MP n) fun xs y h=>ra tys_ok (ks n) mixed (hint:=eD n) (n:=n) Tryz.func56 (Na (CN n)) (la (φ:=(fun y=>some (Out.ret (Kf (.many (.pair .str (.pair .bool .unit))) y)))) (by kernel_rfl) (nU n xs.1 _) h)
def Uy (n:Nat):List Entry:=zJ n::xo n
theorem Vy (n:Nat):AllOk Tryz.prog gl (Uy n):=.cons (RR n) (ks n)
def oh (n:Nat) {R:Type} (code:Int) (b0:Bool) (b01:(Sq Int)) (b02:BA) (b03:Bool) (b04:BA) (b05:(Sq BA)) (b06:BA) (b07:Bool) (b08:BA) (r1:(Sq BA)) (k:U6→Option R):Option R:=
 (wd n code).bind fun v=>
 if Ca b08 v=true then
 k (b0,(b01,(b02,(b03,(b04,(b05,(b06,(b07,((b08++v),(r1,()))))))))))
 else
 none
def Nb (n:Nat) (code:Int) (b0:Bool) (b01:(Sq Int)) (b02:BA) (b03:Bool) (b04:BA) (b05:(Sq BA)) (b06:BA) (b07:Bool) (b08:BA) (r1:(Sq BA)):Option U6:=oh n code b0 b01 b02 b03 b04 b05 b06 b07 b08 r1 some
theorem jG (n:Nat) {S:Type}:∀ code b0 b01 b02 b03 b04 b05 b06 b07 b08 r1 (φ:_→Option S),(Nb n code b0 b01 b02 b03 b04 b05 b06 b07 b08 r1).bind φ=oh n code b0 b01 b02 b03 b04 b05 b06 b07 b08 r1 φ:=by
 intros;unfold Nb oh;first | (simp only [fa,ba,iB,bB,oL,oX,nB,Option.bind_some]) | rfl
def In (n:Nat):Hint OutS:={ live:=fun c=>[],run:=fun c=>none,xm:=fun c q=>none,sch:=fun c=>(cond (Nat.beq c 0) (some [(0,0),(1,0),(2,0),(4,0),(3,1),(5,3),(6,0),(7,0),(8,0),(9,2)]) none),nb:=[(71,1,.frz (.int .i64)),(71,5,.prm 9),(71,8,.prm 9)] }
theorem Xz (n:Nat):ua tys (da OutS (Uy n)).keep (In n) n (aa Tryz.f55) 0:=ma (fun _=>rfl) _ _ (by kernel_rfl)
theorem uC (n:Nat):Enters Tryz.prog 55:=enters_of (c:=aa Tryz.f55) Tryz.func55 (by kernel_rfl) (by kernel_rfl)
def dr:List RSp:=[.one (.ptr 0 0 0),.one (.dat (.int .i64))]
def br:List RS:=[.box 71 10 false [.dat .bool,.dat (.sl (.int .i64)),.dat .str,.dat .bool,.dat .str,.dat (.sl .str),.dat .str,.dat .bool,.row 1,.dat .str],.row 9 1 .str true true]
def vC:List Sl:=[.ptr 0 0 0,.top]
def wC:List RSp:=[]
def Jf:List RS:=[.box 71 10 false [.dat .bool,.dat (.sl (.int .i64)),.dat .str,.dat .bool,.dat .str,.dat (.sl .str),.dat .str,.dat .bool,.row 1,.dat .str],.row 9 1 .str true true]
def Sk (y:U6):OutS:=⟨false,Kl (Yb Jf ((y.1,(y.2.1,(y.2.2.1,(y.2.2.2.1,(y.2.2.2.2.1,(y.2.2.2.2.2.1,(y.2.2.2.2.2.2.1,(y.2.2.2.2.2.2.2.1,(y.2.2.2.2.2.2.2.2.1,()))))))))),(y.2.2.2.2.2.2.2.2.2.1,()))) vC (),Xu (Us (Yb Jf ((y.1,(y.2.1,(y.2.2.1,(y.2.2.2.1,(y.2.2.2.2.1,(y.2.2.2.2.2.1,(y.2.2.2.2.2.2.1,(y.2.2.2.2.2.2.2.1,(y.2.2.2.2.2.2.2.2.1,()))))))))),(y.2.2.2.2.2.2.2.2.2.1,()))) wC ()),ao (Yb Jf ((y.1,(y.2.1,(y.2.2.1,(y.2.2.2.1,(y.2.2.2.2.1,(y.2.2.2.2.2.1,(y.2.2.2.2.2.2.1,(y.2.2.2.2.2.2.2.1,(y.2.2.2.2.2.2.2.2.1,()))))))))),(y.2.2.2.2.2.2.2.2.2.1,()))) Jf ((y.1,(y.2.1,(y.2.2.1,(y.2.2.2.1,(y.2.2.2.2.1,(y.2.2.2.2.2.1,(y.2.2.2.2.2.2.1,(y.2.2.2.2.2.2.2.1,(y.2.2.2.2.2.2.2.2.1,()))))))))),(y.2.2.2.2.2.2.2.2.2.1,()))⟩
theorem uE (n:Nat):EntryOk Tryz.prog gl ⟨55,Re,none,some (csT dr br (fun σ ρ=>Nb n σ.2.1.1 ρ.1.1 ρ.1.2.1 ρ.1.2.2.1 ρ.1.2.2.2.1 ρ.1.2.2.2.2.1 ρ.1.2.2.2.2.2.1 ρ.1.2.2.2.2.2.2.1 ρ.1.2.2.2.2.2.2.2.1 ρ.1.2.2.2.2.2.2.2.2.1 ρ.2.1) Sk)⟩:=
 Lc (uC n) fun σ ρ y h=>Xa tys_ok (Vy n) mixed (hint:=In n) (n:=n) Tryz.func55 (Na (Xz n)) (la (φ:=fun y=>some (Sk y)) (by kernel_rfl) (jG n σ.2.1.1 ρ.1.1 ρ.1.2.1 ρ.1.2.2.1 ρ.1.2.2.2.1 ρ.1.2.2.2.2.1 ρ.1.2.2.2.2.2.1 ρ.1.2.2.2.2.2.2.1 ρ.1.2.2.2.2.2.2.2.1 ρ.1.2.2.2.2.2.2.2.2.1 ρ.2.1 _) h)
def Nj (n:Nat):List Entry:=⟨55,Re,none,some (csT dr br (fun σ ρ=>Nb n σ.2.1.1 ρ.1.1 ρ.1.2.1 ρ.1.2.2.1 ρ.1.2.2.2.1 ρ.1.2.2.2.2.1 ρ.1.2.2.2.2.2.1 ρ.1.2.2.2.2.2.2.1 ρ.1.2.2.2.2.2.2.2.1 ρ.1.2.2.2.2.2.2.2.2.1 ρ.2.1) Sk)⟩::Uy n
theorem Zl (n:Nat):AllOk Tryz.prog gl (Nj n):=.cons (uE n) (Vy n)
def Gf (n:Nat) {R:Type} (b0:Bool) (b01:(Sq Int)) (b02:BA) (b03:Bool) (b04:BA) (b05:(Sq BA)) (b06:BA) (b07:Bool) (b08:BA) (r1:(Sq BA)) (k:U12→Option R):Option R:=
 if (decide ((b01.n:Int)>(0:Int)))=true then
 if 0≤(0:Int)∧(0:Int)<(b01.n:Int) then
  if (decide ((b01.at' (Int.toNat (0:Int)))≥(400:Int)))=true then
  if (decide ((b01.at' (Int.toNat (0:Int)))≤(599:Int)))=true then
   if 0≤(1:Int)∧(1:Int)≤(b01.n:Int) then
   (Nb n (b01.at' (Int.toNat (0:Int))) b0 (⟨((Int.toNat (b01.n:Int)) - (Int.toNat (1:Int))),fun i=>b01.at' ((Int.toNat (1:Int))+i)⟩:Sq Int) b02 b03 b04 b05 b06 b07 b08 r1).bind fun v=>
   k (((b01.at' (Int.toNat (0:Int)))==(250:Int)),(v.1,(v.2.1,(v.2.2.1,(v.2.2.2.1,(v.2.2.2.2.1,(v.2.2.2.2.2.1,(v.2.2.2.2.2.2.1,(v.2.2.2.2.2.2.2.1,(v.2.2.2.2.2.2.2.2.1,(v.2.2.2.2.2.2.2.2.2.1,())))))))))))
   else
   none
  else
   if 0≤(1:Int)∧(1:Int)≤(b01.n:Int) then
   (Nb n (250:Int) b0 (⟨((Int.toNat (b01.n:Int)) - (Int.toNat (1:Int))),fun i=>b01.at' ((Int.toNat (1:Int))+i)⟩:Sq Int) b02 b03 b04 b05 b06 b07 b08 r1).bind fun v1=>
   k (((250:Int)==(250:Int)),(v1.1,(v1.2.1,(v1.2.2.1,(v1.2.2.2.1,(v1.2.2.2.2.1,(v1.2.2.2.2.2.1,(v1.2.2.2.2.2.2.1,(v1.2.2.2.2.2.2.2.1,(v1.2.2.2.2.2.2.2.2.1,(v1.2.2.2.2.2.2.2.2.2.1,())))))))))))
   else
   none
  else
  if 0≤(1:Int)∧(1:Int)≤(b01.n:Int) then
   (Nb n (250:Int) b0 (⟨((Int.toNat (b01.n:Int)) - (Int.toNat (1:Int))),fun i=>b01.at' ((Int.toNat (1:Int))+i)⟩:Sq Int) b02 b03 b04 b05 b06 b07 b08 r1).bind fun v2=>
   k (((250:Int)==(250:Int)),(v2.1,(v2.2.1,(v2.2.2.1,(v2.2.2.2.1,(v2.2.2.2.2.1,(v2.2.2.2.2.2.1,(v2.2.2.2.2.2.2.1,(v2.2.2.2.2.2.2.2.1,(v2.2.2.2.2.2.2.2.2.1,(v2.2.2.2.2.2.2.2.2.2.1,())))))))))))
  else
   none
 else
  none
 else
 (Nb n (250:Int) b0 b01 b02 b03 b04 b05 b06 b07 b08 r1).bind fun v3=>
 k (((250:Int)==(250:Int)),(v3.1,(v3.2.1,(v3.2.2.1,(v3.2.2.2.1,(v3.2.2.2.2.1,(v3.2.2.2.2.2.1,(v3.2.2.2.2.2.2.1,(v3.2.2.2.2.2.2.2.1,(v3.2.2.2.2.2.2.2.2.1,(v3.2.2.2.2.2.2.2.2.2.1,())))))))))))
def pb (n:Nat) (b0:Bool) (b01:(Sq Int)) (b02:BA) (b03:Bool) (b04:BA) (b05:(Sq BA)) (b06:BA) (b07:Bool) (b08:BA) (r1:(Sq BA)):Option U12:=Gf n b0 b01 b02 b03 b04 b05 b06 b07 b08 r1 some
theorem kC (n:Nat) {S:Type}:∀ b0 b01 b02 b03 b04 b05 b06 b07 b08 r1 (φ:_→Option S),(pb n b0 b01 b02 b03 b04 b05 b06 b07 b08 r1).bind φ=Gf n b0 b01 b02 b03 b04 b05 b06 b07 b08 r1 φ:=by
 intros;unfold pb Gf;first | (simp only [fa,ba,iB,bB,oL,oX,nB,Option.bind_some]) | rfl
def Jk (n:Nat):Hint OutS:={ live:=fun c=>[],run:=fun c=>none,xm:=fun c q=>none,nb:=[(71,1,.frz (.int .i64)),(71,5,.prm 9),(71,8,.prm 9)] }
theorem Dw (n:Nat):ua tys (da OutS (Nj n)).keep (Jk n) n (aa Tryz.f91) 0:=ma (fun _=>rfl) _ _ (by kernel_rfl)
theorem Xx (n:Nat):Enters Tryz.prog 91:=enters_of (c:=aa Tryz.f91) Tryz.func91 (by kernel_rfl) (by kernel_rfl)
def En:List RSp:=[.one (.ptr 0 0 0)]
def Dn:List RS:=[.box 71 10 false [.dat .bool,.dat (.sl (.int .i64)),.dat .str,.dat .bool,.dat .str,.dat (.sl .str),.dat .str,.dat .bool,.row 1,.dat .str],.row 9 1 .str true true]
def Yx:List Sl:=[.ptr 0 0 0]
def Zx:List RSp:=[.one (.dat .bool)]
def we:List RS:=[.box 71 10 false [.dat .bool,.dat (.sl (.int .i64)),.dat .str,.dat .bool,.dat .str,.dat (.sl .str),.dat .str,.dat .bool,.row 1,.dat .str],.row 9 1 .str true true]
def Ji (y:U12):OutS:=⟨false,Kl (Yb we ((y.2.1,(y.2.2.1,(y.2.2.2.1,(y.2.2.2.2.1,(y.2.2.2.2.2.1,(y.2.2.2.2.2.2.1,(y.2.2.2.2.2.2.2.1,(y.2.2.2.2.2.2.2.2.1,(y.2.2.2.2.2.2.2.2.2.1,()))))))))),(y.2.2.2.2.2.2.2.2.2.2.1,()))) Yx (),Xu (Us (Yb we ((y.2.1,(y.2.2.1,(y.2.2.2.1,(y.2.2.2.2.1,(y.2.2.2.2.2.1,(y.2.2.2.2.2.2.1,(y.2.2.2.2.2.2.2.1,(y.2.2.2.2.2.2.2.2.1,(y.2.2.2.2.2.2.2.2.2.1,()))))))))),(y.2.2.2.2.2.2.2.2.2.2.1,()))) Zx ((y.1,()),())),ao (Yb we ((y.2.1,(y.2.2.1,(y.2.2.2.1,(y.2.2.2.2.1,(y.2.2.2.2.2.1,(y.2.2.2.2.2.2.1,(y.2.2.2.2.2.2.2.1,(y.2.2.2.2.2.2.2.2.1,(y.2.2.2.2.2.2.2.2.2.1,()))))))))),(y.2.2.2.2.2.2.2.2.2.2.1,()))) we ((y.2.1,(y.2.2.1,(y.2.2.2.1,(y.2.2.2.2.1,(y.2.2.2.2.2.1,(y.2.2.2.2.2.2.1,(y.2.2.2.2.2.2.2.1,(y.2.2.2.2.2.2.2.2.1,(y.2.2.2.2.2.2.2.2.2.1,()))))))))),(y.2.2.2.2.2.2.2.2.2.2.1,()))⟩
theorem Cz (n:Nat):EntryOk Tryz.prog gl ⟨91,Re,none,some (csT En Dn (fun σ ρ=>pb n ρ.1.1 ρ.1.2.1 ρ.1.2.2.1 ρ.1.2.2.2.1 ρ.1.2.2.2.2.1 ρ.1.2.2.2.2.2.1 ρ.1.2.2.2.2.2.2.1 ρ.1.2.2.2.2.2.2.2.1 ρ.1.2.2.2.2.2.2.2.2.1 ρ.2.1) Ji)⟩:=
 Lc (Xx n) fun σ ρ y h=>Xa tys_ok (Zl n) mixed (hint:=Jk n) (n:=n) Tryz.func91 (Na (Dw n)) (la (φ:=fun y=>some (Ji y)) (by kernel_rfl) (kC n ρ.1.1 ρ.1.2.1 ρ.1.2.2.1 ρ.1.2.2.2.1 ρ.1.2.2.2.2.1 ρ.1.2.2.2.2.2.1 ρ.1.2.2.2.2.2.2.1 ρ.1.2.2.2.2.2.2.2.1 ρ.1.2.2.2.2.2.2.2.2.1 ρ.2.1 _) h)
def Gh (n:Nat):List Entry:=⟨91,Re,none,some (csT En Dn (fun σ ρ=>pb n ρ.1.1 ρ.1.2.1 ρ.1.2.2.1 ρ.1.2.2.2.1 ρ.1.2.2.2.2.1 ρ.1.2.2.2.2.2.1 ρ.1.2.2.2.2.2.2.1 ρ.1.2.2.2.2.2.2.2.1 ρ.1.2.2.2.2.2.2.2.2.1 ρ.2.1) Ji)⟩::Nj n
theorem gk (n:Nat):AllOk Tryz.prog gl (Gh n):=.cons (Cz n) (Zl n)
def Tc (n:Nat) {R:Type} (to:BA) (b0:Bool) (b01:(Sq Int)) (b02:BA) (b03:Bool) (b04:BA) (b05:(Sq BA)) (b06:BA) (b07:Bool) (b08:BA) (r1:(Sq BA)) (k:U6→Option R):Option R:=
 dup 1 (
 if Ta (r1.n+3) 16=true then
  k (b0,(b01,(b02,(b03,(b04,(b05,(b06,(b07,(b08,((⟨(r1.n+3),fun q=>if q<r1.n then r1.at' q else (fun q=>List.getD (α:=BA) [b04,to,b06] q (Aa .str)) (q - r1.n)⟩:Sq BA),()))))))))))
 else
  none)
def Cb (n:Nat) (to:BA) (b0:Bool) (b01:(Sq Int)) (b02:BA) (b03:Bool) (b04:BA) (b05:(Sq BA)) (b06:BA) (b07:Bool) (b08:BA) (r1:(Sq BA)):Option U6:=Tc n to b0 b01 b02 b03 b04 b05 b06 b07 b08 r1 some
theorem vE (n:Nat) {S:Type}:∀ to b0 b01 b02 b03 b04 b05 b06 b07 b08 r1 (φ:_→Option S),(Cb n to b0 b01 b02 b03 b04 b05 b06 b07 b08 r1).bind φ=Tc n to b0 b01 b02 b03 b04 b05 b06 b07 b08 r1 φ:=by
 intros;unfold Cb Tc;first | (simp only [fa,ba,iB,bB,oL,oX,nB,Option.bind_some]) | rfl
def am (n:Nat):Hint OutS:={ live:=fun c=>[],run:=fun c=>none,xm:=fun c q=>none,sch:=fun c=>(cond (Nat.beq c 0) (some [(0,0),(1,0),(2,0),(3,0),(5,0),(6,0),(7,0),(9,0),(10,0),(11,0),(12,0),(8,1),(13,1),(14,5),(4,7),(15,2),(16,6),(17,6),(18,2)]) none),nb:=[(71,1,.frz (.int .i64)),(71,5,.prm 9),(71,8,.prm 9)] }
theorem my (n:Nat):ua tys (da OutS (Gh n)).keep (am n) n (aa Tryz.f92) 0:=ma (fun _=>rfl) _ _ (by kernel_rfl)
theorem Zz (n:Nat):Enters Tryz.prog 92:=enters_of (c:=aa Tryz.f92) Tryz.func92 (by kernel_rfl) (by kernel_rfl)
def Yo:List RSp:=[.one (.ptr 0 0 0),.one (.dat .str)]
def Xo:List RS:=[.box 71 10 false [.dat .bool,.dat (.sl (.int .i64)),.dat .str,.dat .bool,.dat .str,.dat (.sl .str),.dat .str,.dat .bool,.row 1,.dat .str],.row 9 1 .str true true]
def aA:List Sl:=[.ptr 0 0 0,.top]
def bA:List RSp:=[]
def df:List RS:=[.box 71 10 false [.dat .bool,.dat (.sl (.int .i64)),.dat .str,.dat .bool,.dat .str,.dat (.sl .str),.dat .str,.dat .bool,.row 1,.dat .str],.row 9 1 .str true true]
def Oj (y:U6):OutS:=⟨false,Kl (Yb df ((y.1,(y.2.1,(y.2.2.1,(y.2.2.2.1,(y.2.2.2.2.1,(y.2.2.2.2.2.1,(y.2.2.2.2.2.2.1,(y.2.2.2.2.2.2.2.1,(y.2.2.2.2.2.2.2.2.1,()))))))))),(y.2.2.2.2.2.2.2.2.2.1,()))) aA (),Xu (Us (Yb df ((y.1,(y.2.1,(y.2.2.1,(y.2.2.2.1,(y.2.2.2.2.1,(y.2.2.2.2.2.1,(y.2.2.2.2.2.2.1,(y.2.2.2.2.2.2.2.1,(y.2.2.2.2.2.2.2.2.1,()))))))))),(y.2.2.2.2.2.2.2.2.2.1,()))) bA ()),ao (Yb df ((y.1,(y.2.1,(y.2.2.1,(y.2.2.2.1,(y.2.2.2.2.1,(y.2.2.2.2.2.1,(y.2.2.2.2.2.2.1,(y.2.2.2.2.2.2.2.1,(y.2.2.2.2.2.2.2.2.1,()))))))))),(y.2.2.2.2.2.2.2.2.2.1,()))) df ((y.1,(y.2.1,(y.2.2.1,(y.2.2.2.1,(y.2.2.2.2.1,(y.2.2.2.2.2.1,(y.2.2.2.2.2.2.1,(y.2.2.2.2.2.2.2.1,(y.2.2.2.2.2.2.2.2.1,()))))))))),(y.2.2.2.2.2.2.2.2.2.1,()))⟩
theorem xC (n:Nat):EntryOk Tryz.prog gl ⟨92,Re,none,some (csT Yo Xo (fun σ ρ=>Cb n σ.2.1.1 ρ.1.1 ρ.1.2.1 ρ.1.2.2.1 ρ.1.2.2.2.1 ρ.1.2.2.2.2.1 ρ.1.2.2.2.2.2.1 ρ.1.2.2.2.2.2.2.1 ρ.1.2.2.2.2.2.2.2.1 ρ.1.2.2.2.2.2.2.2.2.1 ρ.2.1) Oj)⟩:=
 Lc (Zz n) fun σ ρ y h=>Xa tys_ok (gk n) mixed (hint:=am n) (n:=n) Tryz.func92 (Na (my n)) (la (φ:=fun y=>some (Oj y)) (by kernel_rfl) (vE n σ.2.1.1 ρ.1.1 ρ.1.2.1 ρ.1.2.2.1 ρ.1.2.2.2.1 ρ.1.2.2.2.2.1 ρ.1.2.2.2.2.2.1 ρ.1.2.2.2.2.2.2.1 ρ.1.2.2.2.2.2.2.2.1 ρ.1.2.2.2.2.2.2.2.2.1 ρ.2.1 _) h)
def Ti (n:Nat):List Entry:=⟨92,Re,none,some (csT Yo Xo (fun σ ρ=>Cb n σ.2.1.1 ρ.1.1 ρ.1.2.1 ρ.1.2.2.1 ρ.1.2.2.2.1 ρ.1.2.2.2.2.1 ρ.1.2.2.2.2.2.1 ρ.1.2.2.2.2.2.2.1 ρ.1.2.2.2.2.2.2.2.1 ρ.1.2.2.2.2.2.2.2.2.1 ρ.2.1) Oj)⟩::Gh n
theorem Tk (n:Nat):AllOk Tryz.prog gl (Ti n):=.cons (xC n) (gk n)
def Dj (n:Nat) {R:Type} (b0:Bool) (b01:(Sq Int)) (b02:BA) (b03:Bool) (b04:BA) (b05:(Sq BA)) (b06:BA) (b07:Bool) (b08:BA) (r1:(Sq BA)) (k:U0→Option R):Option R:=
 k (b0,(b01,(b02,(b03,((⟨#[]⟩:BA),((⟨#[]⟩:BA),(false,(b08,((⟨0,fun _=>Aa .str⟩:Sq BA),(r1,()))))))))))
def Qb (n:Nat) (b0:Bool) (b01:(Sq Int)) (b02:BA) (b03:Bool) (b04:BA) (b05:(Sq BA)) (b06:BA) (b07:Bool) (b08:BA) (r1:(Sq BA)):Option U0:=Dj n b0 b01 b02 b03 b04 b05 b06 b07 b08 r1 some
theorem mE (n:Nat) {S:Type}:∀ b0 b01 b02 b03 b04 b05 b06 b07 b08 r1 (φ:_→Option S),(Qb n b0 b01 b02 b03 b04 b05 b06 b07 b08 r1).bind φ=Dj n b0 b01 b02 b03 b04 b05 b06 b07 b08 r1 φ:=by
 intros;unfold Qb Dj;first | (simp only [fa,ba,iB,bB,oL,oX,nB,Option.bind_some]) | rfl
def Ql (n:Nat):Hint OutS:={ live:=fun c=>[],run:=fun c=>none,xm:=fun c q=>none,nb:=[(71,1,.frz (.int .i64)),(71,5,.prm 9),(71,8,.prm 9)] }
theorem Vx (n:Nat):ua tys (da OutS (Ti n)).keep (Ql n) n (aa Tryz.f93) 0:=ma (fun _=>rfl) _ _ (by kernel_rfl)
theorem vz (n:Nat):Enters Tryz.prog 93:=enters_of (c:=aa Tryz.f93) Tryz.func93 (by kernel_rfl) (by kernel_rfl)
def Jo:List RSp:=[.one (.ptr 0 0 0)]
def Io:List RS:=[.box 71 10 false [.dat .bool,.dat (.sl (.int .i64)),.dat .str,.dat .bool,.dat .str,.dat (.sl .str),.dat .str,.dat .bool,.row 1,.dat .str],.row 9 1 .str true true]
def wz:List Sl:=[.ptr 0 0 0]
def xz:List RSp:=[]
def We:List RS:=[.box 71 10 false [.dat .bool,.dat (.sl (.int .i64)),.dat .str,.dat .bool,.dat .str,.row 1,.dat .str,.dat .bool,.row 2,.dat .str],.row 9 1 .str true true,.row 9 1 .str true true]
def Ej (y:U0):OutS:=⟨false,Kl (Yb We ((y.1,(y.2.1,(y.2.2.1,(y.2.2.2.1,(y.2.2.2.2.1,(y.2.2.2.2.2.1,(y.2.2.2.2.2.2.1,(y.2.2.2.2.2.2.2.1,())))))))),(y.2.2.2.2.2.2.2.2.1,(y.2.2.2.2.2.2.2.2.2.1,())))) wz (),Xu (Us (Yb We ((y.1,(y.2.1,(y.2.2.1,(y.2.2.2.1,(y.2.2.2.2.1,(y.2.2.2.2.2.1,(y.2.2.2.2.2.2.1,(y.2.2.2.2.2.2.2.1,())))))))),(y.2.2.2.2.2.2.2.2.1,(y.2.2.2.2.2.2.2.2.2.1,())))) xz ()),ao (Yb We ((y.1,(y.2.1,(y.2.2.1,(y.2.2.2.1,(y.2.2.2.2.1,(y.2.2.2.2.2.1,(y.2.2.2.2.2.2.1,(y.2.2.2.2.2.2.2.1,())))))))),(y.2.2.2.2.2.2.2.2.1,(y.2.2.2.2.2.2.2.2.2.1,())))) We ((y.1,(y.2.1,(y.2.2.1,(y.2.2.2.1,(y.2.2.2.2.1,(y.2.2.2.2.2.1,(y.2.2.2.2.2.2.1,(y.2.2.2.2.2.2.2.1,())))))))),(y.2.2.2.2.2.2.2.2.1,(y.2.2.2.2.2.2.2.2.2.1,())))⟩
theorem iC (n:Nat):EntryOk Tryz.prog gl ⟨93,Re,none,some (csT Jo Io (fun σ ρ=>Qb n ρ.1.1 ρ.1.2.1 ρ.1.2.2.1 ρ.1.2.2.2.1 ρ.1.2.2.2.2.1 ρ.1.2.2.2.2.2.1 ρ.1.2.2.2.2.2.2.1 ρ.1.2.2.2.2.2.2.2.1 ρ.1.2.2.2.2.2.2.2.2.1 ρ.2.1) Ej)⟩:=
 Lc (vz n) fun σ ρ y h=>Xa tys_ok (Tk n) mixed (hint:=Ql n) (n:=n) Tryz.func93 (Na (Vx n)) (la (φ:=fun y=>some (Ej y)) (by kernel_rfl) (mE n ρ.1.1 ρ.1.2.1 ρ.1.2.2.1 ρ.1.2.2.2.1 ρ.1.2.2.2.2.1 ρ.1.2.2.2.2.2.1 ρ.1.2.2.2.2.2.2.1 ρ.1.2.2.2.2.2.2.2.1 ρ.1.2.2.2.2.2.2.2.2.1 ρ.2.1 _) h)
def Id (n:Nat):List Entry:=⟨93,Re,none,some (csT Jo Io (fun σ ρ=>Qb n ρ.1.1 ρ.1.2.1 ρ.1.2.2.1 ρ.1.2.2.2.1 ρ.1.2.2.2.2.1 ρ.1.2.2.2.2.2.1 ρ.1.2.2.2.2.2.2.1 ρ.1.2.2.2.2.2.2.2.1 ρ.1.2.2.2.2.2.2.2.2.1 ρ.2.1) Ej)⟩::Ti n
theorem Hk (n:Nat):AllOk Tryz.prog gl (Id n):=.cons (iC n) (Tk n)
def Ka (n:Nat) {R:Type} (ok:Bool) (t17:(Sq BA)) (t18 t19:Int) (p:Bool) (p1:(Sq Int)) (p2:BA) (p3:Bool) (p4:BA) (p5:(Sq BA)) (p6:BA) (p7:Bool) (p8:BA) (r11:(Sq BA)) (kn:Bool→(Sq BA)→Int→Int→Bool→(Sq Int)→BA→Bool→BA→(Sq BA)→BA→Bool→BA→(Sq BA)→Option R) (ko:U15→Option R) (kr:Unit→Option R) (kp:Int→Option R):Option R:=
 if (decide (t19<t18))=true then
 if 0≤t19∧t19<(t17.n:Int) then
  if ok=false then
  if p=true then
   (pb n p p1 p2 p3 p4 p5 p6 p7 p8 r11).bind fun v1=>
   if v1.1=true then
   (Cb n (t17.at' (Int.toNat t19)) v1.2.1 v1.2.2.1 v1.2.2.2.1 v1.2.2.2.2.1 v1.2.2.2.2.2.1 v1.2.2.2.2.2.2.1 v1.2.2.2.2.2.2.2.1 v1.2.2.2.2.2.2.2.2.1 v1.2.2.2.2.2.2.2.2.2.1 v1.2.2.2.2.2.2.2.2.2.2.1).bind fun v2=>
   kn ok t17 t18 (IntKind.wrap .i64 (t19+(1:Int))) v2.1 v2.2.1 v2.2.2.1 v2.2.2.2.1 v2.2.2.2.2.1 v2.2.2.2.2.2.1 v2.2.2.2.2.2.2.1 v2.2.2.2.2.2.2.2.1 v2.2.2.2.2.2.2.2.2.1 v2.2.2.2.2.2.2.2.2.2.1
   else
   kn ok t17 t18 (IntKind.wrap .i64 (t19+(1:Int))) v1.2.1 v1.2.2.1 v1.2.2.2.1 v1.2.2.2.2.1 v1.2.2.2.2.2.1 v1.2.2.2.2.2.2.1 v1.2.2.2.2.2.2.2.1 v1.2.2.2.2.2.2.2.2.1 v1.2.2.2.2.2.2.2.2.2.1 v1.2.2.2.2.2.2.2.2.2.2.1
  else
   kn ok t17 t18 (IntKind.wrap .i64 (t19+(1:Int))) p p1 p2 p3 p4 p5 p6 p7 p8 r11
  else
  (Cb n (t17.at' (Int.toNat t19)) p p1 p2 p3 p4 p5 p6 p7 p8 r11).bind fun v3=>
  kn ok t17 t18 (IntKind.wrap .i64 (t19+(1:Int))) v3.1 v3.2.1 v3.2.2.1 v3.2.2.2.1 v3.2.2.2.2.1 v3.2.2.2.2.2.1 v3.2.2.2.2.2.2.1 v3.2.2.2.2.2.2.2.1 v3.2.2.2.2.2.2.2.2.1 v3.2.2.2.2.2.2.2.2.2.1
 else
  none
 else
 ko (p,p1,p2,p3,p4,p5,p6,p7,p8,r11)
def wa (n:Nat):Nat→Bool→(Sq BA)→Int→Int→Bool→(Sq Int)→BA→Bool→BA→(Sq BA)→BA→Bool→BA→(Sq BA)→Option (Lx U15 Unit)
 | 0,_,_,_,_,_,_,_,_,_,_,_,_,_,_=>none
 | m+1,ok,t17,t18,t19,p,p1,p2,p3,p4,p5,p6,p7,p8,r11=>Ka n ok t17 t18 t19 p p1 p2 p3 p4 p5 p6 p7 p8 r11 (wa n m) (fun a=>some (.out a)) (fun a=>some (.ret a)) (fun p=>some (.pan p))
theorem gy (n m:Nat) {S:Type}:∀ ok t17 t18 t19 p p1 p2 p3 p4 p5 p6 p7 p8 r11 (φ:_→Option S),(wa n (m+1) ok t17 t18 t19 p p1 p2 p3 p4 p5 p6 p7 p8 r11).bind φ=Ka n ok t17 t18 t19 p p1 p2 p3 p4 p5 p6 p7 p8 r11 (fun ok t17 t18 t19 p p1 p2 p3 p4 p5 p6 p7 p8 r11=>(wa n m ok t17 t18 t19 p p1 p2 p3 p4 p5 p6 p7 p8 r11).bind φ) (fun a=>φ (.out a)) (fun a=>φ (.ret a)) (fun p=>φ (.pan p)):=by
 intros;first | (simp only [wa,Ka,fa,ba,iB,bB,oL,oX,nB,Option.bind_some]) | rfl
def og:List Sl:=.ptr 0 0 0::.top::.dat .bool::tp 14 (.dat (.sl .str)::.dat (.int .i64)::.dat (.int .i64)::tp 20 [])
def ng:List RS:=[.box 71 10 false [.dat .bool,.dat (.sl (.int .i64)),.dat .str,.dat .bool,.dat .str,.dat (.sl .str),.dat .str,.dat .bool,.row 1,.dat .str],.row 9 1 .str true true,.ghost [.ptr 0 0 0]]
def Yq:List Sl:=.ptr 0 0 0::tp 39 []
def Xq:List RS:=[.box 71 10 false [.dat .bool,.dat (.sl (.int .i64)),.dat .str,.dat .bool,.dat .str,.dat (.sl .str),.dat .str,.dat .bool,.row 1,.dat .str],.row 9 1 .str true true,.ghost [.ptr 0 0 0]]
def Gb (K:XE→List AV→ia→Option OutS):Lx U15 Unit→Option OutS:=fun x=>onL x (fun a=>Bk Yq Xq () ((a.1,(a.2.1,(a.2.2.1,(a.2.2.2.1,(a.2.2.2.2.1,(a.2.2.2.2.2.1,(a.2.2.2.2.2.2.1,(a.2.2.2.2.2.2.2.1,(a.2.2.2.2.2.2.2.2.1,()))))))))),(a.2.2.2.2.2.2.2.2.2,((),()))) (K (.exit 0))) (fun _=>none) (fun _=>none)
def Rc (n:Nat) {R:Type} (b0:Bool) (b01:(Sq Int)) (b02:BA) (b03:Bool) (b04 b05:BA) (b06:Bool) (b07:BA) (r1 r2:(Sq BA)) (k:U0→Option R):Option R:=
 if (!b0)=true then
 (pb n b0 b01 b02 b03 b04 r1 b05 b06 b07 r2).bind fun v=>
 (wa n n v.1 v.2.2.2.2.2.2.1 (v.2.2.2.2.2.2.1.n:Int) (0:Int) v.2.1 v.2.2.1 v.2.2.2.1 v.2.2.2.2.1 v.2.2.2.2.2.1 v.2.2.2.2.2.2.1 v.2.2.2.2.2.2.2.1 v.2.2.2.2.2.2.2.2.1 v.2.2.2.2.2.2.2.2.2.1 v.2.2.2.2.2.2.2.2.2.2.1).bind fun x_1=>onL x_1
  (fun a_2=>
  (Qb n a_2.1 a_2.2.1 a_2.2.2.1 a_2.2.2.2.1 a_2.2.2.2.2.1 a_2.2.2.2.2.2.1 a_2.2.2.2.2.2.2.1 a_2.2.2.2.2.2.2.2.1 a_2.2.2.2.2.2.2.2.2.1 a_2.2.2.2.2.2.2.2.2.2).bind fun v4=>
  k (v4.1,(v4.2.1,(v4.2.2.1,(v4.2.2.2.1,(v4.2.2.2.2.1,(v4.2.2.2.2.2.1,(v4.2.2.2.2.2.2.1,(v4.2.2.2.2.2.2.2.1,(v4.2.2.2.2.2.2.2.2.1,(v4.2.2.2.2.2.2.2.2.2.1,())))))))))))
  (fun _=>none)
  (fun _=>none)
 else
 (wa n n false r1 (r1.n:Int) (0:Int) b0 b01 b02 b03 b04 r1 b05 b06 b07 r2).bind fun x_3=>onL x_3
  (fun a_4=>
  (Qb n a_4.1 a_4.2.1 a_4.2.2.1 a_4.2.2.2.1 a_4.2.2.2.2.1 a_4.2.2.2.2.2.1 a_4.2.2.2.2.2.2.1 a_4.2.2.2.2.2.2.2.1 a_4.2.2.2.2.2.2.2.2.1 a_4.2.2.2.2.2.2.2.2.2).bind fun v5=>
  k (v5.1,(v5.2.1,(v5.2.2.1,(v5.2.2.2.1,(v5.2.2.2.2.1,(v5.2.2.2.2.2.1,(v5.2.2.2.2.2.2.1,(v5.2.2.2.2.2.2.2.1,(v5.2.2.2.2.2.2.2.2.1,(v5.2.2.2.2.2.2.2.2.2.1,())))))))))))
  (fun _=>none)
  (fun _=>none)
def Rb (n:Nat) (b0:Bool) (b01:(Sq Int)) (b02:BA) (b03:Bool) (b04 b05:BA) (b06:Bool) (b07:BA) (r1 r2:(Sq BA)):Option U0:=Rc n b0 b01 b02 b03 b04 b05 b06 b07 r1 r2 some
theorem pE (n:Nat) {S:Type}:∀ b0 b01 b02 b03 b04 b05 b06 b07 r1 r2 (φ:_→Option S),(Rb n b0 b01 b02 b03 b04 b05 b06 b07 r1 r2).bind φ=Rc n b0 b01 b02 b03 b04 b05 b06 b07 r1 r2 φ:=by
 intros;unfold Rb Rc;first | (simp only [fa,ba,iB,bB,oL,oX,nB,Option.bind_some]) | rfl
def Ae (n:Nat):Hint OutS:={ live:=fun c=>(cond (Nat.beq c 0) [(0,none),(2,none),(17,some (.sl .str)),(18,none),(19,none)] []),run:=fun c=>(cond (Nat.beq c 0) (some (Ms og ng fun σ ρ K=>(wa n n σ.1 σ.2.1 σ.2.2.1 σ.2.2.2.1 ρ.1.1 ρ.1.2.1 ρ.1.2.2.1 ρ.1.2.2.2.1 ρ.1.2.2.2.2.1 ρ.1.2.2.2.2.2.1 ρ.1.2.2.2.2.2.2.1 ρ.1.2.2.2.2.2.2.2.1 ρ.1.2.2.2.2.2.2.2.2.1 ρ.2.1).bind (Gb K))) none),xm:=fun c q=>(cond (Nat.beq c 0&&Nat.beq (q.getD 1000000) 0&&q.isSome) (some [(0,none)]) none),ne:=[(71,5,.frz .str)],nb:=[(71,1,.frz (.int .i64)),(71,5,.prm 9),(71,8,.prm 9)] }
def ze (n:Nat) (K:XE→List AV→ia→Option OutS) (m:Nat) (ok:Bool) (t17:(Sq BA)) (t18:Int) (t19:Int) (p:Bool) (p1:(Sq Int)) (p2:BA) (p3:Bool) (p4:BA) (p5:(Sq BA)) (p6:BA) (p7:Bool) (p8:BA) (r11:(Sq BA)):Option OutS:=Ef tys (da OutS (Id n)).keep (Ae n) n (Fa [1,0,1,0,0] (aa Tryz.f57)) 0 og ng K m (ok,(t17,(t18,(t19,())))) ((p,(p1,(p2,(p3,(p4,(p5,(p6,(p7,(p8,()))))))))),(r11,((),())))
theorem Ul (n:Nat) (K:XE→List AV→ia→Option OutS):∀ (m:Nat) ok t17 t18 t19 p p1 p2 p3 p4 p5 p6 p7 p8 r11,ze n K m ok t17 t18 t19 p p1 p2 p3 p4 p5 p6 p7 p8 r11=(wa n m ok t17 t18 t19 p p1 p2 p3 p4 p5 p6 p7 p8 r11).bind (Gb K)
 | 0,_,_,_,_,_,_,_,_,_,_,_,_,_,_=>by kernel_rfl
 | m+1,ok,t17,t18,t19,p,p1,p2,p3,p4,p5,p6,p7,p8,r11=>by
  have h1:ze n K (m+1) ok t17 t18 t19 p p1 p2 p3 p4 p5 p6 p7 p8 r11=Ka n ok t17 t18 t19 p p1 p2 p3 p4 p5 p6 p7 p8 r11 (ze n K m) (fun a=>Gb K (.out a)) (fun a=>Gb K (.ret a)) (fun p=>Gb K (.pan p)):=by kernel_rfl
  have h2:ze n K m=fun ok t17 t18 t19 p p1 p2 p3 p4 p5 p6 p7 p8 r11=>(wa n m ok t17 t18 t19 p p1 p2 p3 p4 p5 p6 p7 p8 r11).bind (Gb K):=by
   repeat (refine funext fun _=>?_)
   exact Ul n K m _ _ _ _ _ _ _ _ _ _ _ _ _ _
  rw [h1,h2];exact (gy n m _ _ _ _ _ _ _ _ _ _ _ _ _ _ (Gb K)).symm
theorem Gw (n:Nat):Pe tys (da OutS (Id n)).keep (Ae n) n (Fa [1,0,1,0,0] (aa Tryz.f57)) 0:=Qa (sp:=og) (rp:=ng) (by kernel_rfl) fun K σ ρ=>Ul n K n σ.1 σ.2.1 σ.2.2.1 σ.2.2.2.1 ρ.1.1 ρ.1.2.1 ρ.1.2.2.1 ρ.1.2.2.2.1 ρ.1.2.2.2.2.1 ρ.1.2.2.2.2.2.1 ρ.1.2.2.2.2.2.2.1 ρ.1.2.2.2.2.2.2.2.1 ρ.1.2.2.2.2.2.2.2.2.1 ρ.2.1
theorem iy (n:Nat):ua tys (da OutS (Id n)).keep (Ae n) n (aa Tryz.f57) 0:=⟨trivial,⟨⟨trivial,⟨Gw n,⟨trivial,⟨⟨trivial,trivial⟩,⟨⟨trivial,⟨trivial,⟨trivial,trivial⟩⟩⟩,trivial⟩⟩⟩⟩⟩,trivial⟩⟩
theorem Iz (n:Nat):Enters Tryz.prog 57:=enters_of (c:=aa Tryz.f57) Tryz.func57 (by kernel_rfl) (by kernel_rfl)
def Po:List RSp:=[.one (.ptr 0 0 0)]
def Oo:List RS:=[.box 71 10 false [.dat .bool,.dat (.sl (.int .i64)),.dat .str,.dat .bool,.dat .str,.row 1,.dat .str,.dat .bool,.row 2,.dat .str],.row 9 1 .str true true,.row 9 1 .str true true]
def Jz:List Sl:=[.ptr 0 0 0]
def Kz:List RSp:=[]
def Ze:List RS:=[.box 71 10 false [.dat .bool,.dat (.sl (.int .i64)),.dat .str,.dat .bool,.dat .str,.row 1,.dat .str,.dat .bool,.row 2,.dat .str],.row 9 1 .str true true,.row 9 1 .str true true]
def Ij (y:U0):OutS:=⟨false,Kl (Yb Ze ((y.1,(y.2.1,(y.2.2.1,(y.2.2.2.1,(y.2.2.2.2.1,(y.2.2.2.2.2.1,(y.2.2.2.2.2.2.1,(y.2.2.2.2.2.2.2.1,())))))))),(y.2.2.2.2.2.2.2.2.1,(y.2.2.2.2.2.2.2.2.2.1,())))) Jz (),Xu (Us (Yb Ze ((y.1,(y.2.1,(y.2.2.1,(y.2.2.2.1,(y.2.2.2.2.1,(y.2.2.2.2.2.1,(y.2.2.2.2.2.2.1,(y.2.2.2.2.2.2.2.1,())))))))),(y.2.2.2.2.2.2.2.2.1,(y.2.2.2.2.2.2.2.2.2.1,())))) Kz ()),ao (Yb Ze ((y.1,(y.2.1,(y.2.2.1,(y.2.2.2.1,(y.2.2.2.2.1,(y.2.2.2.2.2.1,(y.2.2.2.2.2.2.1,(y.2.2.2.2.2.2.2.1,())))))))),(y.2.2.2.2.2.2.2.2.1,(y.2.2.2.2.2.2.2.2.2.1,())))) Ze ((y.1,(y.2.1,(y.2.2.1,(y.2.2.2.1,(y.2.2.2.2.1,(y.2.2.2.2.2.1,(y.2.2.2.2.2.2.1,(y.2.2.2.2.2.2.2.1,())))))))),(y.2.2.2.2.2.2.2.2.1,(y.2.2.2.2.2.2.2.2.2.1,())))⟩
theorem nC (n:Nat):EntryOk Tryz.prog gl ⟨57,Re,none,some (csT Po Oo (fun σ ρ=>Rb n ρ.1.1 ρ.1.2.1 ρ.1.2.2.1 ρ.1.2.2.2.1 ρ.1.2.2.2.2.1 ρ.1.2.2.2.2.2.1 ρ.1.2.2.2.2.2.2.1 ρ.1.2.2.2.2.2.2.2.1 ρ.2.1 ρ.2.2.1) Ij)⟩:=
 Lc (Iz n) fun σ ρ y h=>Xa tys_ok (Hk n) mixed (hint:=Ae n) (n:=n) Tryz.func57 (Na (iy n)) (la (φ:=fun y=>some (Ij y)) (by kernel_rfl) (pE n ρ.1.1 ρ.1.2.1 ρ.1.2.2.1 ρ.1.2.2.2.1 ρ.1.2.2.2.2.1 ρ.1.2.2.2.2.2.1 ρ.1.2.2.2.2.2.2.1 ρ.1.2.2.2.2.2.2.2.1 ρ.2.1 ρ.2.2.1 _) h)
def Ni (n:Nat):List Entry:=⟨57,Re,none,some (csT Po Oo (fun σ ρ=>Rb n ρ.1.1 ρ.1.2.1 ρ.1.2.2.1 ρ.1.2.2.2.1 ρ.1.2.2.2.2.1 ρ.1.2.2.2.2.2.1 ρ.1.2.2.2.2.2.2.1 ρ.1.2.2.2.2.2.2.2.1 ρ.2.1 ρ.2.2.1) Ij)⟩::Id n
theorem Nk (n:Nat):AllOk Tryz.prog gl (Ni n):=.cons (nC n) (Hk n)
def mj (n:Nat) {R:Type} (s prefix0:BA) (k:Bool→Option R):Option R:=
 (Vf n s prefix0).bind fun v=>
 k v
def Pa (n:Nat) (s prefix0:BA):Option Bool:=mj n s prefix0 some
theorem wO (n:Nat) {S:Type}:∀ s prefix0 (φ:_→Option S),(Pa n s prefix0).bind φ=mj n s prefix0 φ:=by
 intros;unfold Pa mj;first | (simp only [fa,ba,iB,bB,oL,oX,nB,Option.bind_some]) | rfl
def Wv (n:Nat):Hint Out:={ live:=fun c=>[],run:=fun c=>none,xm:=fun c q=>none }
theorem cJ (n:Nat):ua tys (da Out (Ni n)) (Wv n) n (aa Tryz.f58) 0:=ma (fun _=>rfl) _ _ (by kernel_rfl)
theorem IK (n:Nat):Enters Tryz.prog 58:=enters_of (c:=aa Tryz.f58) Tryz.func58 (by kernel_rfl) (by kernel_rfl)
def ZA (n:Nat):Entry:=⟨58,pcT (.pair .str (.pair .str .unit)) (.one .bool) (fun xs=>Pa n xs.1 xs.2.1),none,none⟩
theorem ZM (n:Nat):EntryOk Tryz.prog gl (ZA n):=
 Oa (IK n) fun xs y h=>ra tys_ok (Nk n) mixed (hint:=Wv n) (n:=n) Tryz.func58 (Na (cJ n)) (la (φ:=(fun y=>some (Out.ret (Kf (.one .bool) y)))) (by kernel_rfl) (wO n xs.1 xs.2.1 _) h)
def Xr (n:Nat):List Entry:=ZA n::Ni n
theorem Pt (n:Nat):AllOk Tryz.prog gl (Xr n):=.cons (ZM n) (Nk n)
def Fj (n:Nat) {R:Type} (b0:Bool) (b01:(Sq Int)) (b02:BA) (b03:Bool) (b04 b05:BA) (b06:Bool) (b07:BA) (r1 r2:(Sq BA)) (k:U0→Option R):Option R:=
 k (b0,(b01,(b02,(b03,((⟨#[]⟩:BA),((⟨#[]⟩:BA),(false,(b07,((⟨0,fun _=>Aa .str⟩:Sq BA),(r2,()))))))))))
def Td (n:Nat) (b0:Bool) (b01:(Sq Int)) (b02:BA) (b03:Bool) (b04 b05:BA) (b06:Bool) (b07:BA) (r1 r2:(Sq BA)):Option U0:=Fj n b0 b01 b02 b03 b04 b05 b06 b07 r1 r2 some
theorem nE (n:Nat) {S:Type}:∀ b0 b01 b02 b03 b04 b05 b06 b07 r1 r2 (φ:_→Option S),(Td n b0 b01 b02 b03 b04 b05 b06 b07 r1 r2).bind φ=Fj n b0 b01 b02 b03 b04 b05 b06 b07 r1 r2 φ:=by
 intros;unfold Td Fj;first | (simp only [fa,ba,iB,bB,oL,oX,nB,Option.bind_some]) | rfl
def Rl (n:Nat):Hint OutS:={ live:=fun c=>[],run:=fun c=>none,xm:=fun c q=>none,nb:=[(71,1,.frz (.int .i64)),(71,5,.prm 9),(71,8,.prm 9)] }
theorem Wx (n:Nat):ua tys (da OutS (Xr n)).keep (Rl n) n (aa Tryz.f93) 0:=ma (fun _=>rfl) _ _ (by kernel_rfl)
theorem yz (n:Nat):Enters Tryz.prog 93:=enters_of (c:=aa Tryz.f93) Tryz.func93 (by kernel_rfl) (by kernel_rfl)
def Lo:List RSp:=[.one (.ptr 0 0 0)]
def Ko:List RS:=[.box 71 10 false [.dat .bool,.dat (.sl (.int .i64)),.dat .str,.dat .bool,.dat .str,.row 1,.dat .str,.dat .bool,.row 2,.dat .str],.row 9 1 .str true true,.row 9 1 .str true true]
def Az:List Sl:=[.ptr 0 0 0]
def Bz:List RSp:=[]
def Xe:List RS:=[.box 71 10 false [.dat .bool,.dat (.sl (.int .i64)),.dat .str,.dat .bool,.dat .str,.row 1,.dat .str,.dat .bool,.row 2,.dat .str],.row 9 1 .str true true,.row 9 1 .str true true]
def Gj (y:U0):OutS:=⟨false,Kl (Yb Xe ((y.1,(y.2.1,(y.2.2.1,(y.2.2.2.1,(y.2.2.2.2.1,(y.2.2.2.2.2.1,(y.2.2.2.2.2.2.1,(y.2.2.2.2.2.2.2.1,())))))))),(y.2.2.2.2.2.2.2.2.1,(y.2.2.2.2.2.2.2.2.2.1,())))) Az (),Xu (Us (Yb Xe ((y.1,(y.2.1,(y.2.2.1,(y.2.2.2.1,(y.2.2.2.2.1,(y.2.2.2.2.2.1,(y.2.2.2.2.2.2.1,(y.2.2.2.2.2.2.2.1,())))))))),(y.2.2.2.2.2.2.2.2.1,(y.2.2.2.2.2.2.2.2.2.1,())))) Bz ()),ao (Yb Xe ((y.1,(y.2.1,(y.2.2.1,(y.2.2.2.1,(y.2.2.2.2.1,(y.2.2.2.2.2.1,(y.2.2.2.2.2.2.1,(y.2.2.2.2.2.2.2.1,())))))))),(y.2.2.2.2.2.2.2.2.1,(y.2.2.2.2.2.2.2.2.2.1,())))) Xe ((y.1,(y.2.1,(y.2.2.1,(y.2.2.2.1,(y.2.2.2.2.1,(y.2.2.2.2.2.1,(y.2.2.2.2.2.2.1,(y.2.2.2.2.2.2.2.1,())))))))),(y.2.2.2.2.2.2.2.2.1,(y.2.2.2.2.2.2.2.2.2.1,())))⟩
theorem jC (n:Nat):EntryOk Tryz.prog gl ⟨93,Re,none,some (csT Lo Ko (fun σ ρ=>Td n ρ.1.1 ρ.1.2.1 ρ.1.2.2.1 ρ.1.2.2.2.1 ρ.1.2.2.2.2.1 ρ.1.2.2.2.2.2.1 ρ.1.2.2.2.2.2.2.1 ρ.1.2.2.2.2.2.2.2.1 ρ.2.1 ρ.2.2.1) Gj)⟩:=
 Lc (yz n) fun σ ρ y h=>Xa tys_ok (Pt n) mixed (hint:=Rl n) (n:=n) Tryz.func93 (Na (Wx n)) (la (φ:=fun y=>some (Gj y)) (by kernel_rfl) (nE n ρ.1.1 ρ.1.2.1 ρ.1.2.2.1 ρ.1.2.2.2.1 ρ.1.2.2.2.2.1 ρ.1.2.2.2.2.2.1 ρ.1.2.2.2.2.2.2.1 ρ.1.2.2.2.2.2.2.2.1 ρ.2.1 ρ.2.2.1 _) h)
def Ii (n:Nat):List Entry:=⟨93,Re,none,some (csT Lo Ko (fun σ ρ=>Td n ρ.1.1 ρ.1.2.1 ρ.1.2.2.1 ρ.1.2.2.2.1 ρ.1.2.2.2.2.1 ρ.1.2.2.2.2.2.1 ρ.1.2.2.2.2.2.2.1 ρ.1.2.2.2.2.2.2.2.1 ρ.2.1 ρ.2.2.1) Gj)⟩::Xr n
theorem Ik (n:Nat):AllOk Tryz.prog gl (Ii n):=.cons (jC n) (Pt n)
def Hf (n:Nat) {R:Type} (b0:Bool) (b01:(Sq Int)) (b02:BA) (b03:Bool) (b04 b05:BA) (b06:Bool) (b07:BA) (r1 r2:(Sq BA)) (k:U13→Option R):Option R:=
 if (decide ((b01.n:Int)>(0:Int)))=true then
 if 0≤(0:Int)∧(0:Int)<(b01.n:Int) then
  if (decide ((b01.at' (Int.toNat (0:Int)))≥(400:Int)))=true then
  if (decide ((b01.at' (Int.toNat (0:Int)))≤(599:Int)))=true then
   if 0≤(1:Int)∧(1:Int)≤(b01.n:Int) then
   (ta n (b01.at' (Int.toNat (0:Int))) b0 (⟨((Int.toNat (b01.n:Int)) - (Int.toNat (1:Int))),fun i=>b01.at' ((Int.toNat (1:Int))+i)⟩:Sq Int) b02 b03 b04 b05 b06 b07 r1 r2).bind fun v=>
   k (((b01.at' (Int.toNat (0:Int)))==(250:Int)),(v.1,(v.2.1,(v.2.2.1,(v.2.2.2.1,(v.2.2.2.2.1,(v.2.2.2.2.2.1,(v.2.2.2.2.2.2.1,(v.2.2.2.2.2.2.2.1,(v.2.2.2.2.2.2.2.2.1,(v.2.2.2.2.2.2.2.2.2.1,())))))))))))
   else
   none
  else
   if 0≤(1:Int)∧(1:Int)≤(b01.n:Int) then
   (ta n (250:Int) b0 (⟨((Int.toNat (b01.n:Int)) - (Int.toNat (1:Int))),fun i=>b01.at' ((Int.toNat (1:Int))+i)⟩:Sq Int) b02 b03 b04 b05 b06 b07 r1 r2).bind fun v1=>
   k (((250:Int)==(250:Int)),(v1.1,(v1.2.1,(v1.2.2.1,(v1.2.2.2.1,(v1.2.2.2.2.1,(v1.2.2.2.2.2.1,(v1.2.2.2.2.2.2.1,(v1.2.2.2.2.2.2.2.1,(v1.2.2.2.2.2.2.2.2.1,(v1.2.2.2.2.2.2.2.2.2.1,())))))))))))
   else
   none
  else
  if 0≤(1:Int)∧(1:Int)≤(b01.n:Int) then
   (ta n (250:Int) b0 (⟨((Int.toNat (b01.n:Int)) - (Int.toNat (1:Int))),fun i=>b01.at' ((Int.toNat (1:Int))+i)⟩:Sq Int) b02 b03 b04 b05 b06 b07 r1 r2).bind fun v2=>
   k (((250:Int)==(250:Int)),(v2.1,(v2.2.1,(v2.2.2.1,(v2.2.2.2.1,(v2.2.2.2.2.1,(v2.2.2.2.2.2.1,(v2.2.2.2.2.2.2.1,(v2.2.2.2.2.2.2.2.1,(v2.2.2.2.2.2.2.2.2.1,(v2.2.2.2.2.2.2.2.2.2.1,())))))))))))
  else
   none
 else
  none
 else
 (ta n (250:Int) b0 b01 b02 b03 b04 b05 b06 b07 r1 r2).bind fun v3=>
 k (((250:Int)==(250:Int)),(v3.1,(v3.2.1,(v3.2.2.1,(v3.2.2.2.1,(v3.2.2.2.2.1,(v3.2.2.2.2.2.1,(v3.2.2.2.2.2.2.1,(v3.2.2.2.2.2.2.2.1,(v3.2.2.2.2.2.2.2.2.1,(v3.2.2.2.2.2.2.2.2.2.1,())))))))))))
def Jb (n:Nat) (b0:Bool) (b01:(Sq Int)) (b02:BA) (b03:Bool) (b04 b05:BA) (b06:Bool) (b07:BA) (r1 r2:(Sq BA)):Option U13:=Hf n b0 b01 b02 b03 b04 b05 b06 b07 r1 r2 some
theorem lC (n:Nat) {S:Type}:∀ b0 b01 b02 b03 b04 b05 b06 b07 r1 r2 (φ:_→Option S),(Jb n b0 b01 b02 b03 b04 b05 b06 b07 r1 r2).bind φ=Hf n b0 b01 b02 b03 b04 b05 b06 b07 r1 r2 φ:=by
 intros;unfold Jb Hf;first | (simp only [fa,ba,iB,bB,oL,oX,nB,Option.bind_some]) | rfl
def Kk (n:Nat):Hint OutS:={ live:=fun c=>[],run:=fun c=>none,xm:=fun c q=>none,nb:=[(71,1,.frz (.int .i64)),(71,5,.prm 9),(71,8,.prm 9)] }
theorem Ew (n:Nat):ua tys (da OutS (Ii n)).keep (Kk n) n (aa Tryz.f91) 0:=ma (fun _=>rfl) _ _ (by kernel_rfl)
theorem cy (n:Nat):Enters Tryz.prog 91:=enters_of (c:=aa Tryz.f91) Tryz.func91 (by kernel_rfl) (by kernel_rfl)
def Gn:List RSp:=[.one (.ptr 0 0 0)]
def Fn:List RS:=[.box 71 10 false [.dat .bool,.dat (.sl (.int .i64)),.dat .str,.dat .bool,.dat .str,.row 1,.dat .str,.dat .bool,.row 2,.dat .str],.row 9 1 .str true true,.row 9 1 .str true true]
def dy:List Sl:=[.ptr 0 0 0]
def ey:List RSp:=[.one (.dat .bool)]
def xe:List RS:=[.box 71 10 false [.dat .bool,.dat (.sl (.int .i64)),.dat .str,.dat .bool,.dat .str,.row 1,.dat .str,.dat .bool,.row 2,.dat .str],.row 9 1 .str true true,.row 9 1 .str true true]
def Ki (y:U13):OutS:=⟨false,Kl (Yb xe ((y.2.1,(y.2.2.1,(y.2.2.2.1,(y.2.2.2.2.1,(y.2.2.2.2.2.1,(y.2.2.2.2.2.2.1,(y.2.2.2.2.2.2.2.1,(y.2.2.2.2.2.2.2.2.1,())))))))),(y.2.2.2.2.2.2.2.2.2.1,(y.2.2.2.2.2.2.2.2.2.2.1,())))) dy (),Xu (Us (Yb xe ((y.2.1,(y.2.2.1,(y.2.2.2.1,(y.2.2.2.2.1,(y.2.2.2.2.2.1,(y.2.2.2.2.2.2.1,(y.2.2.2.2.2.2.2.1,(y.2.2.2.2.2.2.2.2.1,())))))))),(y.2.2.2.2.2.2.2.2.2.1,(y.2.2.2.2.2.2.2.2.2.2.1,())))) ey ((y.1,()),())),ao (Yb xe ((y.2.1,(y.2.2.1,(y.2.2.2.1,(y.2.2.2.2.1,(y.2.2.2.2.2.1,(y.2.2.2.2.2.2.1,(y.2.2.2.2.2.2.2.1,(y.2.2.2.2.2.2.2.2.1,())))))))),(y.2.2.2.2.2.2.2.2.2.1,(y.2.2.2.2.2.2.2.2.2.2.1,())))) xe ((y.2.1,(y.2.2.1,(y.2.2.2.1,(y.2.2.2.2.1,(y.2.2.2.2.2.1,(y.2.2.2.2.2.2.1,(y.2.2.2.2.2.2.2.1,(y.2.2.2.2.2.2.2.2.1,())))))))),(y.2.2.2.2.2.2.2.2.2.1,(y.2.2.2.2.2.2.2.2.2.2.1,())))⟩
theorem Dz (n:Nat):EntryOk Tryz.prog gl ⟨91,Re,none,some (csT Gn Fn (fun σ ρ=>Jb n ρ.1.1 ρ.1.2.1 ρ.1.2.2.1 ρ.1.2.2.2.1 ρ.1.2.2.2.2.1 ρ.1.2.2.2.2.2.1 ρ.1.2.2.2.2.2.2.1 ρ.1.2.2.2.2.2.2.2.1 ρ.2.1 ρ.2.2.1) Ki)⟩:=
 Lc (cy n) fun σ ρ y h=>Xa tys_ok (Ik n) mixed (hint:=Kk n) (n:=n) Tryz.func91 (Na (Ew n)) (la (φ:=fun y=>some (Ki y)) (by kernel_rfl) (lC n ρ.1.1 ρ.1.2.1 ρ.1.2.2.1 ρ.1.2.2.2.1 ρ.1.2.2.2.2.1 ρ.1.2.2.2.2.2.1 ρ.1.2.2.2.2.2.2.1 ρ.1.2.2.2.2.2.2.2.1 ρ.2.1 ρ.2.2.1 _) h)
def Hh (n:Nat):List Entry:=⟨91,Re,none,some (csT Gn Fn (fun σ ρ=>Jb n ρ.1.1 ρ.1.2.1 ρ.1.2.2.1 ρ.1.2.2.2.1 ρ.1.2.2.2.2.1 ρ.1.2.2.2.2.2.1 ρ.1.2.2.2.2.2.2.1 ρ.1.2.2.2.2.2.2.2.1 ρ.2.1 ρ.2.2.1) Ki)⟩::Ii n
theorem ik (n:Nat):AllOk Tryz.prog gl (Hh n):=.cons (Dz n) (Ik n)
def pg (n:Nat) {R:Type} (path:BA) (b0:Bool) (b01:(Sq Int)) (b02:BA) (b03:Bool) (b04 b05:BA) (b06:Bool) (b07:BA) (r1 r2:(Sq BA)) (k:U0→Option R):Option R:=
 (Td n b0 b01 b02 b03 b04 b05 b06 b07 r1 r2).bind fun v=>
 (Jb n v.1 v.2.1 v.2.2.1 v.2.2.2.1 path v.2.2.2.2.2.1 v.2.2.2.2.2.2.1 v.2.2.2.2.2.2.2.1 v.2.2.2.2.2.2.2.2.1 v.2.2.2.2.2.2.2.2.2.1).bind fun v1=>
 k (v1.2.1,(v1.2.2.1,(v1.2.2.2.1,(v1.2.2.2.2.1,(v1.2.2.2.2.2.1,(v1.2.2.2.2.2.2.1,(v1.2.2.2.2.2.2.2.1,(v1.2.2.2.2.2.2.2.2.1,(v1.2.2.2.2.2.2.2.2.2.1,(v1.2.2.2.2.2.2.2.2.2.2.1,()))))))))))
def Sc (n:Nat) (path:BA) (b0:Bool) (b01:(Sq Int)) (b02:BA) (b03:Bool) (b04 b05:BA) (b06:Bool) (b07:BA) (r1 r2:(Sq BA)):Option U0:=pg n path b0 b01 b02 b03 b04 b05 b06 b07 r1 r2 some
theorem rE (n:Nat) {S:Type}:∀ path b0 b01 b02 b03 b04 b05 b06 b07 r1 r2 (φ:_→Option S),(Sc n path b0 b01 b02 b03 b04 b05 b06 b07 r1 r2).bind φ=pg n path b0 b01 b02 b03 b04 b05 b06 b07 r1 r2 φ:=by
 intros;unfold Sc pg;first | (simp only [fa,ba,iB,bB,oL,oX,nB,Option.bind_some]) | rfl
def Wl (n:Nat):Hint OutS:={ live:=fun c=>[],run:=fun c=>none,xm:=fun c q=>none,nb:=[(71,1,.frz (.int .i64)),(71,5,.prm 9),(71,8,.prm 9)] }
theorem ky (n:Nat):ua tys (da OutS (Hh n)).keep (Wl n) n (aa Tryz.f60) 0:=ma (fun _=>rfl) _ _ (by kernel_rfl)
theorem Pz (n:Nat):Enters Tryz.prog 60:=enters_of (c:=aa Tryz.f60) Tryz.func60 (by kernel_rfl) (by kernel_rfl)
def Uo:List RSp:=[.one (.ptr 0 0 0),.one (.dat .str)]
def So:List RS:=[.box 71 10 false [.dat .bool,.dat (.sl (.int .i64)),.dat .str,.dat .bool,.dat .str,.row 1,.dat .str,.dat .bool,.row 2,.dat .str],.row 9 1 .str true true,.row 9 1 .str true true]
def Qz:List Sl:=[.ptr 0 0 0,.top]
def Rz:List RSp:=[]
def bf:List RS:=[.box 71 10 false [.dat .bool,.dat (.sl (.int .i64)),.dat .str,.dat .bool,.dat .str,.row 1,.dat .str,.dat .bool,.row 2,.dat .str],.row 9 1 .str true true,.row 9 1 .str true true]
def Kj (y:U0):OutS:=⟨false,Kl (Yb bf ((y.1,(y.2.1,(y.2.2.1,(y.2.2.2.1,(y.2.2.2.2.1,(y.2.2.2.2.2.1,(y.2.2.2.2.2.2.1,(y.2.2.2.2.2.2.2.1,())))))))),(y.2.2.2.2.2.2.2.2.1,(y.2.2.2.2.2.2.2.2.2.1,())))) Qz (),Xu (Us (Yb bf ((y.1,(y.2.1,(y.2.2.1,(y.2.2.2.1,(y.2.2.2.2.1,(y.2.2.2.2.2.1,(y.2.2.2.2.2.2.1,(y.2.2.2.2.2.2.2.1,())))))))),(y.2.2.2.2.2.2.2.2.1,(y.2.2.2.2.2.2.2.2.2.1,())))) Rz ()),ao (Yb bf ((y.1,(y.2.1,(y.2.2.1,(y.2.2.2.1,(y.2.2.2.2.1,(y.2.2.2.2.2.1,(y.2.2.2.2.2.2.1,(y.2.2.2.2.2.2.2.1,())))))))),(y.2.2.2.2.2.2.2.2.1,(y.2.2.2.2.2.2.2.2.2.1,())))) bf ((y.1,(y.2.1,(y.2.2.1,(y.2.2.2.1,(y.2.2.2.2.1,(y.2.2.2.2.2.1,(y.2.2.2.2.2.2.1,(y.2.2.2.2.2.2.2.1,())))))))),(y.2.2.2.2.2.2.2.2.1,(y.2.2.2.2.2.2.2.2.2.1,())))⟩
theorem pC (n:Nat):EntryOk Tryz.prog gl ⟨60,Re,none,some (csT Uo So (fun σ ρ=>Sc n σ.2.1.1 ρ.1.1 ρ.1.2.1 ρ.1.2.2.1 ρ.1.2.2.2.1 ρ.1.2.2.2.2.1 ρ.1.2.2.2.2.2.1 ρ.1.2.2.2.2.2.2.1 ρ.1.2.2.2.2.2.2.2.1 ρ.2.1 ρ.2.2.1) Kj)⟩:=
 Lc (Pz n) fun σ ρ y h=>Xa tys_ok (ik n) mixed (hint:=Wl n) (n:=n) Tryz.func60 (Na (ky n)) (la (φ:=fun y=>some (Kj y)) (by kernel_rfl) (rE n σ.2.1.1 ρ.1.1 ρ.1.2.1 ρ.1.2.2.1 ρ.1.2.2.2.1 ρ.1.2.2.2.2.1 ρ.1.2.2.2.2.2.1 ρ.1.2.2.2.2.2.2.1 ρ.1.2.2.2.2.2.2.2.1 ρ.2.1 ρ.2.2.1 _) h)
def Pi (n:Nat):List Entry:=⟨60,Re,none,some (csT Uo So (fun σ ρ=>Sc n σ.2.1.1 ρ.1.1 ρ.1.2.1 ρ.1.2.2.1 ρ.1.2.2.2.1 ρ.1.2.2.2.2.1 ρ.1.2.2.2.2.2.1 ρ.1.2.2.2.2.2.2.1 ρ.1.2.2.2.2.2.2.2.1 ρ.2.1 ρ.2.2.1) Kj)⟩::Hh n
theorem qg (n:Nat):AllOk Tryz.prog gl (Pi n):=.cons (pC n) (ik n)
def EF (n:Nat) {R:Type} (ok:Bool) (k:(Unit)→Option R) (kp:Int→Option R):Option R:=
 if (!ok)=true then
 kp (8:Int)
 else
 k ()
def bc (n:Nat) (ok:Bool):Option (Except Int (Unit)):=EF n ok (fun y=>some (.ok y)) (fun p=>some (.error p))
theorem zR (n:Nat) {S:Type}:∀ ok (φ:_→Option S),(bc n ok).bind φ=EF n ok (fun y=>φ (.ok y)) (fun p=>φ (.error p)):=by
 intros;unfold bc EF;first | (simp only [fa,ba,iB,bB,oL,oX,nB,Option.bind_some]) | rfl
def Ly (n:Nat):Hint Out:={ live:=fun c=>[],run:=fun c=>none,xm:=fun c q=>none }
theorem uJ (n:Nat):ua tys (da Out (Pi n)) (Ly n) n (aa Tryz.f167) 0:=ma (fun _=>rfl) _ _ (by kernel_rfl)
theorem XT (n:Nat):Enters Tryz.prog 167:=enters_of (c:=aa Tryz.f167) Tryz.func167 (by kernel_rfl) (by kernel_rfl)
def HO (n:Nat):Entry:=⟨167,pcX 184 (.pair .bool .unit) (.many .unit) (fun xs=>bc n xs.1),none,none⟩
theorem SW (n:Nat):EntryOk Tryz.prog gl (HO n):=
 qW (XT n) (fun xs y h=>ra tys_ok (qg n) mixed (hint:=Ly n) (n:=n) Tryz.func167 (Na (uJ n)) (la (φ:=(fun r=>onX r (fun p=>some (Out.pan (lB 184 p))) fun y=>some (Out.ret (Kf (.many .unit) y)))) (by kernel_rfl) (zR n xs.1 _) h))
  (fun xs p h=>ra tys_ok (qg n) mixed (hint:=Ly n) (n:=n) Tryz.func167 (Na (uJ n)) (la (φ:=(fun r=>onX r (fun p=>some (Out.pan (lB 184 p))) fun y=>some (Out.ret (Kf (.many .unit) y)))) (by kernel_rfl) (zR n xs.1 _) h))
def bI (n:Nat):List Entry:=HO n::Pi n
theorem FF (n:Nat):AllOk Tryz.prog gl (bI n):=.cons (SW n) (qg n)
def Gm (n:Nat) {R:Type} (c:Int) (k:U16→Option R):Option R:=
 (Sf n).bind fun v=>
 if Ta (0+1) 1=true then
 k ((⟨(0+1),fun q=>if q<0 then (fun _=>Aa (.int .u8)) q else (fun q=>List.getD (α:=Int) [c] q (Aa (.int .u8))) (q - 0)⟩:Sq Int),())
 else
 none
def Xb (n:Nat) (c:Int):Option U16:=Gm n c some
theorem WI (n:Nat) {S:Type}:∀ c (φ:_→Option S),(Xb n c).bind φ=Gm n c φ:=by
 intros;unfold Xb Gm;first | (simp only [fa,ba,iB,bB,oL,oX,nB,Option.bind_some]) | rfl
def jp (n:Nat):Hint OutS:={ live:=fun c=>[],run:=fun c=>none,xm:=fun c q=>none }
theorem PC (n:Nat):ua tys (da OutS (bI n)) (jp n) n (aa Tryz.f198) 0:=ma (fun _=>rfl) _ _ (by kernel_rfl)
theorem UE (n:Nat):Enters Tryz.prog 198:=enters_of (c:=aa Tryz.f198) Tryz.func198 (by kernel_rfl) (by kernel_rfl)
def Ht:List RSp:=[.one (.ptr 0 0 0),.one (.dat (.int .u8))]
def Gt:List RS:=[.box 126 2 true [.cn .nilp,.cn .nils]]
def VE:List Sl:=[.ptr 0 0 0,.top]
def WE:List RSp:=[.one (.cn .nili)]
def Jg:List RS:=[.box 126 2 false [.ptr 0 0 0,.row 1],.row 5 1 (.int .u8) true false]
def Hm (y:U16):OutS:=⟨false,Kl (Yb Jg ((),(y.1,()))) VE (),Xu (Us (Yb Jg ((),(y.1,()))) WE ((),())),ao (Yb Jg ((),(y.1,()))) Jg ((),(y.1,()))⟩
theorem BH (n:Nat):EntryOk Tryz.prog gl ⟨198,Re,none,some (csT Ht Gt (fun σ ρ=>Xb n σ.2.1.1) Hm)⟩:=
 Lc (UE n) fun σ ρ y h=>Me tys_ok (FF n) mixed (hint:=jp n) (n:=n) Tryz.func198 (Na (PC n)) (la (φ:=fun y=>some (Hm y)) (by kernel_rfl) (WI n σ.2.1.1 _) h)
def Al (n:Nat):List Entry:=⟨198,Re,none,some (csT Ht Gt (fun σ ρ=>Xb n σ.2.1.1) Hm)⟩::bI n
theorem Sn (n:Nat):AllOk Tryz.prog gl (Al n):=.cons (BH n) (FF n)
def ji (n:Nat) {R:Type} (c:Int) (r1:(Sq Int)) (k:U16→Option R):Option R:=
 (oe n r1).bind fun v=>
 if Ta (v.1.n+1) 1=true then
 k ((⟨(v.1.n+1),fun q=>if q<v.1.n then v.1.at' q else (fun q=>List.getD (α:=Int) [c] q (Aa (.int .u8))) (q - v.1.n)⟩:Sq Int),())
 else
 none
def Za (n:Nat) (c:Int) (r1:(Sq Int)):Option U16:=ji n c r1 some
theorem XI (n:Nat) {S:Type}:∀ c r1 (φ:_→Option S),(Za n c r1).bind φ=ji n c r1 φ:=by
 intros;unfold Za ji;first | (simp only [fa,ba,iB,bB,oL,oX,nB,Option.bind_some]) | rfl
def lp (n:Nat):Hint OutS:={ live:=fun c=>[],run:=fun c=>none,xm:=fun c q=>none }
theorem QC (n:Nat):ua tys (da OutS (Al n)) (lp n) n (aa Tryz.f198) 0:=ma (fun _=>rfl) _ _ (by kernel_rfl)
theorem YE (n:Nat):Enters Tryz.prog 198:=enters_of (c:=aa Tryz.f198) Tryz.func198 (by kernel_rfl) (by kernel_rfl)
def Jt:List RSp:=[.one (.ptr 0 0 0),.one (.dat (.int .u8))]
def It:List RS:=[.box 126 2 false [.ptr 0 0 0,.row 1],.row 5 1 (.int .u8) true false]
def ZE:List Sl:=[.ptr 0 0 0,.top]
def aF:List RSp:=[.one (.cn .nili)]
def Kg:List RS:=[.box 126 2 false [.ptr 0 0 0,.row 1],.row 5 1 (.int .u8) true false]
def Im (y:U16):OutS:=⟨false,Kl (Yb Kg ((),(y.1,()))) ZE (),Xu (Us (Yb Kg ((),(y.1,()))) aF ((),())),ao (Yb Kg ((),(y.1,()))) Kg ((),(y.1,()))⟩
theorem CH (n:Nat):EntryOk Tryz.prog gl ⟨198,Re,none,some (csT Jt It (fun σ ρ=>Za n σ.2.1.1 ρ.2.1) Im)⟩:=
 Lc (YE n) fun σ ρ y h=>Me tys_ok (Sn n) mixed (hint:=lp n) (n:=n) Tryz.func198 (Na (QC n)) (la (φ:=fun y=>some (Im y)) (by kernel_rfl) (XI n σ.2.1.1 ρ.2.1 _) h)
def kf (n:Nat):List Entry:=⟨198,Re,none,some (csT Jt It (fun σ ρ=>Za n σ.2.1.1 ρ.2.1) Im)⟩::Al n
theorem Uh (n:Nat):AllOk Tryz.prog gl (kf n):=.cons (CH n) (Sn n)
def fc (n:Nat) {R:Type} (s1:BA) (i:Int) (r1:(Sq Int)) (kn:BA→Int→(Sq Int)→Option R) (ko:Unit→Option R) (kr:(BA×BA)→Option R) (kp:Int→Option R):Option R:=
 (bc n (decide (i<(s1.size:Int)))).bind fun x_1=>onX x_1 (fun p3=>
 kp p3) (fun v5=>
 if 0≤i∧i<(s1.size:Int) then
 if ((bt s1 i)==(34:Int))=true then
  if 0≤(IntKind.wrap .i64 (i+(1:Int)))∧(IntKind.wrap .i64 (i+(1:Int)))≤(s1.size:Int) then
  (Rd n r1).bind fun v6=>
  kr (v6.1,(s1.extract (Int.toNat (IntKind.wrap .i64 (i+(1:Int)))) (Int.toNat (s1.size:Int))))
  else
  none
 else
  if 0≤i∧i<(s1.size:Int) then
  if ((bt s1 i)==(92:Int))=true then
   (bc n (decide ((IntKind.wrap .i64 (i+(1:Int)))<(s1.size:Int)))).bind fun x_2=>onX x_2 (fun p4=>
   kp p4) (fun v7=>
   if 0≤(IntKind.wrap .i64 (i+(1:Int)))∧(IntKind.wrap .i64 (i+(1:Int)))<(s1.size:Int) then
   if (decide ((bt s1 (IntKind.wrap .i64 (i+(1:Int))))≥(32:Int)))=true then
    if 0≤(IntKind.wrap .i64 (i+(1:Int)))∧(IntKind.wrap .i64 (i+(1:Int)))<(s1.size:Int) then
    (bc n (decide ((bt s1 (IntKind.wrap .i64 (i+(1:Int))))≤(126:Int)))).bind fun x_3=>onX x_3 (fun p5=>
     kp p5) (fun v8=>
    if 0≤(IntKind.wrap .i64 (i+(1:Int)))∧(IntKind.wrap .i64 (i+(1:Int)))<(s1.size:Int) then
     (Za n (bt s1 (IntKind.wrap .i64 (i+(1:Int)))) r1).bind fun v9=>
     kn s1 (IntKind.wrap .i64 ((IntKind.wrap .i64 (i+(1:Int)))+(1:Int))) v9.1
    else
     none)
    else
    none
   else
    (bc n false).bind fun x_4=>onX x_4 (fun p6=>
    kp p6) (fun v10=>
    if 0≤(IntKind.wrap .i64 (i+(1:Int)))∧(IntKind.wrap .i64 (i+(1:Int)))<(s1.size:Int) then
    (Za n (bt s1 (IntKind.wrap .i64 (i+(1:Int)))) r1).bind fun v11=>
    kn s1 (IntKind.wrap .i64 ((IntKind.wrap .i64 (i+(1:Int)))+(1:Int))) v11.1
    else
    none)
   else
   none)
  else
   if 0≤i∧i<(s1.size:Int) then
   if (decide ((bt s1 i)≥(32:Int)))=true then
    if 0≤i∧i<(s1.size:Int) then
    (bc n (decide ((bt s1 i)≤(126:Int)))).bind fun x_5=>onX x_5 (fun p7=>
     kp p7) (fun v12=>
    if 0≤i∧i<(s1.size:Int) then
     (Za n (bt s1 i) r1).bind fun v13=>
     kn s1 (IntKind.wrap .i64 (i+(1:Int))) v13.1
    else
     none)
    else
    none
   else
    (bc n false).bind fun x_6=>onX x_6 (fun p8=>
    kp p8) (fun v14=>
    if 0≤i∧i<(s1.size:Int) then
    (Za n (bt s1 i) r1).bind fun v15=>
    kn s1 (IntKind.wrap .i64 (i+(1:Int))) v15.1
    else
    none)
   else
   none
  else
  none
 else
 none)
def Ja (n:Nat):Nat→BA→Int→(Sq Int)→Option (Lx Unit (BA×BA))
 | 0,_,_,_=>none
 | m+1,s1,i,r1=>fc n s1 i r1 (Ja n m) (fun a=>some (.out a)) (fun a=>some (.ret a)) (fun p=>some (.pan p))
theorem AN (n m:Nat) {S:Type}:∀ s1 i r1 (φ:_→Option S),(Ja n (m+1) s1 i r1).bind φ=fc n s1 i r1 (fun s1 i r1=>(Ja n m s1 i r1).bind φ) (fun a=>φ (.out a)) (fun a=>φ (.ret a)) (fun p=>φ (.pan p)):=by
 intros;first | (simp only [Ja,fc,fa,ba,iB,bB,oL,oX,nB,Option.bind_some]) | rfl
def Cq:List Sl:=.dat .str::.top::.top::.top::.ptr 0 0 0::.dat (.int .i64)::tp 42 []
def Bq:List RS:=[.box 126 2 false [.ptr 0 0 0,.row 1],.row 5 1 (.int .u8) true false]
def VD:List Sl:=.top::.top::.dat .str::.dat .str::tp 44 []
def UD:List RS:=[]
def qf (K:XE→List AV→ia→Option Out):Lx Unit (BA×BA)→Option Out:=fun x=>onL x (fun _=>none) (fun a=>Bk VD UD (a.1,(a.2,())) () (K .ret)) (fun p=>K (.panic (lB 184 p)) (List.replicate 48 .top) [])
def nf (n:Nat) {R:Type} (s:BA) (k:(BA×BA×Unit)→Option R) (kp:Int→Option R):Option R:=
 (bc n (decide ((1:Int)<(s.size:Int)))).bind fun x_1=>onX x_1 (fun p=>
 kp p) (fun v=>
 if 0≤(1:Int)∧(1:Int)<(s.size:Int) then
 if ((bt s (1:Int))==(34:Int))=true then
  if 0≤(IntKind.wrap .i64 ((1:Int)+(1:Int)))∧(IntKind.wrap .i64 ((1:Int)+(1:Int)))≤(s.size:Int) then
  (Sh n).bind fun v1=>
  k (v1.1,((s.extract (Int.toNat (IntKind.wrap .i64 ((1:Int)+(1:Int)))) (Int.toNat (s.size:Int))),()))
  else
  none
 else
  if 0≤(1:Int)∧(1:Int)<(s.size:Int) then
  if ((bt s (1:Int))==(92:Int))=true then
   (bc n (decide ((IntKind.wrap .i64 ((1:Int)+(1:Int)))<(s.size:Int)))).bind fun x_2=>onX x_2 (fun p1=>
   kp p1) (fun v2=>
   if 0≤(IntKind.wrap .i64 ((1:Int)+(1:Int)))∧(IntKind.wrap .i64 ((1:Int)+(1:Int)))<(s.size:Int) then
   if (decide ((bt s (IntKind.wrap .i64 ((1:Int)+(1:Int))))≥(32:Int)))=true then
    if 0≤(IntKind.wrap .i64 ((1:Int)+(1:Int)))∧(IntKind.wrap .i64 ((1:Int)+(1:Int)))<(s.size:Int) then
    (bc n (decide ((bt s (IntKind.wrap .i64 ((1:Int)+(1:Int))))≤(126:Int)))).bind fun x_3=>onX x_3 (fun p2=>
     kp p2) (fun v3=>
    if 0≤(IntKind.wrap .i64 ((1:Int)+(1:Int)))∧(IntKind.wrap .i64 ((1:Int)+(1:Int)))<(s.size:Int) then
     (Xb n (bt s (IntKind.wrap .i64 ((1:Int)+(1:Int))))).bind fun v4=>
     (Ja n n s (IntKind.wrap .i64 ((IntKind.wrap .i64 ((1:Int)+(1:Int)))+(1:Int))) v4.1).bind fun x_4=>onL x_4
     (fun _=>none)
     (fun a_5=>
      k (a_5.1,(a_5.2,())))
     (fun p9=>
      kp p9)
    else
     none)
    else
    none
   else
    (bc n false).bind fun x_6=>onX x_6 (fun p10=>
    kp p10) (fun v16=>
    if 0≤(IntKind.wrap .i64 ((1:Int)+(1:Int)))∧(IntKind.wrap .i64 ((1:Int)+(1:Int)))<(s.size:Int) then
    (Xb n (bt s (IntKind.wrap .i64 ((1:Int)+(1:Int))))).bind fun v17=>
    (Ja n n s (IntKind.wrap .i64 ((IntKind.wrap .i64 ((1:Int)+(1:Int)))+(1:Int))) v17.1).bind fun x_7=>onL x_7
     (fun _=>none)
     (fun a_8=>
     k (a_8.1,(a_8.2,())))
     (fun p11=>
     kp p11)
    else
    none)
   else
   none)
  else
   if 0≤(1:Int)∧(1:Int)<(s.size:Int) then
   if (decide ((bt s (1:Int))≥(32:Int)))=true then
    if 0≤(1:Int)∧(1:Int)<(s.size:Int) then
    (bc n (decide ((bt s (1:Int))≤(126:Int)))).bind fun x_9=>onX x_9 (fun p12=>
     kp p12) (fun v18=>
    if 0≤(1:Int)∧(1:Int)<(s.size:Int) then
     (Xb n (bt s (1:Int))).bind fun v19=>
     (Ja n n s (IntKind.wrap .i64 ((1:Int)+(1:Int))) v19.1).bind fun x_10=>onL x_10
     (fun _=>none)
     (fun a_11=>
      k (a_11.1,(a_11.2,())))
     (fun p13=>
      kp p13)
    else
     none)
    else
    none
   else
    (bc n false).bind fun x_12=>onX x_12 (fun p14=>
    kp p14) (fun v20=>
    if 0≤(1:Int)∧(1:Int)<(s.size:Int) then
    (Xb n (bt s (1:Int))).bind fun v21=>
    (Ja n n s (IntKind.wrap .i64 ((1:Int)+(1:Int))) v21.1).bind fun x_13=>onL x_13
     (fun _=>none)
     (fun a_14=>
     k (a_14.1,(a_14.2,())))
     (fun p15=>
     kp p15)
    else
    none)
   else
   none
  else
  none
 else
 none)
def ae (n:Nat) (s:BA):Option (Except Int (BA×BA×Unit)):=nf n s (fun y=>some (.ok y)) (fun p=>some (.error p))
theorem pL (n:Nat) {S:Type}:∀ s (φ:_→Option S),(ae n s).bind φ=nf n s (fun y=>φ (.ok y)) (fun p=>φ (.error p)):=by
 intros;unfold ae nf;first | (simp only [fa,ba,iB,bB,oL,oX,nB,Option.bind_some]) | rfl
def cj (n:Nat):Hint Out:={ live:=fun c=>(cond (Nat.beq c 0) (lv [0,4,5]) []),run:=fun c=>(cond (Nat.beq c 0) (some (Ms Cq Bq fun σ ρ K=>(Ja n n σ.1 σ.2.1 ρ.2.1).bind (qf K))) none),xm:=fun c q=>(cond (Nat.beq c 1&&q.isNone) (some [(2,none),(3,none)]) none),sch:=fun c=>(cond (Nat.beq c 6) (some [(1,0),(2,0),(3,0),(4,0),(0,2),(5,0),(6,0)]) none),pl:=fun c=>Nat.beq c 0 }
def Pm (n:Nat) (K:XE→List AV→ia→Option Out) (m:Nat) (s1:BA) (i:Int) (r1:(Sq Int)):Option Out:=Ef tys (da Out (kf n)) (cj n) n (Fa [1,1,1,0,0] (aa Tryz.f183)) 0 Cq Bq K m (s1,(i,())) ((),(r1,()))
theorem bD (n:Nat) (K:XE→List AV→ia→Option Out):∀ (m:Nat) s1 i r1,Pm n K m s1 i r1=(Ja n m s1 i r1).bind (qf K)
 | 0,_,_,_=>by kernel_rfl
 | m+1,s1,i,r1=>by
  have h1:Pm n K (m+1) s1 i r1=fc n s1 i r1 (Pm n K m) (fun a=>qf K (.out a)) (fun a=>qf K (.ret a)) (fun p=>qf K (.pan p)):=by kernel_rfl
  have h2:Pm n K m=fun s1 i r1=>(Ja n m s1 i r1).bind (qf K):=by
   repeat (refine funext fun _=>?_)
   exact bD n K m _ _ _
  rw [h1,h2];exact (AN n m _ _ _ (qf K)).symm
theorem nL (n:Nat):Pe tys (da Out (kf n)) (cj n) n (Fa [1,1,1,0,0] (aa Tryz.f183)) 0:=Qa (sp:=Cq) (rp:=Bq) (by kernel_rfl) fun K σ ρ=>bD n K n σ.1 σ.2.1 ρ.2.1
theorem cD (n:Nat):ua tys (da Out (kf n)) (cj n) n (aa Tryz.f183) 0:=⟨trivial,⟨trivial,⟨trivial,⟨nL n,⟨⟨trivial,⟨⟨trivial,⟨⟨trivial,trivial⟩,trivial⟩⟩,⟨⟨trivial,⟨⟨trivial,trivial⟩,trivial⟩⟩,⟨trivial,trivial⟩⟩⟩⟩,trivial⟩⟩⟩⟩⟩
theorem CP (n:Nat):Enters Tryz.prog 183:=enters_of (c:=aa Tryz.f183) Tryz.func183 (by kernel_rfl) (by kernel_rfl)
def vJ (n:Nat):Entry:=⟨183,pcX 184 (.pair .str .unit) (.many (.pair .str (.pair .str .unit))) (fun xs=>ae n xs.1),none,none⟩
theorem DR (n:Nat):EntryOk Tryz.prog gl (vJ n):=
 qW (CP n) (fun xs y h=>ra tys_ok (Uh n) mixed (hint:=cj n) (n:=n) Tryz.func183 (Na (cD n)) (la (φ:=(fun r=>onX r (fun p=>some (Out.pan (lB 184 p))) fun y=>some (Out.ret (Kf (.many (.pair .str (.pair .str .unit))) y)))) (by kernel_rfl) (pL n xs.1 _) h))
  (fun xs p h=>ra tys_ok (Uh n) mixed (hint:=cj n) (n:=n) Tryz.func183 (Na (cD n)) (la (φ:=(fun r=>onX r (fun p=>some (Out.pan (lB 184 p))) fun y=>some (Out.ret (Kf (.many (.pair .str (.pair .str .unit))) y)))) (by kernel_rfl) (pL n xs.1 _) h))
def My (n:Nat):List Entry:=vJ n::kf n
theorem Ny (n:Nat):AllOk Tryz.prog gl (My n):=.cons (DR n) (Uh n)
def PF (n:Nat) {R:Type} (c:Int) (k:Bool→Option R):Option R:=
 if (decide (c≥(97:Int)))=true then
 if (decide (c≤(122:Int)))=false then
  if (decide (c≥(48:Int)))=true then
  k (decide (c≤(57:Int)))
  else
  k false
 else
  k true
 else
 if (decide (c≥(48:Int)))=true then
  k (decide (c≤(57:Int)))
 else
  k false
def WD (n:Nat) (c:Int):Option Bool:=PF n c some
theorem vY (n:Nat) {S:Type}:∀ c (φ:_→Option S),(WD n c).bind φ=PF n c φ:=by
 intros;unfold WD PF;first | (simp only [fa,ba,iB,bB,oL,oX,nB,Option.bind_some]) | rfl
def xJ (n:Nat):Hint Out:={ live:=fun c=>[],run:=fun c=>none,xm:=fun c q=>none }
theorem FR (n:Nat):ua tys (da Out (My n)) (xJ n) n (aa Tryz.f154) 0:=ma (fun _=>rfl) _ _ (by kernel_rfl)
theorem bU (n:Nat):Enters Tryz.prog 154:=enters_of (c:=aa Tryz.f154) Tryz.func154 (by kernel_rfl) (by kernel_rfl)
def KO (n:Nat):Entry:=⟨154,pcT (.pair (.int .u8) .unit) (.one .bool) (fun xs=>WD n xs.1),none,none⟩
theorem WW (n:Nat):EntryOk Tryz.prog gl (KO n):=
 Oa (bU n) fun xs y h=>ra tys_ok (Ny n) mixed (hint:=xJ n) (n:=n) Tryz.func154 (Na (FR n)) (la (φ:=(fun y=>some (Out.ret (Kf (.one .bool) y)))) (by kernel_rfl) (vY n xs.1 _) h)
def LO (n:Nat):List Entry:=KO n::My n
theorem DP (n:Nat):AllOk Tryz.prog gl (LO n):=.cons (WW n) (Ny n)
theorem cz:Tryz.prog.funcs[164]?=some Tryz.f164:=by kernel_rfl
theorem dz:EntryOk Tryz.prog gl ⟨164,Re,some (.flat VB),none⟩:=NL cz (by kernel_rfl) (by kernel_rfl) (by kernel_rfl) (by kernel_rfl)
def Ch (n:Nat):List Entry:=⟨164,Re,some (.flat VB),none⟩::LO n
theorem dk (n:Nat):AllOk Tryz.prog gl (Ch n):=.cons dz (DP n)
def Um (n:Nat) {R:Type} (s:BA) (c:Int) (k:Int→Option R):Option R:=
 k (Lib.indexByte s.data.toList (Nat.toUInt8 (Int.toNat c)))
def An (n:Nat) (s:BA) (c:Int):Option Int:=Um n s c some
theorem ON (n:Nat) {S:Type}:∀ s c (φ:_→Option S),(An n s c).bind φ=Um n s c φ:=by
 intros;unfold An Um;first | (simp only [fa,ba,iB,bB,oL,oX,nB,Option.bind_some]) | rfl
def qv (n:Nat):Hint Out:={ live:=fun c=>[],run:=fun c=>none,xm:=fun c q=>none }
theorem oI (n:Nat):ua tys (da Out (Ch n)) (qv n) n (aa Tryz.f142) 0:=ma (fun _=>rfl) _ _ (by kernel_rfl)
theorem gK (n:Nat):Enters Tryz.prog 142:=enters_of (c:=aa Tryz.f142) Tryz.func142 (by kernel_rfl) (by kernel_rfl)
def iz (n:Nat):Entry:=⟨142,pcT (.pair .str (.pair (.int .u8) .unit)) (.one (.int .i64)) (fun xs=>An n xs.1 xs.2.1),none,none⟩
theorem LL (n:Nat):EntryOk Tryz.prog gl (iz n):=
 Oa (gK n) fun xs y h=>ra tys_ok (dk n) mixed (hint:=qv n) (n:=n) Tryz.func142 (Na (oI n)) (la (φ:=(fun y=>some (Out.ret (Kf (.one (.int .i64)) y)))) (by kernel_rfl) (ON n xs.1 xs.2.1 _) h)
def Mq (n:Nat):List Entry:=iz n::Ch n
theorem Zs (n:Nat):AllOk Tryz.prog gl (Mq n):=.cons (LL n) (dk n)
def rn (n:Nat) {R:Type} (s:BA) (c:Int) (k:Int→Option R):Option R:=
 (An n s c).bind fun v=>
 k v
def Wf (n:Nat) (s:BA) (c:Int):Option Int:=rn n s c some
theorem yO (n:Nat) {S:Type}:∀ s c (φ:_→Option S),(Wf n s c).bind φ=rn n s c φ:=by
 intros;unfold Wf rn;first | (simp only [fa,ba,iB,bB,oL,oX,nB,Option.bind_some]) | rfl
def Yv (n:Nat):Hint Out:={ live:=fun c=>[],run:=fun c=>none,xm:=fun c q=>none }
theorem eJ (n:Nat):ua tys (da Out (Mq n)) (Yv n) n (aa Tryz.f185) 0:=ma (fun _=>rfl) _ _ (by kernel_rfl)
theorem KK (n:Nat):Enters Tryz.prog 185:=enters_of (c:=aa Tryz.f185) Tryz.func185 (by kernel_rfl) (by kernel_rfl)
def dB (n:Nat):Entry:=⟨185,pcT (.pair .str (.pair (.int .u8) .unit)) (.one (.int .i64)) (fun xs=>Wf n xs.1 xs.2.1),none,none⟩
theorem aN (n:Nat):EntryOk Tryz.prog gl (dB n):=
 Oa (KK n) fun xs y h=>ra tys_ok (Zs n) mixed (hint:=Yv n) (n:=n) Tryz.func185 (Na (eJ n)) (la (φ:=(fun y=>some (Out.ret (Kf (.one (.int .i64)) y)))) (by kernel_rfl) (yO n xs.1 xs.2.1 _) h)
def Zr (n:Nat):List Entry:=dB n::Mq n
theorem Rt (n:Nat):AllOk Tryz.prog gl (Zr n):=.cons (aN n) (Zs n)
def uF (n:Nat) {R:Type} (c:Int) (k:Bool→Option R):Option R:=
 (WD n c).bind fun v=>
 if v=false then
 if (decide (c≥(65:Int)))=true then
  if (decide (c≤(90:Int)))=false then
  (Wf n (⟨#[33,35,36,37,38,39,42,43,45,47,61,63,94,95,96,123,124,125,126]⟩:BA) c).bind fun v1=>
  k (decide (v1≥(0:Int)))
  else
  k true
 else
  (Wf n (⟨#[33,35,36,37,38,39,42,43,45,47,61,63,94,95,96,123,124,125,126]⟩:BA) c).bind fun v2=>
  k (decide (v2≥(0:Int)))
 else
 k true
def SD (n:Nat) (c:Int):Option Bool:=uF n c some
theorem uY (n:Nat) {S:Type}:∀ c (φ:_→Option S),(SD n c).bind φ=uF n c φ:=by
 intros;unfold SD uF;first | (simp only [fa,ba,iB,bB,oL,oX,nB,Option.bind_some]) | rfl
def tJ (n:Nat):Hint Out:={ live:=fun c=>[],run:=fun c=>none,xm:=fun c q=>none }
theorem vR (n:Nat):ua tys (da Out (Zr n)) (tJ n) n (aa Tryz.f199) 0:=ma (fun _=>rfl) _ _ (by kernel_rfl)
theorem VT (n:Nat):Enters Tryz.prog 199:=enters_of (c:=aa Tryz.f199) Tryz.func199 (by kernel_rfl) (by kernel_rfl)
def FO (n:Nat):Entry:=⟨199,pcT (.pair (.int .u8) .unit) (.one .bool) (fun xs=>SD n xs.1),none,none⟩
theorem QW (n:Nat):EntryOk Tryz.prog gl (FO n):=
 Oa (VT n) fun xs y h=>ra tys_ok (Rt n) mixed (hint:=tJ n) (n:=n) Tryz.func199 (Na (vR n)) (la (φ:=(fun y=>some (Out.ret (Kf (.one .bool) y)))) (by kernel_rfl) (uY n xs.1 _) h)
def iv (n:Nat):List Entry:=FO n::Zr n
theorem vF (n:Nat):AllOk Tryz.prog gl (iv n):=.cons (QW n) (Rt n)
def om (n:Nat) {R:Type} (s1:BA) (word t6 t7:Int) (kn:BA→Int→Int→Int→Option R) (ko:(Int)→Option R) (kr:(Bool)→Option R) (kp:Int→Option R):Option R:=
 if (decide (t7<t6))=true then
 if 0≤t7∧t7<(s1.size:Int) then
  if ((bt s1 t7)==(46:Int))=true then
  if (word==(0:Int))=false then
   if 0≤t7∧t7<(s1.size:Int) then
   if ((bt s1 t7) !=(46:Int))=true then
    if 0≤t7∧t7<(s1.size:Int) then
    (SD n (bt s1 t7)).bind fun v=>
    if (!v)=true then
     kr false
    else
     if 0≤t7∧t7<(s1.size:Int) then
     if ((bt s1 t7)==(46:Int))=true then
      kn s1 (0:Int) t6 (IntKind.wrap .i64 (t7+(1:Int)))
     else
      kn s1 (IntKind.wrap .i64 (word+(1:Int))) t6 (IntKind.wrap .i64 (t7+(1:Int)))
     else
     none
    else
    none
   else
    if 0≤t7∧t7<(s1.size:Int) then
    if ((bt s1 t7)==(46:Int))=true then
     kn s1 (0:Int) t6 (IntKind.wrap .i64 (t7+(1:Int)))
    else
     kn s1 (IntKind.wrap .i64 (word+(1:Int))) t6 (IntKind.wrap .i64 (t7+(1:Int)))
    else
    none
   else
   none
  else
   kr false
  else
  if 0≤t7∧t7<(s1.size:Int) then
   if ((bt s1 t7) !=(46:Int))=true then
   if 0≤t7∧t7<(s1.size:Int) then
    (SD n (bt s1 t7)).bind fun v1=>
    if (!v1)=true then
    kr false
    else
    if 0≤t7∧t7<(s1.size:Int) then
     if ((bt s1 t7)==(46:Int))=true then
     kn s1 (0:Int) t6 (IntKind.wrap .i64 (t7+(1:Int)))
     else
     kn s1 (IntKind.wrap .i64 (word+(1:Int))) t6 (IntKind.wrap .i64 (t7+(1:Int)))
    else
     none
   else
    none
   else
   if 0≤t7∧t7<(s1.size:Int) then
    if ((bt s1 t7)==(46:Int))=true then
    kn s1 (0:Int) t6 (IntKind.wrap .i64 (t7+(1:Int)))
    else
    kn s1 (IntKind.wrap .i64 (word+(1:Int))) t6 (IntKind.wrap .i64 (t7+(1:Int)))
   else
    none
  else
   none
 else
  none
 else
 ko word
def Zd (n:Nat):Nat→BA→Int→Int→Int→Option (Lx (Int) (Bool))
 | 0,_,_,_,_=>none
 | m+1,s1,word,t6,t7=>om n s1 word t6 t7 (Zd n m) (fun a=>some (.out a)) (fun a=>some (.ret a)) (fun p=>some (.pan p))
theorem yP (n m:Nat) {S:Type}:∀ s1 word t6 t7 (φ:_→Option S),(Zd n (m+1) s1 word t6 t7).bind φ=om n s1 word t6 t7 (fun s1 word t6 t7=>(Zd n m s1 word t6 t7).bind φ) (fun a=>φ (.out a)) (fun a=>φ (.ret a)) (fun p=>φ (.pan p)):=by
 intros;first | (simp only [Zd,om,fa,ba,iB,bB,oL,oX,nB,Option.bind_some]) | rfl
def bu:List Sl:=.dat .str::.top::.top::.dat (.int .i64)::.top::.top::.dat (.int .i64)::.dat (.int .i64)::tp 32 []
def au:List RS:=[]
def IF:List Sl:=.top::.top::.top::.dat (.int .i64)::tp 36 []
def HF:List RS:=[]
def KF:List Sl:=.top::.top::.dat .bool::tp 37 []
def JF:List RS:=[]
def Yf (K:XE→List AV→ia→Option Out):Lx (Int) (Bool)→Option Out:=fun x=>onL x (fun a=>Bk IF HF (a,()) () (K (.exit 0))) (fun a=>Bk KF JF (a,()) () (K .ret)) (fun _=>none)
def oB (n:Nat) {R:Type} (s:BA) (k:Bool→Option R):Option R:=
 (Zd n n s (0:Int) (s.size:Int) (0:Int)).bind fun x_1=>onL x_1
 (fun a_2=>
  k (decide (a_2>(0:Int))))
 (fun a_3=>
  k a_3)
 (fun _=>none)
def Ss (n:Nat) (s:BA):Option Bool:=oB n s some
theorem TW (n:Nat) {S:Type}:∀ s (φ:_→Option S),(Ss n s).bind φ=oB n s φ:=by
 intros;unfold Ss oB;first | (simp only [fa,ba,iB,bB,oL,oX,nB,Option.bind_some]) | rfl
def Ep (n:Nat):Hint Out:={ live:=fun c=>(cond (Nat.beq c 0) (lv [0,3,6,7]) []),run:=fun c=>(cond (Nat.beq c 0) (some (Ms bu au fun σ ρ K=>(Zd n n σ.1 σ.2.1 σ.2.2.1 σ.2.2.2.1).bind (Yf K))) none),xm:=fun c q=>(cond (Nat.beq c 0&&Nat.beq (q.getD 1000000) 0&&q.isSome) (some [(3,none)]) (cond (Nat.beq c 1&&q.isNone) (some [(2,none)]) none)) }
def Dp (n:Nat) (K:XE→List AV→ia→Option Out) (m:Nat) (s1:BA) (word:Int) (t6:Int) (t7:Int):Option Out:=Ef tys (da Out (iv n)) (Ep n) n (Fa [1,1,0,1,0,0] (aa Tryz.f186)) 0 bu au K m (s1,(word,(t6,(t7,())))) ()
theorem GF (n:Nat) (K:XE→List AV→ia→Option Out):∀ (m:Nat) s1 word t6 t7,Dp n K m s1 word t6 t7=(Zd n m s1 word t6 t7).bind (Yf K)
 | 0,_,_,_,_=>by kernel_rfl
 | m+1,s1,word,t6,t7=>by
  have h1:Dp n K (m+1) s1 word t6 t7=om n s1 word t6 t7 (Dp n K m) (fun a=>Yf K (.out a)) (fun a=>Yf K (.ret a)) (fun p=>Yf K (.pan p)):=by kernel_rfl
  have h2:Dp n K m=fun s1 word t6 t7=>(Zd n m s1 word t6 t7).bind (Yf K):=by
   repeat (refine funext fun _=>?_)
   exact GF n K m _ _ _ _
  rw [h1,h2];exact (yP n m _ _ _ _ (Yf K)).symm
theorem yN (n:Nat):Pe tys (da Out (iv n)) (Ep n) n (Fa [1,1,0,1,0,0] (aa Tryz.f186)) 0:=Qa (sp:=bu) (rp:=au) (by kernel_rfl) fun K σ ρ=>GF n K n σ.1 σ.2.1 σ.2.2.1 σ.2.2.2.1
theorem zP (n:Nat):ua tys (da Out (iv n)) (Ep n) n (aa Tryz.f186) 0:=⟨trivial,⟨trivial,⟨⟨trivial,⟨yN n,⟨trivial,⟨⟨trivial,trivial⟩,⟨⟨trivial,⟨⟨trivial,⟨⟨trivial,trivial⟩,trivial⟩⟩,⟨trivial,⟨trivial,⟨trivial,trivial⟩⟩⟩⟩⟩,trivial⟩⟩⟩⟩⟩,⟨trivial,trivial⟩⟩⟩⟩
theorem AR (n:Nat):Enters Tryz.prog 186:=enters_of (c:=aa Tryz.f186) Tryz.func186 (by kernel_rfl) (by kernel_rfl)
def lL (n:Nat):Entry:=⟨186,pcT (.pair .str .unit) (.one .bool) (fun xs=>Ss n xs.1),none,none⟩
theorem YT (n:Nat):EntryOk Tryz.prog gl (lL n):=
 Oa (AR n) fun xs y h=>ra tys_ok (vF n) mixed (hint:=Ep n) (n:=n) Tryz.func186 (Na (zP n)) (la (φ:=(fun y=>some (Out.ret (Kf (.one .bool) y)))) (by kernel_rfl) (TW n xs.1 _) h)
def Aq (n:Nat):List Entry:=lL n::iv n
theorem aD (n:Nat):AllOk Tryz.prog gl (Aq n):=.cons (YT n) (vF n)
def yh (n:Nat) {R:Type} (s1:BA) (t10 t11:Int) (r1:(Sq Int)) (kn:BA→Int→Int→(Sq Int)→Option R) (ko:((Sq Int))→Option R) (kr:Unit→Option R) (kp:Int→Option R):Option R:=
 if (decide (t11<t10))=true then
 if 0≤t11∧t11<(s1.size:Int) then
  if ((bt s1 t11)==(34:Int))=false then
  if 0≤t11∧t11<(s1.size:Int) then
   if ((bt s1 t11)==(92:Int))=true then
   (Za n (92:Int) r1).bind fun v2=>
   if 0≤t11∧t11<(s1.size:Int) then
    (Za n (bt s1 t11) v2.1).bind fun v3=>
    kn s1 t10 (IntKind.wrap .i64 (t11+(1:Int))) v3.1
   else
    none
   else
   if 0≤t11∧t11<(s1.size:Int) then
    (Za n (bt s1 t11) r1).bind fun v4=>
    kn s1 t10 (IntKind.wrap .i64 (t11+(1:Int))) v4.1
   else
    none
  else
   none
  else
  (Za n (92:Int) r1).bind fun v5=>
  if 0≤t11∧t11<(s1.size:Int) then
   (Za n (bt s1 t11) v5.1).bind fun v6=>
   kn s1 t10 (IntKind.wrap .i64 (t11+(1:Int))) v6.1
  else
   none
 else
  none
 else
 ko r1
def Pc (n:Nat):Nat→BA→Int→Int→(Sq Int)→Option (Lx ((Sq Int)) Unit)
 | 0,_,_,_,_=>none
 | m+1,s1,t10,t11,r1=>yh n s1 t10 t11 r1 (Pc n m) (fun a=>some (.out a)) (fun a=>some (.ret a)) (fun p=>some (.pan p))
theorem AP (n m:Nat) {S:Type}:∀ s1 t10 t11 r1 (φ:_→Option S),(Pc n (m+1) s1 t10 t11 r1).bind φ=yh n s1 t10 t11 r1 (fun s1 t10 t11 r1=>(Pc n m s1 t10 t11 r1).bind φ) (fun a=>φ (.out a)) (fun a=>φ (.ret a)) (fun p=>φ (.pan p)):=by
 intros;first | (simp only [Pc,yh,fa,ba,iB,bB,oL,oX,nB,Option.bind_some]) | rfl
def du:List Sl:=.dat .str::.top::.top::.ptr 0 0 0::tp 6 (.dat (.int .i64)::.dat (.int .i64)::tp 20 [])
def cu:List RS:=[.box 126 2 false [.ptr 0 0 0,.row 1],.row 5 1 (.int .u8) true false]
def NF:List Sl:=.top::.top::.top::.ptr 0 0 0::tp 28 []
def MF:List RS:=[.box 126 2 false [.ptr 0 0 0,.row 1],.row 5 1 (.int .u8) true false]
def Zf (K:XE→List AV→ia→Option Out):Lx ((Sq Int)) Unit→Option Out:=fun x=>onL x (fun a=>Bk NF MF () ((),(a,())) (K (.exit 0))) (fun _=>none) (fun _=>none)
def qB (n:Nat) {R:Type} (s:BA) (k:BA→Option R):Option R:=
 (Ss n s).bind fun v=>
 if v=true then
 k s
 else
 (Xb n (34:Int)).bind fun v1=>
 (Pc n n s (s.size:Int) (0:Int) v1.1).bind fun x_1=>onL x_1
  (fun a_2=>
  (Rd n a_2).bind fun v7=>
  if Ca v7.1 (⟨#[34]⟩:BA)=true then
   k (v7.1++(⟨#[34]⟩:BA))
  else
   none)
  (fun _=>none)
  (fun _=>none)
def pB (n:Nat) (s:BA):Option BA:=qB n s some
theorem UW (n:Nat) {S:Type}:∀ s (φ:_→Option S),(pB n s).bind φ=qB n s φ:=by
 intros;unfold pB qB;first | (simp only [fa,ba,iB,bB,oL,oX,nB,Option.bind_some]) | rfl
def Gp (n:Nat):Hint Out:={ live:=fun c=>(cond (Nat.beq c 0) (lv [0,3,10,11]) []),run:=fun c=>(cond (Nat.beq c 0) (some (Ms du cu fun σ ρ K=>(Pc n n σ.1 σ.2.1 σ.2.2.1 ρ.2.1).bind (Zf K))) none),xm:=fun c q=>(cond (Nat.beq c 0&&Nat.beq (q.getD 1000000) 0&&q.isSome) (some [(3,none)]) none) }
def Fp (n:Nat) (K:XE→List AV→ia→Option Out) (m:Nat) (s1:BA) (t10:Int) (t11:Int) (r1:(Sq Int)):Option Out:=Ef tys (da Out (Aq n)) (Gp n) n (Fa [1,1,1,1,0,1,0,0] (aa Tryz.f184)) 0 du cu K m (s1,(t10,(t11,()))) ((),(r1,()))
theorem LF (n:Nat) (K:XE→List AV→ia→Option Out):∀ (m:Nat) s1 t10 t11 r1,Fp n K m s1 t10 t11 r1=(Pc n m s1 t10 t11 r1).bind (Zf K)
 | 0,_,_,_,_=>by kernel_rfl
 | m+1,s1,t10,t11,r1=>by
  have h1:Fp n K (m+1) s1 t10 t11 r1=yh n s1 t10 t11 r1 (Fp n K m) (fun a=>Zf K (.out a)) (fun a=>Zf K (.ret a)) (fun p=>Zf K (.pan p)):=by kernel_rfl
  have h2:Fp n K m=fun s1 t10 t11 r1=>(Pc n m s1 t10 t11 r1).bind (Zf K):=by
   repeat (refine funext fun _=>?_)
   exact LF n K m _ _ _ _
  rw [h1,h2];exact (AP n m _ _ _ _ (Zf K)).symm
theorem zN (n:Nat):Pe tys (da Out (Aq n)) (Gp n) n (Fa [1,1,1,1,0,1,0,0] (aa Tryz.f184)) 0:=Qa (sp:=du) (rp:=cu) (by kernel_rfl) fun K σ ρ=>LF n K n σ.1 σ.2.1 σ.2.2.1 ρ.2.1
theorem BP (n:Nat):ua tys (da Out (Aq n)) (Gp n) n (aa Tryz.f184) 0:=⟨trivial,⟨⟨trivial,⟨⟨trivial,trivial⟩,trivial⟩⟩,⟨trivial,⟨trivial,⟨⟨trivial,⟨zN n,⟨trivial,⟨⟨trivial,trivial⟩,⟨⟨trivial,⟨⟨trivial,⟨trivial,trivial⟩⟩,trivial⟩⟩,trivial⟩⟩⟩⟩⟩,⟨trivial,trivial⟩⟩⟩⟩⟩⟩
theorem BR (n:Nat):Enters Tryz.prog 184:=enters_of (c:=aa Tryz.f184) Tryz.func184 (by kernel_rfl) (by kernel_rfl)
def mL (n:Nat):Entry:=⟨184,pcT (.pair .str .unit) (.one .str) (fun xs=>pB n xs.1),none,none⟩
theorem ZT (n:Nat):EntryOk Tryz.prog gl (mL n):=
 Oa (BR n) fun xs y h=>ra tys_ok (aD n) mixed (hint:=Gp n) (n:=n) Tryz.func184 (Na (BP n)) (la (φ:=(fun y=>some (Out.ret (Kf (.one .str) y)))) (by kernel_rfl) (UW n xs.1 _) h)
def TD (n:Nat):List Entry:=mL n::Aq n
theorem eu (n:Nat):AllOk Tryz.prog gl (TD n):=.cons (ZT n) (aD n)
def ak (n:Nat) {R:Type} (s:BA) (k:(BA×BA×Unit)→Option R) (kp:Int→Option R):Option R:=
 (Pa n s (⟨#[34]⟩:BA)).bind fun v=>
 if v=true then
 (ae n s).bind fun x_1=>onX x_1 (fun p=>
  kp p) (fun v1=>
 (pB n v1.1).bind fun v2=>
 k (v2,(v1.2.1,())))
 else
 (Wf n s (64:Int)).bind fun v3=>
 if (decide (v3≥(0:Int)))=true then
  if 0≤v3∧v3≤(s.size:Int) then
  (Ss n (s.extract (Int.toNat (0:Int)) (Int.toNat v3))).bind fun v4=>
  (bc n v4).bind fun x_2=>onX x_2 (fun p1=>
   kp p1) (fun v5=>
  if 0≤v3∧v3≤(s.size:Int) then
   if 0≤v3∧v3≤(s.size:Int) then
   k ((s.extract (Int.toNat (0:Int)) (Int.toNat v3)),((s.extract (Int.toNat v3) (Int.toNat (s.size:Int))),()))
   else
   none
  else
   none)
  else
  none
 else
  (bc n false).bind fun x_3=>onX x_3 (fun p2=>
  kp p2) (fun v6=>
  if 0≤v3∧v3≤(s.size:Int) then
  if 0≤v3∧v3≤(s.size:Int) then
   k ((s.extract (Int.toNat (0:Int)) (Int.toNat v3)),((s.extract (Int.toNat v3) (Int.toNat (s.size:Int))),()))
  else
   none
  else
  none)
def xk (n:Nat) (s:BA):Option (Except Int (BA×BA×Unit)):=ak n s (fun y=>some (.ok y)) (fun p=>some (.error p))
theorem GO (n:Nat) {S:Type}:∀ s (φ:_→Option S),(xk n s).bind φ=ak n s (fun y=>φ (.ok y)) (fun p=>φ (.error p)):=by
 intros;unfold xk ak;first | (simp only [fa,ba,iB,bB,oL,oX,nB,Option.bind_some]) | rfl
def iw (n:Nat):Hint Out:={ live:=fun c=>[],run:=fun c=>none,xm:=fun c q=>none }
theorem DF (n:Nat):ua tys (da Out (TD n)) (iw n) n (aa Tryz.f166) 0:=ma (fun _=>rfl) _ _ (by kernel_rfl)
theorem yR (n:Nat):Enters Tryz.prog 166:=enters_of (c:=aa Tryz.f166) Tryz.func166 (by kernel_rfl) (by kernel_rfl)
def kL (n:Nat):Entry:=⟨166,pcX 184 (.pair .str .unit) (.many (.pair .str (.pair .str .unit))) (fun xs=>xk n xs.1),none,none⟩
theorem WT (n:Nat):EntryOk Tryz.prog gl (kL n):=
 qW (yR n) (fun xs y h=>ra tys_ok (eu n) mixed (hint:=iw n) (n:=n) Tryz.func166 (Na (DF n)) (la (φ:=(fun r=>onX r (fun p=>some (Out.pan (lB 184 p))) fun y=>some (Out.ret (Kf (.many (.pair .str (.pair .str .unit))) y)))) (by kernel_rfl) (GO n xs.1 _) h))
  (fun xs p h=>ra tys_ok (eu n) mixed (hint:=iw n) (n:=n) Tryz.func166 (Na (DF n)) (la (φ:=(fun r=>onX r (fun p=>some (Out.pan (lB 184 p))) fun y=>some (Out.ret (Kf (.many (.pair .str (.pair .str .unit))) y)))) (by kernel_rfl) (GO n xs.1 _) h))
def zq (n:Nat):List Entry:=kL n::TD n
theorem ZC (n:Nat):AllOk Tryz.prog gl (zq n):=.cons (WT n) (eu n)
def zh (n:Nat) {R:Type} (t9 t10:Int) (b:(Sq Int)) (kn:Int→Int→(Sq Int)→Option R) (ko:((Sq Int))→Option R) (kr:Unit→Option R) (kp:Int→Option R):Option R:=
 if (decide (t10<t9))=true then
 if 0≤t10∧t10<(b.n:Int) then
  if (decide ((b.at' (Int.toNat t10))≥(65:Int)))=true then
  if (decide ((b.at' (Int.toNat t10))≤(90:Int)))=true then
   if 0≤t10∧t10<(b.n:Int) then
   kn t9 (IntKind.wrap .i64 (t10+(1:Int))) (⟨b.n,fun q=>if q=(Int.toNat t10)∧q<b.n then (IntKind.wrap .u8 ((IntKind.wrap .u8 ((b.at' (Int.toNat t10))+(97:Int))) - (65:Int))) else b.at' q⟩:Sq Int)
   else
   none
  else
   kn t9 (IntKind.wrap .i64 (t10+(1:Int))) b
  else
  kn t9 (IntKind.wrap .i64 (t10+(1:Int))) b
 else
  none
 else
 ko b
def uc (n:Nat):Nat→Int→Int→(Sq Int)→Option (Lx ((Sq Int)) Unit)
 | 0,_,_,_=>none
 | m+1,t9,t10,b=>zh n t9 t10 b (uc n m) (fun a=>some (.out a)) (fun a=>some (.ret a)) (fun p=>some (.pan p))
theorem EP (n m:Nat) {S:Type}:∀ t9 t10 b (φ:_→Option S),(uc n (m+1) t9 t10 b).bind φ=zh n t9 t10 b (fun t9 t10 b=>(uc n m t9 t10 b).bind φ) (fun a=>φ (.out a)) (fun a=>φ (.ret a)) (fun p=>φ (.pan p)):=by
 intros;first | (simp only [uc,zh,fa,ba,iB,bB,oL,oX,nB,Option.bind_some]) | rfl
def gu:List Sl:=.top::.top::.top::.row 0::tp 4 (.row 0::.dat (.int .i64)::.dat (.int .i64)::tp 19 [])
def fu:List RS:=[.row 5 1 (.int .u8) false true]
def SF:List Sl:=.top::.top::.top::.row 0::tp 26 []
def RF:List RS:=[.row 5 1 (.int .u8) false true]
def bg (K:XE→List AV→ia→Option Out):Lx ((Sq Int)) Unit→Option Out:=fun x=>onL x (fun a=>Bk SF RF () (a,()) (K (.exit 0))) (fun _=>none) (fun _=>none)
def rB (n:Nat) {R:Type} (s:BA) (k:BA→Option R):Option R:=
 (uc n n (s.size:Int) (0:Int) (⟨s.size,fun q=>bt s q⟩:Sq Int)).bind fun x_1=>onL x_1
 (fun a_2=>
  k (ah a_2.n a_2.at'))
 (fun _=>none)
 (fun _=>none)
def Ts (n:Nat) (s:BA):Option BA:=rB n s some
theorem XW (n:Nat) {S:Type}:∀ s (φ:_→Option S),(Ts n s).bind φ=rB n s φ:=by
 intros;unfold Ts rB;first | (simp only [fa,ba,iB,bB,oL,oX,nB,Option.bind_some]) | rfl
def Ip (n:Nat):Hint Out:={ live:=fun c=>(cond (Nat.beq c 0) [(3,some (.sl (.int .u8))),(8,some (.sl (.int .u8))),(9,none),(10,none)] []),run:=fun c=>(cond (Nat.beq c 0) (some (Ms gu fu fun σ ρ K=>(uc n n σ.1 σ.2.1 ρ.1).bind (bg K))) none),xm:=fun c q=>(cond (Nat.beq c 0&&Nat.beq (q.getD 1000000) 0&&q.isSome) (some [(3,some (.sl (.int .u8)))]) none) }
def Hp (n:Nat) (K:XE→List AV→ia→Option Out) (m:Nat) (t9:Int) (t10:Int) (b:(Sq Int)):Option Out:=Ef tys (da Out (zq n)) (Ip n) n (Fa [1,1,0,1,0,0] (aa Tryz.f159)) 0 gu fu K m (t9,(t10,())) (b,())
theorem QF (n:Nat) (K:XE→List AV→ia→Option Out):∀ (m:Nat) t9 t10 b,Hp n K m t9 t10 b=(uc n m t9 t10 b).bind (bg K)
 | 0,_,_,_=>by kernel_rfl
 | m+1,t9,t10,b=>by
  have h1:Hp n K (m+1) t9 t10 b=zh n t9 t10 b (Hp n K m) (fun a=>bg K (.out a)) (fun a=>bg K (.ret a)) (fun p=>bg K (.pan p)):=by kernel_rfl
  have h2:Hp n K m=fun t9 t10 b=>(uc n m t9 t10 b).bind (bg K):=by
   repeat (refine funext fun _=>?_)
   exact QF n K m _ _ _
  rw [h1,h2];exact (EP n m _ _ _ (bg K)).symm
theorem BN (n:Nat):Pe tys (da Out (zq n)) (Ip n) n (Fa [1,1,0,1,0,0] (aa Tryz.f159)) 0:=Qa (sp:=gu) (rp:=fu) (by kernel_rfl) fun K σ ρ=>QF n K n σ.1 σ.2.1 ρ.1
theorem FP (n:Nat):ua tys (da Out (zq n)) (Ip n) n (aa Tryz.f159) 0:=⟨trivial,⟨trivial,⟨⟨trivial,⟨BN n,⟨trivial,⟨⟨trivial,trivial⟩,⟨⟨trivial,⟨trivial,⟨trivial,trivial⟩⟩⟩,trivial⟩⟩⟩⟩⟩,⟨trivial,trivial⟩⟩⟩⟩
theorem GR (n:Nat):Enters Tryz.prog 159:=enters_of (c:=aa Tryz.f159) Tryz.func159 (by kernel_rfl) (by kernel_rfl)
def qL (n:Nat):Entry:=⟨159,pcT (.pair .str .unit) (.one .str) (fun xs=>Ts n xs.1),none,none⟩
theorem cU (n:Nat):EntryOk Tryz.prog gl (qL n):=
 Oa (GR n) fun xs y h=>ra tys_ok (ZC n) mixed (hint:=Ip n) (n:=n) Tryz.func159 (Na (FP n)) (la (φ:=(fun y=>some (Out.ret (Kf (.one .str) y)))) (by kernel_rfl) (XW n xs.1 _) h)
def XD (n:Nat):List Entry:=qL n::zq n
theorem dD (n:Nat):AllOk Tryz.prog gl (XD n):=.cons (cU n) (ZC n)
def Om (n:Nat) {R:Type} (s:BA) (k:Bool→Option R):Option R:=
 (Pa n s (⟨#[91]⟩:BA)).bind fun v=>
 k v
def Uf (n:Nat) (s:BA):Option Bool:=Om n s some
theorem tN (n:Nat) {S:Type}:∀ s (φ:_→Option S),(Uf n s).bind φ=Om n s φ:=by
 intros;unfold Uf Om;first | (simp only [fa,ba,iB,bB,oL,oX,nB,Option.bind_some]) | rfl
def fv (n:Nat):Hint Out:={ live:=fun c=>[],run:=fun c=>none,xm:=fun c q=>none }
theorem ZH (n:Nat):ua tys (da Out (XD n)) (fv n) n (aa Tryz.f128) 0:=ma (fun _=>rfl) _ _ (by kernel_rfl)
theorem bK (n:Nat):Enters Tryz.prog 128:=enters_of (c:=aa Tryz.f128) Tryz.func128 (by kernel_rfl) (by kernel_rfl)
def Gy (n:Nat):Entry:=⟨128,pcT (.pair .str .unit) (.one .bool) (fun xs=>Uf n xs.1),none,none⟩
theorem Iy (n:Nat):EntryOk Tryz.prog gl (Gy n):=
 Oa (bK n) fun xs y h=>ra tys_ok (dD n) mixed (hint:=fv n) (n:=n) Tryz.func128 (Na (ZH n)) (la (φ:=(fun y=>some (Out.ret (Kf (.one .bool) y)))) (by kernel_rfl) (tN n xs.1 _) h)
def Hy (n:Nat):List Entry:=Gy n::XD n
theorem rF (n:Nat):AllOk Tryz.prog gl (Hy n):=.cons (Iy n) (dD n)
theorem kI:Tryz.prog.funcs[201]?=some Tryz.f201:=by kernel_rfl
theorem lI:EntryOk Tryz.prog gl ⟨201,Re,some (.flat KW),none⟩:=kU kI (by kernel_rfl) (by kernel_rfl) (by kernel_rfl) (by kernel_rfl)
def rm (n:Nat):List Entry:=⟨201,Re,some (.flat KW),none⟩::Hy n
theorem zo (n:Nat):AllOk Tryz.prog gl (rm n):=.cons lI (rF n)
def RB (n:Nat) {R:Type} (s substr:BA) (k:Int→Option R):Option R:=
 (lD s substr).bind fun v=>
 k v
def qn (n:Nat) (s substr:BA):Option Int:=RB n s substr some
theorem VX (n:Nat) {S:Type}:∀ s substr (φ:_→Option S),(qn n s substr).bind φ=RB n s substr φ:=by
 intros;unfold qn RB;first | (simp only [fa,ba,iB,bB,oL,oX,nB,Option.bind_some]) | rfl
def MH (n:Nat):Hint Out:={ live:=fun c=>[],run:=fun c=>none,xm:=fun c q=>none }
theorem bR (n:Nat):ua tys (da Out (rm n)) (MH n) n (aa Tryz.f127) 0:=ma (fun _=>rfl) _ _ (by kernel_rfl)
theorem uT (n:Nat):Enters Tryz.prog 127:=enters_of (c:=aa Tryz.f127) Tryz.func127 (by kernel_rfl) (by kernel_rfl)
def bN (n:Nat):Entry:=⟨127,pcT (.pair .str (.pair .str .unit)) (.one (.int .i64)) (fun xs=>qn n xs.1 xs.2.1),none,none⟩
theorem cN (n:Nat):EntryOk Tryz.prog gl (bN n):=
 Oa (uT n) fun xs y h=>ra tys_ok (zo n) mixed (hint:=MH n) (n:=n) Tryz.func127 (Na (bR n)) (la (φ:=(fun y=>some (Out.ret (Kf (.one (.int .i64)) y)))) (by kernel_rfl) (VX n xs.1 xs.2.1 _) h)
def js (n:Nat):List Entry:=bN n::rm n
theorem ND (n:Nat):AllOk Tryz.prog gl (js n):=.cons (cN n) (zo n)
def ox (n:Nat) {R:Type} (s1 substr1:BA) (n0:Int) (kn:BA→BA→Int→Option R) (ko:Unit→Option R) (kr:(Int)→Option R) (kp:Int→Option R):Option R:=
 (qn n s1 substr1).bind fun v=>
 if (v==(-1:Int))=true then
 kr n0
 else
 if 0≤(IntKind.wrap .i64 (v+(substr1.size:Int)))∧(IntKind.wrap .i64 (v+(substr1.size:Int)))≤(s1.size:Int) then
  kn (s1.extract (Int.toNat (IntKind.wrap .i64 (v+(substr1.size:Int)))) (Int.toNat (s1.size:Int))) substr1 (IntKind.wrap .i64 (n0+(1:Int)))
 else
  none
def Vh (n:Nat):Nat→BA→BA→Int→Option (Lx Unit (Int))
 | 0,_,_,_=>none
 | m+1,s1,substr1,n0=>ox n s1 substr1 n0 (Vh n m) (fun a=>some (.out a)) (fun a=>some (.ret a)) (fun p=>some (.pan p))
theorem ZQ (n m:Nat) {S:Type}:∀ s1 substr1 n0 (φ:_→Option S),(Vh n (m+1) s1 substr1 n0).bind φ=ox n s1 substr1 n0 (fun s1 substr1 n0=>(Vh n m s1 substr1 n0).bind φ) (fun a=>φ (.out a)) (fun a=>φ (.ret a)) (fun p=>φ (.pan p)):=by
 intros;first | (simp only [Vh,ox,fa,ba,iB,bB,oL,oX,nB,Option.bind_some]) | rfl
def Uu:List Sl:=.dat .str::.dat .str::.top::.top::.top::.dat (.int .i64)::tp 28 []
def Tu:List RS:=[]
def KH:List Sl:=tp 4 (.dat (.int .i64)::tp 29 [])
def JH:List RS:=[]
def Og (K:XE→List AV→ia→Option Out):Lx Unit (Int)→Option Out:=fun x=>onL x (fun _=>none) (fun a=>Bk KH JH (a,()) () (K .ret)) (fun _=>none)
def QB (n:Nat) {R:Type} (s substr:BA) (k:Int→Option R):Option R:=
 if ((substr.size:Int)==(0:Int))=true then
 none
 else
 if ((substr.size:Int)==(1:Int))=true then
  if 0≤(0:Int)∧(0:Int)<(substr.size:Int) then
  k ((Lib.countByte s.data.toList (Nat.toUInt8 (Int.toNat (bt substr (0:Int)))):Nat):Int)
  else
  none
 else
  (Vh n n s substr (0:Int)).bind fun x_1=>onL x_1
  (fun _=>none)
  (fun a_2=>
   k a_2)
  (fun _=>none)
def PB (n:Nat) (s substr:BA):Option Int:=QB n s substr some
theorem TX (n:Nat) {S:Type}:∀ s substr (φ:_→Option S),(PB n s substr).bind φ=QB n s substr φ:=by
 intros;unfold PB QB;first | (simp only [fa,ba,iB,bB,oL,oX,nB,Option.bind_some]) | rfl
def nq (n:Nat):Hint Out:={ live:=fun c=>(cond (Nat.beq c 0) (lv [0,1,5]) []),run:=fun c=>(cond (Nat.beq c 0) (some (Ms Uu Tu fun σ ρ K=>(Vh n n σ.1 σ.2.1 σ.2.2.1).bind (Og K))) none),xm:=fun c q=>(cond (Nat.beq c 1&&q.isNone) (some [(4,none)]) none) }
def mq (n:Nat) (K:XE→List AV→ia→Option Out) (m:Nat) (s1:BA) (substr1:BA) (n0:Int):Option Out:=Ef tys (da Out (js n)) (nq n) n (Fa [1,1,1,1,0,0] (aa Tryz.f188)) 0 Uu Tu K m (s1,(substr1,(n0,()))) ()
theorem IH (n:Nat) (K:XE→List AV→ia→Option Out):∀ (m:Nat) s1 substr1 n0,mq n K m s1 substr1 n0=(Vh n m s1 substr1 n0).bind (Og K)
 | 0,_,_,_=>by kernel_rfl
 | m+1,s1,substr1,n0=>by
  have h1:mq n K (m+1) s1 substr1 n0=ox n s1 substr1 n0 (mq n K m) (fun a=>Og K (.out a)) (fun a=>Og K (.ret a)) (fun p=>Og K (.pan p)):=by kernel_rfl
  have h2:mq n K m=fun s1 substr1 n0=>(Vh n m s1 substr1 n0).bind (Og K):=by
   repeat (refine funext fun _=>?_)
   exact IH n K m _ _ _
  rw [h1,h2];exact (ZQ n m _ _ _ (Og K)).symm
theorem vO (n:Nat):Pe tys (da Out (js n)) (nq n) n (Fa [1,1,1,1,0,0] (aa Tryz.f188)) 0:=Qa (sp:=Uu) (rp:=Tu) (by kernel_rfl) fun K σ ρ=>IH n K n σ.1 σ.2.1 σ.2.2.1
theorem aR (n:Nat):ua tys (da Out (js n)) (nq n) n (aa Tryz.f188) 0:=⟨trivial,⟨⟨trivial,⟨⟨trivial,trivial⟩,trivial⟩⟩,⟨⟨trivial,⟨⟨trivial,trivial⟩,trivial⟩⟩,⟨trivial,⟨vO n,⟨trivial,⟨⟨trivial,⟨⟨trivial,trivial⟩,trivial⟩⟩,⟨trivial,trivial⟩⟩⟩⟩⟩⟩⟩⟩
theorem sT (n:Nat):Enters Tryz.prog 188:=enters_of (c:=aa Tryz.f188) Tryz.func188 (by kernel_rfl) (by kernel_rfl)
def WM (n:Nat):Entry:=⟨188,pcT (.pair .str (.pair .str .unit)) (.one (.int .i64)) (fun xs=>PB n xs.1 xs.2.1),none,none⟩
theorem qV (n:Nat):EntryOk Tryz.prog gl (WM n):=
 Oa (sT n) fun xs y h=>ra tys_ok (ND n) mixed (hint:=nq n) (n:=n) Tryz.func188 (Na (aR n)) (la (φ:=(fun y=>some (Out.ret (Kf (.one (.int .i64)) y)))) (by kernel_rfl) (TX n xs.1 xs.2.1 _) h)
def Wr (n:Nat):List Entry:=WM n::js n
theorem MD (n:Nat):AllOk Tryz.prog gl (Wr n):=.cons (qV n) (ND n)
def dh (n:Nat) {R:Type} (s1 sep1:BA) (sepSave1 n01 i:Int) (a:(Sq BA)) (kn:BA→BA→Int→Int→Int→(Sq BA)→Option R) (ko:(BA×Int×(Sq BA))→Option R) (kr:Unit→Option R) (kp:Int→Option R):Option R:=
 if (decide (i<n01))=true then
 (qn n s1 sep1).bind fun v1=>
 if (decide (v1<(0:Int)))=true then
  ko (s1,i,a)
 else
  if 0≤(IntKind.wrap .i64 (v1+sepSave1))∧(IntKind.wrap .i64 (v1+sepSave1))≤(s1.size:Int) then
  if 0≤i∧i<(a.n:Int) then
   if 0≤(IntKind.wrap .i64 (v1+(sep1.size:Int)))∧(IntKind.wrap .i64 (v1+(sep1.size:Int)))≤(s1.size:Int) then
   kn (s1.extract (Int.toNat (IntKind.wrap .i64 (v1+(sep1.size:Int)))) (Int.toNat (s1.size:Int))) sep1 sepSave1 n01 (IntKind.wrap .i64 (i+(1:Int))) (⟨a.n,fun q=>if q=(Int.toNat i)∧q<a.n then (s1.extract (Int.toNat (0:Int)) (Int.toNat (IntKind.wrap .i64 (v1+sepSave1)))) else a.at' q⟩:Sq BA)
   else
   none
  else
   none
  else
  none
 else
 ko (s1,i,a)
def Ob (n:Nat):Nat→BA→BA→Int→Int→Int→(Sq BA)→Option (Lx (BA×Int×(Sq BA)) Unit)
 | 0,_,_,_,_,_,_=>none
 | m+1,s1,sep1,sepSave1,n01,i,a=>dh n s1 sep1 sepSave1 n01 i a (Ob n m) (fun a=>some (.out a)) (fun a=>some (.ret a)) (fun p=>some (.pan p))
theorem MK (n m:Nat) {S:Type}:∀ s1 sep1 sepSave1 n01 i a (φ:_→Option S),(Ob n (m+1) s1 sep1 sepSave1 n01 i a).bind φ=dh n s1 sep1 sepSave1 n01 i a (fun s1 sep1 sepSave1 n01 i a=>(Ob n m s1 sep1 sepSave1 n01 i a).bind φ) (fun a=>φ (.out a)) (fun a=>φ (.ret a)) (fun p=>φ (.pan p)):=by
 intros;first | (simp only [Ob,dh,fa,ba,iB,bB,oL,oX,nB,Option.bind_some]) | rfl
def Nm:List Sl:=.dat .str::.dat .str::.dat (.int .i64)::.dat (.int .i64)::tp 5 (.row 0::.dat (.int .i64)::tp 55 [])
def Mm:List RS:=[.row 9 1 .str false false]
def gB:List Sl:=.dat .str::tp 8 (.row 0::.dat (.int .i64)::tp 55 [])
def fB:List RS:=[.row 9 1 .str false false]
def Hd (K:XE→List AV→ia→Option Out):Lx (BA×Int×(Sq BA)) Unit→Option Out:=fun x=>onL x (fun a=>Bk gB fB (a.1,(a.2.1,())) (a.2.2,()) (K (.exit 0))) (fun _=>none) (fun _=>none)
def oq (n:Nat) {R:Type} (s sep:BA) (sepSave n0:Int) (k:(Sq BA)→Option R):Option R:=
 if (n0==(0:Int))=true then
 k (⟨0,fun _=>Aa .str⟩:Sq BA)
 else
 if (sep.toList==(⟨#[]⟩:BA).toList)=true then
  none
 else
  if (decide (n0<(0:Int)))=true then
  (PB n s sep).bind fun v=>
  if 0≤(if (IntKind.wrap .i64 ((s.size:Int)+(1:Int)))<(IntKind.wrap .i64 (v+(1:Int))) then (IntKind.wrap .i64 ((s.size:Int)+(1:Int))) else (IntKind.wrap .i64 (v+(1:Int))))∧(if (IntKind.wrap .i64 ((s.size:Int)+(1:Int)))<(IntKind.wrap .i64 (v+(1:Int))) then (IntKind.wrap .i64 ((s.size:Int)+(1:Int))) else (IntKind.wrap .i64 (v+(1:Int))))≤(if (IntKind.wrap .i64 ((s.size:Int)+(1:Int)))<(IntKind.wrap .i64 (v+(1:Int))) then (IntKind.wrap .i64 ((s.size:Int)+(1:Int))) else (IntKind.wrap .i64 (v+(1:Int)))) then
   if Ta (Int.toNat (if (IntKind.wrap .i64 ((s.size:Int)+(1:Int)))<(IntKind.wrap .i64 (v+(1:Int))) then (IntKind.wrap .i64 ((s.size:Int)+(1:Int))) else (IntKind.wrap .i64 (v+(1:Int))))) 16=true then
   (Ob n n s sep sepSave (IntKind.wrap .i64 ((if (IntKind.wrap .i64 ((s.size:Int)+(1:Int)))<(IntKind.wrap .i64 (v+(1:Int))) then (IntKind.wrap .i64 ((s.size:Int)+(1:Int))) else (IntKind.wrap .i64 (v+(1:Int)))) - (1:Int))) (0:Int) (⟨(Int.toNat (if (IntKind.wrap .i64 ((s.size:Int)+(1:Int)))<(IntKind.wrap .i64 (v+(1:Int))) then (IntKind.wrap .i64 ((s.size:Int)+(1:Int))) else (IntKind.wrap .i64 (v+(1:Int))))),fun _=>(⟨#[]⟩:BA)⟩:Sq BA)).bind fun x_1=>onL x_1
    (fun a_2=>
    if 0≤a_2.2.1∧a_2.2.1<(a_2.2.2.n:Int) then
     if 0≤(IntKind.wrap .i64 (a_2.2.1+(1:Int)))∧(IntKind.wrap .i64 (a_2.2.1+(1:Int)))≤(a_2.2.2.n:Int) then
     k (⟨((Int.toNat (IntKind.wrap .i64 (a_2.2.1+(1:Int)))) - (Int.toNat (0:Int))),fun i=>(fun q=>if q=(Int.toNat a_2.2.1)∧q<a_2.2.2.n then a_2.1 else a_2.2.2.at' q) ((Int.toNat (0:Int))+i)⟩:Sq BA)
     else
     none
    else
     none)
    (fun _=>none)
    (fun _=>none)
   else
   none
  else
   none
  else
  if 0≤(if (IntKind.wrap .i64 ((s.size:Int)+(1:Int)))<n0 then (IntKind.wrap .i64 ((s.size:Int)+(1:Int))) else n0)∧(if (IntKind.wrap .i64 ((s.size:Int)+(1:Int)))<n0 then (IntKind.wrap .i64 ((s.size:Int)+(1:Int))) else n0)≤(if (IntKind.wrap .i64 ((s.size:Int)+(1:Int)))<n0 then (IntKind.wrap .i64 ((s.size:Int)+(1:Int))) else n0) then
   if Ta (Int.toNat (if (IntKind.wrap .i64 ((s.size:Int)+(1:Int)))<n0 then (IntKind.wrap .i64 ((s.size:Int)+(1:Int))) else n0)) 16=true then
   (Ob n n s sep sepSave (IntKind.wrap .i64 ((if (IntKind.wrap .i64 ((s.size:Int)+(1:Int)))<n0 then (IntKind.wrap .i64 ((s.size:Int)+(1:Int))) else n0) - (1:Int))) (0:Int) (⟨(Int.toNat (if (IntKind.wrap .i64 ((s.size:Int)+(1:Int)))<n0 then (IntKind.wrap .i64 ((s.size:Int)+(1:Int))) else n0)),fun _=>(⟨#[]⟩:BA)⟩:Sq BA)).bind fun x_3=>onL x_3
    (fun a_4=>
    if 0≤a_4.2.1∧a_4.2.1<(a_4.2.2.n:Int) then
     if 0≤(IntKind.wrap .i64 (a_4.2.1+(1:Int)))∧(IntKind.wrap .i64 (a_4.2.1+(1:Int)))≤(a_4.2.2.n:Int) then
     k (⟨((Int.toNat (IntKind.wrap .i64 (a_4.2.1+(1:Int)))) - (Int.toNat (0:Int))),fun i=>(fun q=>if q=(Int.toNat a_4.2.1)∧q<a_4.2.2.n then a_4.1 else a_4.2.2.at' q) ((Int.toNat (0:Int))+i)⟩:Sq BA)
     else
     none
    else
     none)
    (fun _=>none)
    (fun _=>none)
   else
   none
  else
   none
def ss (n:Nat) (s sep:BA) (sepSave n0:Int):Option (Sq BA):=oq n s sep sepSave n0 some
theorem dR (n:Nat) {S:Type}:∀ s sep sepSave n0 (φ:_→Option S),(ss n s sep sepSave n0).bind φ=oq n s sep sepSave n0 φ:=by
 intros;unfold ss oq;first | (simp only [fa,ba,iB,bB,oL,oX,nB,Option.bind_some]) | rfl
def xj (n:Nat):Hint Out:={ live:=fun c=>(cond (Nat.beq c 0) [(0,none),(1,none),(2,none),(3,none),(9,some (.sl .str)),(10,none)] []),run:=fun c=>(cond (Nat.beq c 0) (some (Ms Nm Mm fun σ ρ K=>(Ob n n σ.1 σ.2.1 σ.2.2.1 σ.2.2.2.1 σ.2.2.2.2.1 ρ.1).bind (Hd K))) none),xm:=fun c q=>(cond (Nat.beq c 0&&Nat.beq (q.getD 1000000) 0&&q.isSome) (some [(0,none),(9,some (.sl .str)),(10,none)]) (cond (Nat.beq c 1&&Nat.beq (q.getD 1000000) 0&&q.isSome) (some [(0,none),(9,some (.sl .str)),(10,none)]) none)) }
def wj (n:Nat) (K:XE→List AV→ia→Option Out) (m:Nat) (s1:BA) (sep1:BA) (sepSave1:Int) (n01:Int) (i:Int) (a:(Sq BA)):Option Out:=Ef tys (da Out (Wr n)) (xj n) n (Fa [1,1,1,1,1,1,1,1,0,0,0] (aa Tryz.f168)) 0 Nm Mm K m (s1,(sep1,(sepSave1,(n01,(i,()))))) (a,())
theorem Mx (n:Nat) (K:XE→List AV→ia→Option Out):∀ (m:Nat) s1 sep1 sepSave1 n01 i a,wj n K m s1 sep1 sepSave1 n01 i a=(Ob n m s1 sep1 sepSave1 n01 i a).bind (Hd K)
 | 0,_,_,_,_,_,_=>by kernel_rfl
 | m+1,s1,sep1,sepSave1,n01,i,a=>by
  have h1:wj n K (m+1) s1 sep1 sepSave1 n01 i a=dh n s1 sep1 sepSave1 n01 i a (wj n K m) (fun a=>Hd K (.out a)) (fun a=>Hd K (.ret a)) (fun p=>Hd K (.pan p)):=by kernel_rfl
  have h2:wj n K m=fun s1 sep1 sepSave1 n01 i a=>(Ob n m s1 sep1 sepSave1 n01 i a).bind (Hd K):=by
   repeat (refine funext fun _=>?_)
   exact Mx n K m _ _ _ _ _ _
  rw [h1,h2];exact (MK n m _ _ _ _ _ _ (Hd K)).symm
theorem gJ (n:Nat):Pe tys (da Out (Wr n)) (xj n) n (Fa [1,1,1,1,1,1,1,1,0,0,0] (aa Tryz.f168)) 0:=Qa (sp:=Nm) (rp:=Mm) (by kernel_rfl) fun K σ ρ=>Mx n K n σ.1 σ.2.1 σ.2.2.1 σ.2.2.2.1 σ.2.2.2.2.1 ρ.1
theorem NK (n:Nat):ua tys (da Out (Wr n)) (xj n) n (aa Tryz.f168) 0:=⟨trivial,⟨⟨trivial,⟨⟨trivial,trivial⟩,trivial⟩⟩,⟨⟨trivial,⟨⟨trivial,trivial⟩,trivial⟩⟩,⟨⟨trivial,⟨trivial,trivial⟩⟩,⟨trivial,⟨trivial,⟨trivial,⟨trivial,⟨⟨gJ n,⟨⟨trivial,⟨trivial,trivial⟩⟩,⟨trivial,⟨⟨trivial,⟨trivial,trivial⟩⟩,⟨trivial,⟨trivial,trivial⟩⟩⟩⟩⟩⟩,⟨trivial,⟨trivial,trivial⟩⟩⟩⟩⟩⟩⟩⟩⟩⟩⟩
theorem gN (n:Nat):Enters Tryz.prog 168:=enters_of (c:=aa Tryz.f168) Tryz.func168 (by kernel_rfl) (by kernel_rfl)
def OD (n:Nat):Entry:=⟨168,pcT K2 (.one (.sl .str)) (fun xs=>ss n xs.1 xs.2.1 xs.2.2.1 xs.2.2.2.1),none,none⟩
theorem AO (n:Nat):EntryOk Tryz.prog gl (OD n):=
 Oa (gN n) fun xs y h=>ra tys_ok (MD n) mixed (hint:=xj n) (n:=n) Tryz.func168 (Na (NK n)) (la (φ:=(fun y=>some (Out.ret (Kf (.one (.sl .str)) y)))) (by kernel_rfl) (dR n xs.1 xs.2.1 xs.2.2.1 xs.2.2.2.1 _) h)
def Vu (n:Nat):List Entry:=OD n::Wr n
theorem Zv (n:Nat):AllOk Tryz.prog gl (Vu n):=.cons (AO n) (MD n)
def TB (n:Nat) {R:Type} (s sep:BA) (k:(Sq BA)→Option R):Option R:=
 (ss n s sep (0:Int) (-1:Int)).bind fun v=>
 k v
def SB (n:Nat) (s sep:BA):Option (Sq BA):=TB n s sep some
theorem WX (n:Nat) {S:Type}:∀ s sep (φ:_→Option S),(SB n s sep).bind φ=TB n s sep φ:=by
 intros;unfold SB TB;first | (simp only [fa,ba,iB,bB,oL,oX,nB,Option.bind_some]) | rfl
def NH (n:Nat):Hint Out:={ live:=fun c=>[],run:=fun c=>none,xm:=fun c q=>none }
theorem cR (n:Nat):ua tys (da Out (Vu n)) (NH n) n (aa Tryz.f151) 0:=ma (fun _=>rfl) _ _ (by kernel_rfl)
theorem vT (n:Nat):Enters Tryz.prog 151:=enters_of (c:=aa Tryz.f151) Tryz.func151 (by kernel_rfl) (by kernel_rfl)
def dN (n:Nat):Entry:=⟨151,pcT (.pair .str (.pair .str .unit)) (.one (.sl .str)) (fun xs=>SB n xs.1 xs.2.1),none,none⟩
theorem sV (n:Nat):EntryOk Tryz.prog gl (dN n):=
 Oa (vT n) fun xs y h=>ra tys_ok (Zv n) mixed (hint:=NH n) (n:=n) Tryz.func151 (Na (cR n)) (la (φ:=(fun y=>some (Out.ret (Kf (.one (.sl .str)) y)))) (by kernel_rfl) (WX n xs.1 xs.2.1 _) h)
def eN (n:Nat):List Entry:=dN n::Vu n
theorem zO (n:Nat):AllOk Tryz.prog gl (eN n):=.cons (sV n) (Zv n)
def Wh (n:Nat):List Entry:=⟨152,fun {R}=>sZ (R:=R) 208,none,none⟩::eN n
theorem Ut (n:Nat):AllOk Tryz.prog gl (Wh n):=.cons Q4 (zO n)
end
end Go.Proofs.YtddefjokgaajfaaGreatDoor.AM
