/- Typed functions that tell what the Go functions of this seat answer, and proofs of it, by program (gen.py). -/
import Derived.Test.YtddefjokgaajfaaGreatDoorRT
import Derived.Test.YtddefjokgaajfaaGreatDoorRB
import Derived.Test.YtddefjokgaajfaaGreatDoorRL
import Derived.Test.YtddefjokgaajfaaGreatDoorRM
import Derived.Test.YtddefjokgaajfaaGreatDoorRN
set_option linter.all false
set_option linter.unusedVariables false
set_option linter.unusedSimpArgs false
set_option maxRecDepth 1000000
set_option maxHeartbeats 0
namespace Go.Proofs.YtddefjokgaajfaaGreatDoor.AM
open Go Go.RowKit
noncomputable section
abbrev K0:CTy:=(.pair (.pair .str (.pair .bool .unit)) (.pair (.sl (.pair .str (.pair .bool .unit))) .unit))
abbrev K1:CTy:=(.pair (.pair .str (.pair .bool .unit)) (.pair (.sl (.int .u8)) .unit))
abbrev K2:CTy:=(.pair .str (.pair .str (.pair (.int .i64) (.pair (.int .i64) .unit))))
abbrev K3:CTy:=(.pair (.pair .str (.pair .str .unit)) (.pair .bool (.pair (.int .i64) .unit)))
abbrev K4:CTy:=(.pair .bool (.pair (.sl (.int .i64)) (.pair (.sl (.sl (.int .u8))) .unit)))
abbrev K5:CTy:=(.pair K4 .unit)
abbrev U0:Type:=(Bool×(Sq Int)×BA×Bool×BA×BA×Bool×BA×(Sq BA)×(Sq BA)×Unit)
abbrev U1:Type:=(BA×(Bool×Unit))
abbrev U2:Type:=(BA×Bool×(Sq Int)×BA×Bool×BA×BA×Bool×BA×(Sq BA)×(Sq BA)×Unit)
abbrev U3:Type:=(Bool×(Sq Int)×BA×Bool×BA×(Sq BA)×BA×Bool×BA×(Sq BA)×Unit)
abbrev U4:Type:=(Bool×(Sq Int)×BA×Bool×BA×BA×Bool×BA×(Sq BA)×(Sq BA)×(Sq BA)×Unit)
abbrev U5:Type:=(Bool×Bool×(Sq Int)×BA×Bool×BA×(Sq BA)×BA×Bool×BA×(Sq BA)×Unit)
abbrev U6:Type:=(Bool×Bool×(Sq Int)×BA×Bool×BA×BA×Bool×BA×(Sq BA)×(Sq BA)×Unit)
abbrev U7:Type:=(Bool×(Sq Int)×BA×Bool×BA×(Sq BA)×BA×Bool×BA×(Sq BA))
abbrev U8:Type:=(Bool×(Sq Int)×BA×Bool×BA×BA×Bool×BA×(Sq BA)×(Sq BA))
abbrev U9:Type:=((Sq Int)×Unit)
abbrev KL:Type:=(BA×(BA×Unit))
abbrev LL:Type:=(Int×(Sq Int)×Unit)
def CK (n:Nat):List Entry:=[]
theorem sG (n:Nat):AllOk Tryz.prog gl (CK n):=.nil
def sm (n:Nat) {R:Type} (i n0:Int) (k:Int→Option R):Option R:=
 if (IntKind.wrap .u64 n0)=0 then
 none
 else
 k (IntKind.wrap .i64 (Int.tmod (IntKind.wrap .u64 i) (IntKind.wrap .u64 n0)))
def ib (n:Nat) (i n0:Int):Option Int:=sm n i n0 some
theorem cE (n:Nat) {S:Type}:∀ i n0 (φ:_→Option S),(ib n i n0).bind φ=sm n i n0 φ:=by
 intros;unfold ib sm;first | (simp only [ia,da,iB,bB,oL,oX,nB,Option.bind_some]) | rfl
def zr (n:Nat):Hint Out:={ live:=fun c=>[],run:=fun c=>none,xm:=fun c q=>none }
theorem Gz (n:Nat):qa tys (fa Out (CK n)) (zr n) n (ba Tryz.f22) 0:=ma (fun _=>rfl) _ _ (by kernel_rfl)
theorem oB (n:Nat):Enters Tryz.prog 22:=enters_of (c:=ba Tryz.f22) Tryz.func22 (by kernel_rfl) (by kernel_rfl)
def Xv (n:Nat):Entry:=⟨22,qM (.pair (.int .i64) (.pair (.int .i64) .unit)) (.one (.int .i64)) (fun xs=>ib n xs.1 xs.2.1),none,none⟩
theorem TC (n:Nat):EntryOk Tryz.prog gl (Xv n):=
 Ma (oB n) fun xs y h=>ra tys_ok (sG n) mixed (hint:=zr n) (n:=n) Tryz.func22 (Ga (Gz n)) (pa (φ:=(fun y=>some (Out.ret (ch (.one (.int .i64)) y)))) (by kernel_rfl) (cE n xs.1 xs.2.1 _) h)
def Yv (n:Nat):List Entry:=Xv n::CK n
theorem Hy (n:Nat):AllOk Tryz.prog gl (Yv n):=.cons (TC n) (sG n)
def rd (n:Nat):List Entry:=gg::Yv n
theorem ae (n:Nat):AllOk Tryz.prog gl (rd n):=.cons lm (Hy n)
def Gl (n:Nat) {R:Type} (lmtp:Bool) (r0:(Sq Int)) (k:U0→Option R):Option R:=
 (Iv 8 r0).bind fun v=>
 k (lmtp,(v.1,((⟨#[]⟩:BA),(false,((⟨#[]⟩:BA),((⟨#[]⟩:BA),(false,((⟨#[]⟩:BA),((⟨0,fun _=>Na .str⟩:Sq BA),((⟨0,fun _=>Na .str⟩:Sq BA),()))))))))))
def Dg (n:Nat) (lmtp:Bool) (r0:(Sq Int)):Option U0:=Gl n lmtp r0 some
theorem LA (n:Nat) {S:Type}:∀ lmtp r0 (φ:_→Option S),(Dg n lmtp r0).bind φ=Gl n lmtp r0 φ:=by
 intros;unfold Dg Gl;first | (simp only [ia,da,iB,bB,oL,oX,nB,Option.bind_some]) | rfl
def zm (n:Nat):Hint OutS:={ live:=fun c=>[],run:=fun c=>none,xm:=fun c q=>none,nb:=[(71,1,.frz (.int .i64)),(71,5,.prm 9),(71,8,.prm 9)],na:=true }
theorem jw (n:Nat):qa tys (fa OutS (rd n)).keep (zm n) n (ba Tryz.f9) 0:=ma (fun _=>rfl) _ _ (by kernel_rfl)
theorem Rx (n:Nat):Enters Tryz.prog 9:=enters_of (c:=ba Tryz.f9) Tryz.func9 (by kernel_rfl) (by kernel_rfl)
def jr:List RSp:=[.one (.dat .bool),.one (.row 0)]
def ir:List RS:=[.row 3 1 (.int .i64) false false]
def Sx:List Sl:=[.top,.top]
def Tx:List RSp:=[.one (.ptr 0 0 0)]
def Cf:List RS:=[.box 71 10 false [.dat .bool,.dat (.sl (.int .i64)),.dat .str,.dat .bool,.dat .str,.row 1,.dat .str,.dat .bool,.row 2,.dat .str],.row 9 1 .str true true,.row 9 1 .str true true]
def Hl (y:U0):OutS:=⟨false,Bi (Hb Cf ((y.1,(y.2.1,(y.2.2.1,(y.2.2.2.1,(y.2.2.2.2.1,(y.2.2.2.2.2.1,(y.2.2.2.2.2.2.1,(y.2.2.2.2.2.2.2.1,())))))))),(y.2.2.2.2.2.2.2.2.1,(y.2.2.2.2.2.2.2.2.2.1,())))) Sx (),Pq (Wp (Hb Cf ((y.1,(y.2.1,(y.2.2.1,(y.2.2.2.1,(y.2.2.2.2.1,(y.2.2.2.2.2.1,(y.2.2.2.2.2.2.1,(y.2.2.2.2.2.2.2.1,())))))))),(y.2.2.2.2.2.2.2.2.1,(y.2.2.2.2.2.2.2.2.2.1,())))) Tx ((),())),Nk (Hb Cf ((y.1,(y.2.1,(y.2.2.1,(y.2.2.2.1,(y.2.2.2.2.1,(y.2.2.2.2.2.1,(y.2.2.2.2.2.2.1,(y.2.2.2.2.2.2.2.1,())))))))),(y.2.2.2.2.2.2.2.2.1,(y.2.2.2.2.2.2.2.2.2.1,())))) Cf ((y.1,(y.2.1,(y.2.2.1,(y.2.2.2.1,(y.2.2.2.2.1,(y.2.2.2.2.2.1,(y.2.2.2.2.2.2.1,(y.2.2.2.2.2.2.2.1,())))))))),(y.2.2.2.2.2.2.2.2.1,(y.2.2.2.2.2.2.2.2.2.1,())))⟩
theorem lz (n:Nat):EntryOk Tryz.prog gl ⟨9,Ud,none,some (QL jr ir (fun σ ρ=>Dg n σ.1.1 ρ.1) Hl)⟩:=
 Hc (Rx n) fun σ ρ y h=>Ja tys_ok (ae n) mixed (hint:=zm n) (n:=n) Tryz.func9 (Ga (jw n)) (pa (φ:=fun y=>some (Hl y)) (by kernel_rfl) (LA n σ.1.1 ρ.1 _) h)
def gr (n:Nat):List Entry:=⟨9,Ud,none,some (QL jr ir (fun σ ρ=>Dg n σ.1.1 ρ.1) Hl)⟩::rd n
theorem Tu (n:Nat):AllOk Tryz.prog gl (gr n):=.cons (lz n) (ae n)
def Ur (n:Nat):List Entry:=⟨118,qM (.pair .str (.pair .str .unit)) (.one (.int .i64)) (fun xs=>iC xs.1 xs.2.1),none,none⟩::gr n
theorem er (n:Nat):AllOk Tryz.prog gl (Ur n):=.cons DG (Tu n)
def EA (n:Nat) {R:Type} (s sep:BA) (k:(BA×BA×Bool×Unit)→Option R):Option R:=
 (iC s sep).bind fun v=>
 if (decide (v≥(0:Int)))=true then
 if 0≤v∧v≤(s.size:Int) then
  if 0≤(IntKind.wrap .i64 (v+(sep.size:Int)))∧(IntKind.wrap .i64 (v+(sep.size:Int)))≤(s.size:Int) then
  k ((s.extract (Int.toNat (0:Int)) (Int.toNat v)),((s.extract (Int.toNat (IntKind.wrap .i64 (v+(sep.size:Int)))) (Int.toNat (s.size:Int))),(true,())))
  else
  none
 else
  none
 else
 k (s,((⟨#[]⟩:BA),(false,())))
def AE (n:Nat) (s sep:BA):Option (BA×BA×Bool×Unit):=EA n s sep some
theorem qH (n:Nat) {S:Type}:∀ s sep (φ:_→Option S),(AE n s sep).bind φ=EA n s sep φ:=by
 intros;unfold AE EA;first | (simp only [ia,da,iB,bB,oL,oX,nB,Option.bind_some]) | rfl
def Ex (n:Nat):Hint Out:={ live:=fun c=>[],run:=fun c=>none,xm:=fun c q=>none }
theorem AD (n:Nat):qa tys (fa Out (Ur n)) (Ex n) n (ba Tryz.f89) 0:=ma (fun _=>rfl) _ _ (by kernel_rfl)
theorem wF (n:Nat):Enters Tryz.prog 89:=enters_of (c:=ba Tryz.f89) Tryz.func89 (by kernel_rfl) (by kernel_rfl)
def gC (n:Nat):Entry:=⟨89,qM (.pair .str (.pair .str .unit)) (.many (.pair .str (.pair .str (.pair .bool .unit)))) (fun xs=>AE n xs.1 xs.2.1),none,none⟩
theorem BG (n:Nat):EntryOk Tryz.prog gl (gC n):=
 Ma (wF n) fun xs y h=>ra tys_ok (er n) mixed (hint:=Ex n) (n:=n) Tryz.func89 (Ga (AD n)) (pa (φ:=(fun y=>some (Out.ret (ch (.many (.pair .str (.pair .str (.pair .bool .unit)))) y)))) (by kernel_rfl) (qH n xs.1 xs.2.1 _) h)
def Dx (n:Nat):List Entry:=gC n::Ur n
theorem Ov (n:Nat):AllOk Tryz.prog gl (Dx n):=.cons (BG n) (er n)
def gB (n:Nat) {R:Type} (s sep:BA) (k:(BA×BA×Bool×Unit)→Option R):Option R:=
 (AE n s sep).bind fun v=>
 k (v.1,(v.2.1,(v.2.2.1,())))
def RE (n:Nat) (s sep:BA):Option (BA×BA×Bool×Unit):=gB n s sep some
theorem EH (n:Nat) {S:Type}:∀ s sep (φ:_→Option S),(RE n s sep).bind φ=gB n s sep φ:=by
 intros;unfold RE gB;first | (simp only [ia,da,iB,bB,oL,oX,nB,Option.bind_some]) | rfl
def uy (n:Nat):Hint Out:={ live:=fun c=>[],run:=fun c=>none,xm:=fun c q=>none }
theorem WD (n:Nat):qa tys (fa Out (Dx n)) (uy n) n (ba Tryz.f52) 0:=ma (fun _=>rfl) _ _ (by kernel_rfl)
theorem LF (n:Nat):Enters Tryz.prog 52:=enters_of (c:=ba Tryz.f52) Tryz.func52 (by kernel_rfl) (by kernel_rfl)
def KC (n:Nat):Entry:=⟨52,qM (.pair .str (.pair .str .unit)) (.many (.pair .str (.pair .str (.pair .bool .unit)))) (fun xs=>RE n xs.1 xs.2.1),none,none⟩
theorem YG (n:Nat):EntryOk Tryz.prog gl (KC n):=
 Ma (LF n) fun xs y h=>ra tys_ok (Ov n) mixed (hint:=uy n) (n:=n) Tryz.func52 (Ga (WD n)) (pa (φ:=(fun y=>some (Out.ret (ch (.many (.pair .str (.pair .str (.pair .bool .unit)))) y)))) (by kernel_rfl) (EH n xs.1 xs.2.1 _) h)
def sy (n:Nat):List Entry:=KC n::Dx n
theorem Wv (n:Nat):AllOk Tryz.prog gl (sy n):=.cons (YG n) (Ov n)
def nk (n:Nat) {R:Type} (s suffix:BA) (k:Bool→Option R):Option R:=
 if (decide ((s.size:Int)≥(suffix.size:Int)))=true then
 if 0≤(IntKind.wrap .i64 ((s.size:Int) - (suffix.size:Int)))∧(IntKind.wrap .i64 ((s.size:Int) - (suffix.size:Int)))≤(s.size:Int) then
  k ((s.extract (Int.toNat (IntKind.wrap .i64 ((s.size:Int) - (suffix.size:Int)))) (Int.toNat (s.size:Int))).toList==suffix.toList)
 else
  none
 else
 k false
def yj (n:Nat) (s suffix:BA):Option Bool:=nk n s suffix some
theorem iz (n:Nat) {S:Type}:∀ s suffix (φ:_→Option S),(yj n s suffix).bind φ=nk n s suffix φ:=by
 intros;unfold yj nk;first | (simp only [ia,da,iB,bB,oL,oX,nB,Option.bind_some]) | rfl
def Pk (n:Nat):Hint Out:={ live:=fun c=>[],run:=fun c=>none,xm:=fun c q=>none }
theorem Ou (n:Nat):qa tys (fa Out (sy n)) (Pk n) n (ba Tryz.f95) 0:=ma (fun _=>rfl) _ _ (by kernel_rfl)
theorem dw (n:Nat):Enters Tryz.prog 95:=enters_of (c:=ba Tryz.f95) Tryz.func95 (by kernel_rfl) (by kernel_rfl)
def Yn (n:Nat):Entry:=⟨95,qM (.pair .str (.pair .str .unit)) (.one .bool) (fun xs=>yj n xs.1 xs.2.1),none,none⟩
theorem Gx (n:Nat):EntryOk Tryz.prog gl (Yn n):=
 Ma (dw n) fun xs y h=>ra tys_ok (Wv n) mixed (hint:=Pk n) (n:=n) Tryz.func95 (Ga (Ou n)) (pa (φ:=(fun y=>some (Out.ret (ch (.one .bool) y)))) (by kernel_rfl) (iz n xs.1 xs.2.1 _) h)
def Oi (n:Nat):List Entry:=Yn n::sy n
theorem zj (n:Nat):AllOk Tryz.prog gl (Oi n):=.cons (Gx n) (Wv n)
def Ek (n:Nat) {R:Type} (s suffix:BA) (k:Bool→Option R):Option R:=
 (yj n s suffix).bind fun v=>
 k v
def Lb (n:Nat) (s suffix:BA):Option Bool:=Ek n s suffix some
theorem Bz (n:Nat) {S:Type}:∀ s suffix (φ:_→Option S),(Lb n s suffix).bind φ=Ek n s suffix φ:=by
 intros;unfold Lb Ek;first | (simp only [ia,da,iB,bB,oL,oX,nB,Option.bind_some]) | rfl
def rl (n:Nat):Hint Out:={ live:=fun c=>[],run:=fun c=>none,xm:=fun c q=>none }
theorem tv (n:Nat):qa tys (fa Out (Oi n)) (rl n) n (ba Tryz.f59) 0:=ma (fun _=>rfl) _ _ (by kernel_rfl)
theorem Ew (n:Nat):Enters Tryz.prog 59:=enters_of (c:=ba Tryz.f59) Tryz.func59 (by kernel_rfl) (by kernel_rfl)
def Lp (n:Nat):Entry:=⟨59,qM (.pair .str (.pair .str .unit)) (.one .bool) (fun xs=>Lb n xs.1 xs.2.1),none,none⟩
theorem Mp (n:Nat):EntryOk Tryz.prog gl (Lp n):=
 Ma (Ew n) fun xs y h=>ra tys_ok (zj n) mixed (hint:=rl n) (n:=n) Tryz.func59 (Ga (tv n)) (pa (φ:=(fun y=>some (Out.ret (ch (.one .bool) y)))) (by kernel_rfl) (Bz n xs.1 xs.2.1 _) h)
def lj (n:Nat):List Entry:=Lp n::Oi n
theorem Sj (n:Nat):AllOk Tryz.prog gl (lj n):=.cons (Mp n) (zj n)
def Sr (n:Nat) {R:Type} (f:U1) (k:U1→Option R):Option R:=
 if (!f.2.1)=true then
 if (decide ((f.1.size:Int)<(512:Int)))=true then
  k (f.1,(f.2.1,()))
 else
  (Lb n f.1 (⟨#[13]⟩:BA)).bind fun v=>
  if v=true then
  k ((⟨#[13]⟩:BA),(true,()))
  else
  k ((⟨#[]⟩:BA),(true,()))
 else
 (Lb n f.1 (⟨#[13]⟩:BA)).bind fun v1=>
 if v1=true then
  k ((⟨#[13]⟩:BA),(true,()))
 else
  k ((⟨#[]⟩:BA),(true,()))
def Kt (n:Nat) (f:U1):Option U1:=Sr n f some
theorem yD (n:Nat) {S:Type}:∀ f (φ:_→Option S),(Kt n f).bind φ=Sr n f φ:=by
 intros;unfold Kt Sr;first | (simp only [ia,da,iB,bB,oL,oX,nB,Option.bind_some]) | rfl
def dr (n:Nat):Hint Out:={ live:=fun c=>[],run:=fun c=>none,xm:=fun c q=>none }
theorem dz (n:Nat):qa tys (fa Out (lj n)) (dr n) n (ba Tryz.f53) 0:=ma (fun _=>rfl) _ _ (by kernel_rfl)
theorem AA (n:Nat):Enters Tryz.prog 53:=enters_of (c:=ba Tryz.f53) Tryz.func53 (by kernel_rfl) (by kernel_rfl)
def Nv (n:Nat):Entry:=⟨53,qM (.pair (.pair .str (.pair .bool .unit)) .unit) (.one (.pair .str (.pair .bool .unit))) (fun xs=>Kt n xs.1),none,none⟩
theorem bC (n:Nat):EntryOk Tryz.prog gl (Nv n):=
 Ma (AA n) fun xs y h=>ra tys_ok (Sj n) mixed (hint:=dr n) (n:=n) Tryz.func53 (Ga (dz n)) (pa (φ:=(fun y=>some (Out.ret (ch (.one (.pair .str (.pair .bool .unit))) y)))) (by kernel_rfl) (yD n xs.1 _) h)
def Rn (n:Nat):List Entry:=Nv n::lj n
theorem Sn (n:Nat):AllOk Tryz.prog gl (Rn n):=.cons (bC n) (Sj n)
def Tn (n:Nat) {R:Type} (s:BA) (skip:Bool) (k:U1→Option R):Option R:=
 if skip=false then
 if (decide ((IntKind.wrap .i64 ((s.size:Int)+(2:Int)))>(512:Int)))=true then
  k ((⟨#[]⟩:BA),(true,()))
 else
  k (s,(false,()))
 else
 k ((⟨#[]⟩:BA),(true,()))
def Yp (n:Nat) (s:BA) (skip:Bool):Option U1:=Tn n s skip some
theorem cC (n:Nat) {S:Type}:∀ s skip (φ:_→Option S),(Yp n s skip).bind φ=Tn n s skip φ:=by
 intros;unfold Yp Tn;first | (simp only [ia,da,iB,bB,oL,oX,nB,Option.bind_some]) | rfl
def Un (n:Nat):Hint Out:={ live:=fun c=>[],run:=fun c=>none,xm:=fun c q=>none }
theorem Ax (n:Nat):qa tys (fa Out (Rn n)) (Un n) n (ba Tryz.f54) 0:=ma (fun _=>rfl) _ _ (by kernel_rfl)
theorem ez (n:Nat):Enters Tryz.prog 54:=enters_of (c:=ba Tryz.f54) Tryz.func54 (by kernel_rfl) (by kernel_rfl)
def Lt (n:Nat):Entry:=⟨54,qM (.pair .str (.pair .bool .unit)) (.one (.pair .str (.pair .bool .unit))) (fun xs=>Yp n xs.1 xs.2.1),none,none⟩
theorem CA (n:Nat):EntryOk Tryz.prog gl (Lt n):=
 Ma (ez n) fun xs y h=>ra tys_ok (Sn n) mixed (hint:=Un n) (n:=n) Tryz.func54 (Ga (Ax n)) (pa (φ:=(fun y=>some (Out.ret (ch (.one (.pair .str (.pair .bool .unit))) y)))) (by kernel_rfl) (cC n xs.1 xs.2.1 _) h)
def Bf (n:Nat):List Entry:=Lt n::Rn n
theorem vm (n:Nat):AllOk Tryz.prog gl (Bf n):=.cons (CA n) (Sn n)
def vj (n:Nat) {R:Type} (all:BA) (skip:Bool) (t4:BA) (t41:Bool) (l:(Sq U1)) (kn:BA→Bool→BA→Bool→(Sq U1)→Option R) (ko:Unit→Option R) (kr:(BA×Bool×(Sq U1))→Option R) (kp:Int→Option R):Option R:=
 (RE n all (⟨#[13,10]⟩:BA)).bind fun v=>
 if (!v.2.2.1)=true then
 (Kt n (all,(skip,()))).bind fun v1=>
 kr (v1.1,v1.2.1,l)
 else
 (Yp n v.1 skip).bind fun v2=>
 if Pd (l.n+1) 24=true then
  kn v.2.1 false t4 t41 (⟨(l.n+1),fun q=>if q<l.n then l.at' q else (fun q=>List.getD (α:=U1) [(v2.1,(v2.2.1,()))] q (Na (.pair .str (.pair .bool .unit)))) (q - l.n)⟩:Sq U1)
 else
  none
def Sc (n:Nat):Nat→BA→Bool→BA→Bool→(Sq U1)→Option (Lx Unit (BA×Bool×(Sq U1)))
 | 0,_,_,_,_,_=>none
 | m+1,all,skip,t4,t41,l=>vj n all skip t4 t41 l (Sc n m) (fun a=>some (.out a)) (fun a=>some (.ret a)) (fun p=>some (.pan p))
theorem bz (n m:Nat) {S:Type}:∀ all skip t4 t41 l (φ:_→Option S),(Sc n (m+1) all skip t4 t41 l).bind φ=vj n all skip t4 t41 l (fun all skip t4 t41 l=>(Sc n m all skip t4 t41 l).bind φ) (fun a=>φ (.out a)) (fun a=>φ (.ret a)) (fun p=>φ (.pan p)):=by
 intros;first | (simp only [Sc,vj,ia,da,iB,bB,oL,oX,nB,Option.bind_some]) | rfl
def Mi:List Sl:=tp 4 (.ptr 0 0 0::.top::.row 1::.dat .str::.dat .bool::tp 30 [])
def Li:List RS:=[.box 45 2 true [.dat .str,.dat .bool],.row 60 2 (.pair .str (.pair .bool .unit)) true false]
def Qr:List Sl:=tp 4 (.ptr 0 0 0::.row 1::tp 33 [])
def Pr:List RS:=[.box 45 2 true [.dat .str,.dat .bool],.row 60 2 (.pair .str (.pair .bool .unit)) true false]
def Gc (K:XE→List AV→ea→Option Out):Lx Unit (BA×Bool×(Sq U1))→Option Out:=fun x=>lM x (fun _=>none) (fun a=>Ky Qr Pr () ((a.1,(a.2.1,())),(a.2.2,())) (K .ret)) (fun _=>none)
def Nr (n:Nat) {R:Type} (f:U1) (b:(Sq Int)) (k:(U1×(Sq U1)×Unit)→Option R):Option R:=
 if Wa f.1 (Fz b.n b.at')=true then
 (Sc n n (f.1++(Fz b.n b.at')) f.2.1 (⟨#[]⟩:BA) false (⟨0,fun _=>Na (.pair .str (.pair .bool .unit))⟩:Sq U1)).bind fun x_1=>lM x_1
  (fun _=>none)
  (fun a_2=>
  k ((a_2.1,(a_2.2.1,())),(a_2.2.2,())))
  (fun _=>none)
 else
 none
def On (n:Nat) (f:U1) (b:(Sq Int)):Option (U1×(Sq U1)×Unit):=Nr n f b some
theorem xD (n:Nat) {S:Type}:∀ f b (φ:_→Option S),(On n f b).bind φ=Nr n f b φ:=by
 intros;unfold On Nr;first | (simp only [ia,da,iB,bB,oL,oX,nB,Option.bind_some]) | rfl
def Wg (n:Nat):Hint Out:={ live:=fun c=>(cond (Nat.beq c 0) [(4,none),(6,some (.sl (.pair .str (.pair .bool .unit)))),(7,none),(8,none)] []),run:=fun c=>(cond (Nat.beq c 0) (some (XA Mi Li fun σ ρ K=>(Sc n n σ.1 σ.2.1 ρ.1.1 ρ.1.2.1 ρ.2.1).bind (Gc K))) none),xm:=fun c q=>(cond (Nat.beq c 1&&q.isNone) (some [(4,none),(5,some (.sl (.pair .str (.pair .bool .unit))))]) none) }
def Vg (n:Nat) (K:XE→List AV→ea→Option Out) (m:Nat) (all:BA) (skip:Bool) (t4:BA) (t41:Bool) (l:(Sq U1)):Option Out:=lq tys (fa Out (Bf n)) (Wg n) n (La [1,1,1,1,0,0] (ba Tryz.f34)) 0 Mi Li K m (all,(skip,())) ((t4,(t41,())),(l,()))
theorem br (n:Nat) (K:XE→List AV→ea→Option Out):∀ (m:Nat) all skip t4 t41 l,Vg n K m all skip t4 t41 l=(Sc n m all skip t4 t41 l).bind (Gc K)
 | 0,_,_,_,_,_=>by kernel_rfl
 | m+1,all,skip,t4,t41,l=>by
  have h1:Vg n K (m+1) all skip t4 t41 l=vj n all skip t4 t41 l (Vg n K m) (fun a=>Gc K (.out a)) (fun a=>Gc K (.ret a)) (fun p=>Gc K (.pan p)):=by kernel_rfl
  have h2:Vg n K m=fun all skip t4 t41 l=>(Sc n m all skip t4 t41 l).bind (Gc K):=by
   repeat (refine funext fun _=>?_)
   exact br n K m _ _ _ _ _
  rw [h1,h2];exact (bz n m _ _ _ _ _ (Gc K)).symm
theorem zx (n:Nat):Im tys (fa Out (Bf n)) (Wg n) n (La [1,1,1,1,0,0] (ba Tryz.f34)) 0:=Mc (sp:=Mi) (rp:=Li) (by kernel_rfl) fun K σ ρ=>br n K n σ.1 σ.2.1 ρ.1.1 ρ.1.2.1 ρ.2.1
theorem cz (n:Nat):qa tys (fa Out (Bf n)) (Wg n) n (ba Tryz.f34) 0:=⟨trivial,⟨trivial,⟨trivial,⟨trivial,⟨zx n,⟨trivial,⟨⟨trivial,⟨⟨trivial,trivial⟩,trivial⟩⟩,⟨trivial,trivial⟩⟩⟩⟩⟩⟩⟩⟩
theorem yA (n:Nat):Enters Tryz.prog 34:=enters_of (c:=ba Tryz.f34) Tryz.func34 (by kernel_rfl) (by kernel_rfl)
def Mv (n:Nat):Entry:=⟨34,qM K1 (.many K0) (fun xs=>On n xs.1 xs.2.1),none,none⟩
theorem aC (n:Nat):EntryOk Tryz.prog gl (Mv n):=
 Ma (yA n) fun xs y h=>ra tys_ok (vm n) mixed (hint:=Wg n) (n:=n) Tryz.func34 (Ga (cz n)) (pa (φ:=(fun y=>some (Out.ret (ch (.many K0) y)))) (by kernel_rfl) (xD n xs.1 xs.2.1 _) h)
def Pn (n:Nat):List Entry:=Mv n::Bf n
theorem Qn (n:Nat):AllOk Tryz.prog gl (Pn n):=.cons (aC n) (vm n)
def bp (n:Nat) {R:Type} (code:Int) (k:BA→Option R):Option R:=
 if (code==(220:Int))=true then
 k (⟨#[104,101,114,101]⟩:BA)
 else
 if (code==(250:Int))=true then
  k (⟨#[111,107]⟩:BA)
 else
  if (code==(354:Int))=true then
  k (⟨#[103,111,32,111,110]⟩:BA)
  else
  if (code==(221:Int))=true then
   k (⟨#[98,121,101]⟩:BA)
  else
   if (code==(500:Int))=true then
   k (⟨#[119,104,97,116,63]⟩:BA)
   else
   if (code==(503:Int))=true then
    k (⟨#[110,111,116,32,121,101,116]⟩:BA)
   else
    k (⟨#[110,111]⟩:BA)
def aq (n:Nat) (code:Int):Option BA:=bp n code some
theorem vC (n:Nat) {S:Type}:∀ code (φ:_→Option S),(aq n code).bind φ=bp n code φ:=by
 intros;unfold aq bp;first | (simp only [ia,da,iB,bB,oL,oX,nB,Option.bind_some]) | rfl
def dp (n:Nat):Hint Out:={ live:=fun c=>[],run:=fun c=>none,xm:=fun c q=>none }
theorem Yx (n:Nat):qa tys (fa Out (Pn n)) (dp n) n (ba Tryz.f51) 0:=ma (fun _=>rfl) _ _ (by kernel_rfl)
theorem oz (n:Nat):Enters Tryz.prog 51:=enters_of (c:=ba Tryz.f51) Tryz.func51 (by kernel_rfl) (by kernel_rfl)
def Xt (n:Nat):Entry:=⟨51,qM (.pair (.int .i64) .unit) (.one .str) (fun xs=>aq n xs.1),none,none⟩
theorem OA (n:Nat):EntryOk Tryz.prog gl (Xt n):=
 Ma (oz n) fun xs y h=>ra tys_ok (Qn n) mixed (hint:=dp n) (n:=n) Tryz.func51 (Ga (Yx n)) (pa (φ:=(fun y=>some (Out.ret (ch (.one .str) y)))) (by kernel_rfl) (vC n xs.1 _) h)
def Vf (n:Nat):List Entry:=Xt n::Pn n
theorem Cm (n:Nat):AllOk Tryz.prog gl (Vf n):=.cons (OA n) (Qn n)
def Yg (n:Nat) {R:Type} (s1:BA) (t5 t6:Int) (kn:BA→Int→Int→Option R) (ko:(BA)→Option R) (kr:(Bool)→Option R) (kp:Int→Option R):Option R:=
 if (decide (t6<t5))=true then
 if 0≤t6∧t6<(s1.size:Int) then
  if (decide ((bt s1 t6)<(32:Int)))=false then
  if 0≤t6∧t6<(s1.size:Int) then
   if (decide ((bt s1 t6)>(126:Int)))=true then
   kr false
   else
   kn s1 t5 (IntKind.wrap .i64 (t6+(1:Int)))
  else
   none
  else
  kr false
 else
  none
 else
 ko s1
def Kb (n:Nat):Nat→BA→Int→Int→Option (Lx (BA) (Bool))
 | 0,_,_,_=>none
 | m+1,s1,t5,t6=>Yg n s1 t5 t6 (Kb n m) (fun a=>some (.out a)) (fun a=>some (.ret a)) (fun p=>some (.pan p))
theorem pw (n m:Nat) {S:Type}:∀ s1 t5 t6 (φ:_→Option S),(Kb n (m+1) s1 t5 t6).bind φ=Yg n s1 t5 t6 (fun s1 t5 t6=>(Kb n m s1 t5 t6).bind φ) (fun a=>φ (.out a)) (fun a=>φ (.ret a)) (fun p=>φ (.pan p)):=by
 intros;first | (simp only [Kb,Yg,ia,da,iB,bB,oL,oX,nB,Option.bind_some]) | rfl
def Ig:List Sl:=.dat .str::tp 4 (.dat (.int .i64)::.dat (.int .i64)::tp 16 [])
def Hg:List RS:=[]
def lp:List Sl:=.dat .str::tp 22 []
def jp:List RS:=[]
def pp:List Sl:=.top::.top::.dat .bool::tp 20 []
def np:List RS:=[]
def Bb (K:XE→List AV→ea→Option Out):Lx (BA) (Bool)→Option Out:=fun x=>lM x (fun a=>Ky lp jp (a,()) () (K (.exit 0))) (fun a=>Ky pp np (a,()) () (K .ret)) (fun _=>none)
def fm (n:Nat) {R:Type} (s:BA) (k:Bool→Option R):Option R:=
 (Kb n n s (s.size:Int) (0:Int)).bind fun x_1=>lM x_1
 (fun a_2=>
  k (decide ((a_2.size:Int)≤(506:Int))))
 (fun a_3=>
  k a_3)
 (fun _=>none)
def em (n:Nat) (s:BA):Option Bool:=fm n s some
theorem VA (n:Nat) {S:Type}:∀ s (φ:_→Option S),(em n s).bind φ=fm n s φ:=by
 intros;unfold em fm;first | (simp only [ia,da,iB,bB,oL,oX,nB,Option.bind_some]) | rfl
def Ge (n:Nat):Hint Out:={ live:=fun c=>(cond (Nat.beq c 0) (lv [0,5,6]) []),run:=fun c=>(cond (Nat.beq c 0) (some (XA Ig Hg fun σ ρ K=>(Kb n n σ.1 σ.2.1 σ.2.2.1).bind (Bb K))) none),xm:=fun c q=>(cond (Nat.beq c 0&&Nat.beq (q.getD 1000000) 0&&q.isSome) (some [(0,none)]) (cond (Nat.beq c 1&&q.isNone) (some [(2,none)]) none)) }
def Fe (n:Nat) (K:XE→List AV→ea→Option Out) (m:Nat) (s1:BA) (t5:Int) (t6:Int):Option Out:=lq tys (fa Out (Vf n)) (Ge n) n (La [1,0,1,0,0] (ba Tryz.f115)) 0 Ig Hg K m (s1,(t5,(t6,()))) ()
theorem Fm (n:Nat) (K:XE→List AV→ea→Option Out):∀ (m:Nat) s1 t5 t6,Fe n K m s1 t5 t6=(Kb n m s1 t5 t6).bind (Bb K)
 | 0,_,_,_=>by kernel_rfl
 | m+1,s1,t5,t6=>by
  have h1:Fe n K (m+1) s1 t5 t6=Yg n s1 t5 t6 (Fe n K m) (fun a=>Bb K (.out a)) (fun a=>Bb K (.ret a)) (fun p=>Bb K (.pan p)):=by kernel_rfl
  have h2:Fe n K m=fun s1 t5 t6=>(Kb n m s1 t5 t6).bind (Bb K):=by
   repeat (refine funext fun _=>?_)
   exact Fm n K m _ _ _
  rw [h1,h2];exact (pw n m _ _ _ (Bb K)).symm
theorem Zu (n:Nat):Im tys (fa Out (Vf n)) (Ge n) n (La [1,0,1,0,0] (ba Tryz.f115)) 0:=Mc (sp:=Ig) (rp:=Hg) (by kernel_rfl) fun K σ ρ=>Fm n K n σ.1 σ.2.1 σ.2.2.1
theorem qw (n:Nat):qa tys (fa Out (Vf n)) (Ge n) n (ba Tryz.f115) 0:=⟨trivial,⟨⟨trivial,⟨Zu n,⟨trivial,⟨⟨trivial,trivial⟩,⟨⟨trivial,⟨trivial,⟨⟨trivial,trivial⟩,trivial⟩⟩⟩,trivial⟩⟩⟩⟩⟩,⟨trivial,trivial⟩⟩⟩
theorem iy (n:Nat):Enters Tryz.prog 115:=enters_of (c:=ba Tryz.f115) Tryz.func115 (by kernel_rfl) (by kernel_rfl)
def sr (n:Nat):Entry:=⟨115,qM (.pair .str .unit) (.one .bool) (fun xs=>em n xs.1),none,none⟩
theorem uz (n:Nat):EntryOk Tryz.prog gl (sr n):=
 Ma (iy n) fun xs y h=>ra tys_ok (Cm n) mixed (hint:=Ge n) (n:=n) Tryz.func115 (Ga (qw n)) (pa (φ:=(fun y=>some (Out.ret (ch (.one .bool) y)))) (by kernel_rfl) (VA n xs.1 _) h)
def wk (n:Nat):List Entry:=sr n::Vf n
theorem il (n:Nat):AllOk Tryz.prog gl (wk n):=.cons (uz n) (Cm n)
def dm (n:Nat) {R:Type} (s:BA) (k:Bool→Option R):Option R:=
 (em n s).bind fun v=>
 k (!v)
def cm (n:Nat) (s:BA):Option Bool:=dm n s some
theorem TA (n:Nat) {S:Type}:∀ s (φ:_→Option S),(cm n s).bind φ=dm n s φ:=by
 intros;unfold cm dm;first | (simp only [ia,da,iB,bB,oL,oX,nB,Option.bind_some]) | rfl
def Em (n:Nat):Hint Out:={ live:=fun c=>[],run:=fun c=>none,xm:=fun c q=>none }
theorem ow (n:Nat):qa tys (fa Out (wk n)) (Em n) n (ba Tryz.f114) 0:=ma (fun _=>rfl) _ _ (by kernel_rfl)
theorem fy (n:Nat):Enters Tryz.prog 114:=enters_of (c:=ba Tryz.f114) Tryz.func114 (by kernel_rfl) (by kernel_rfl)
def qr (n:Nat):Entry:=⟨114,qM (.pair .str .unit) (.one .bool) (fun xs=>cm n xs.1),none,none⟩
theorem rz (n:Nat):EntryOk Tryz.prog gl (qr n):=
 Ma (fy n) fun xs y h=>ra tys_ok (il n) mixed (hint:=Em n) (n:=n) Tryz.func114 (Ga (ow n)) (pa (φ:=(fun y=>some (Out.ret (ch (.one .bool) y)))) (by kernel_rfl) (TA n xs.1 _) h)
def Be (n:Nat):List Entry:=qr n::wk n
theorem fl (n:Nat):AllOk Tryz.prog gl (Be n):=.cons (rz n) (il n)
def iu (n:Nat) {R:Type} (s1:(Sq BA)) (t7 t8:Int) (kn:(Sq BA)→Int→Int→Option R) (ko:(Unit)→Option R) (kr:(Int)→Option R) (kp:Int→Option R):Option R:=
 if (decide (t8<t7))=true then
 if 0≤t8∧t8<(s1.n:Int) then
  (cm n (s1.at' (Int.toNat t8))).bind fun v=>
  if v=true then
  kr t8
  else
  kn s1 t7 (IntKind.wrap .i64 (t8+(1:Int)))
 else
  none
 else
 ko ()
def wh (n:Nat):Nat→(Sq BA)→Int→Int→Option (Lx (Unit) (Int))
 | 0,_,_,_=>none
 | m+1,s1,t7,t8=>iu n s1 t7 t8 (wh n m) (fun a=>some (.out a)) (fun a=>some (.ret a)) (fun p=>some (.pan p))
theorem RD (n m:Nat) {S:Type}:∀ s1 t7 t8 (φ:_→Option S),(wh n (m+1) s1 t7 t8).bind φ=iu n s1 t7 t8 (fun s1 t7 t8=>(wh n m s1 t7 t8).bind φ) (fun a=>φ (.out a)) (fun a=>φ (.ret a)) (fun p=>φ (.pan p)):=by
 intros;first | (simp only [wh,iu,ia,da,iB,bB,oL,oX,nB,Option.bind_some]) | rfl
def Ip:List Sl:=.dat (.sl .str)::.fnc 114::tp 5 (.dat (.int .i64)::.dat (.int .i64)::tp 10 [])
def Hp:List RS:=[.ghost [.top,.top]]
def Aw:List Sl:=tp 19 []
def zw:List RS:=[.ghost [.top,.top]]
def Cw:List Sl:=tp 4 (.dat (.int .i64)::tp 14 [])
def Bw:List RS:=[.ghost [.top,.top]]
def gf (K:XE→List AV→ea→Option OutS):Lx (Unit) (Int)→Option OutS:=fun x=>lM x (fun a=>Ky Aw zw () ((),()) (K (.exit 0))) (fun a=>Ky Cw Bw (a,()) ((),()) (K .ret)) (fun _=>none)
def cB (n:Nat) {R:Type} (s:(Sq BA)) (k:(Int×Unit)→Option R):Option R:=
 (wh n n s (s.n:Int) (0:Int)).bind fun x_1=>lM x_1
 (fun a_2=>
  k ((-1:Int),()))
 (fun a_3=>
  k (a_3,()))
 (fun _=>none)
def FC (n:Nat) (s:(Sq BA)):Option (Int×Unit):=cB n s some
theorem CH (n:Nat) {S:Type}:∀ s (φ:_→Option S),(FC n s).bind φ=cB n s φ:=by
 intros;unfold FC cB;first | (simp only [ia,da,iB,bB,oL,oX,nB,Option.bind_some]) | rfl
def jm (n:Nat):Hint OutS:={ live:=fun c=>(cond (Nat.beq c 0) [(0,some (.sl .str)),(1,none),(7,none),(8,none)] []),run:=fun c=>(cond (Nat.beq c 0) (some (XA Ip Hp fun σ ρ K=>(wh n n σ.1 σ.2.1 σ.2.2.1).bind (gf K))) none),xm:=fun c q=>(cond (Nat.beq c 0&&Nat.beq (q.getD 1000000) 0&&q.isSome) (some []) (cond (Nat.beq c 1&&q.isNone) (some [(4,none)]) none)) }
def im (n:Nat) (K:XE→List AV→ea→Option OutS) (m:Nat) (s1:(Sq BA)) (t7:Int) (t8:Int):Option OutS:=lq tys (fa OutS (Be n)) (jm n) n (La [1,0,1,0,0] (ba Tryz.f132)) 0 Ip Hp K m (s1,(t7,(t8,()))) ((),())
theorem oy (n:Nat) (K:XE→List AV→ea→Option OutS):∀ (m:Nat) s1 t7 t8,im n K m s1 t7 t8=(wh n m s1 t7 t8).bind (gf K)
 | 0,_,_,_=>by kernel_rfl
 | m+1,s1,t7,t8=>by
  have h1:im n K (m+1) s1 t7 t8=iu n s1 t7 t8 (im n K m) (fun a=>gf K (.out a)) (fun a=>gf K (.ret a)) (fun p=>gf K (.pan p)):=by kernel_rfl
  have h2:im n K m=fun s1 t7 t8=>(wh n m s1 t7 t8).bind (gf K):=by
   repeat (refine funext fun _=>?_)
   exact oy n K m _ _ _
  rw [h1,h2];exact (RD n m _ _ _ (gf K)).symm
theorem GC (n:Nat):Im tys (fa OutS (Be n)) (jm n) n (La [1,0,1,0,0] (ba Tryz.f132)) 0:=Mc (sp:=Ip) (rp:=Hp) (by kernel_rfl) fun K σ ρ=>oy n K n σ.1 σ.2.1 σ.2.2.1
theorem SD (n:Nat):qa tys (fa OutS (Be n)) (jm n) n (ba Tryz.f132) 0:=⟨trivial,⟨⟨trivial,⟨GC n,⟨trivial,⟨⟨trivial,trivial⟩,⟨⟨trivial,⟨trivial,⟨⟨trivial,trivial⟩,trivial⟩⟩⟩,trivial⟩⟩⟩⟩⟩,⟨trivial,trivial⟩⟩⟩
theorem GF (n:Nat):Enters Tryz.prog 132:=enters_of (c:=ba Tryz.f132) Tryz.func132 (by kernel_rfl) (by kernel_rfl)
def IC:List RSp:=[.one (.dat (.sl .str)),.one (.fnc 114)]
def HC:List RS:=[]
def HF:List Sl:=[.top,.top]
def IF:List RSp:=[.one (.dat (.int .i64))]
def dq:List RS:=[]
def dB (y:(Int×Unit)):OutS:=⟨false,Bi (Hb dq ()) HF (),Pq (Wp (Hb dq ()) IF ((y.1,()),())),Nk (Hb dq ()) dq ()⟩
theorem XG (n:Nat):EntryOk Tryz.prog gl ⟨132,Ud,none,some (QL IC HC (fun σ ρ=>FC n σ.1.1) dB)⟩:=
 Hc (GF n) fun σ ρ y h=>vd tys_ok (fl n) mixed (hint:=jm n) (n:=n) Tryz.func132 (Ga (SD n)) (pa (φ:=fun y=>some (dB y)) (by kernel_rfl) (CH n σ.1.1 _) h)
def qy (n:Nat):List Entry:=⟨132,Ud,none,some (QL IC HC (fun σ ρ=>FC n σ.1.1) dB)⟩::Be n
theorem Vv (n:Nat):AllOk Tryz.prog gl (qy n):=.cons (XG n) (fl n)
def ZA (n:Nat) {R:Type} (s:(Sq BA)) (k:(Bool×Unit)→Option R):Option R:=
 (FC n s).bind fun v=>
 k ((decide (v.1≥(0:Int))),())
def CC (n:Nat) (s:(Sq BA)):Option (Bool×Unit):=ZA n s some
theorem BH (n:Nat) {S:Type}:∀ s (φ:_→Option S),(CC n s).bind φ=ZA n s φ:=by
 intros;unfold CC ZA;first | (simp only [ia,da,iB,bB,oL,oX,nB,Option.bind_some]) | rfl
def ny (n:Nat):Hint OutS:={ live:=fun c=>[],run:=fun c=>none,xm:=fun c q=>none }
theorem QD (n:Nat):qa tys (fa OutS (qy n)) (ny n) n (ba Tryz.f106) 0:=ma (fun _=>rfl) _ _ (by kernel_rfl)
theorem DF (n:Nat):Enters Tryz.prog 106:=enters_of (c:=ba Tryz.f106) Tryz.func106 (by kernel_rfl) (by kernel_rfl)
def EC:List RSp:=[.one (.dat (.sl .str)),.one (.fnc 114)]
def DC:List RS:=[]
def EF:List Sl:=[.top,.top]
def FF:List RSp:=[.one (.dat .bool)]
def cq:List RS:=[]
def aB (y:(Bool×Unit)):OutS:=⟨false,Bi (Hb cq ()) EF (),Pq (Wp (Hb cq ()) FF ((y.1,()),())),Nk (Hb cq ()) cq ()⟩
theorem WG (n:Nat):EntryOk Tryz.prog gl ⟨106,Ud,none,some (QL EC DC (fun σ ρ=>CC n σ.1.1) aB)⟩:=
 Hc (DF n) fun σ ρ y h=>vd tys_ok (Vv n) mixed (hint:=ny n) (n:=n) Tryz.func106 (Ga (QD n)) (pa (φ:=fun y=>some (aB y)) (by kernel_rfl) (BH n σ.1.1 _) h)
def my (n:Nat):List Entry:=⟨106,Ud,none,some (QL EC DC (fun σ ρ=>CC n σ.1.1) aB)⟩::qy n
theorem Uv (n:Nat):AllOk Tryz.prog gl (my n):=.cons (WG n) (Vv n)
def Es (n:Nat) {R:Type} (r:(Int×((Sq BA)×Unit))) (k:Bool→Option R):Option R:=
 if (decide (r.1≥(200:Int)))=true then
 if (decide (r.1≤(599:Int)))=true then
  if (decide ((r.2.1.n:Int)≥(1:Int)))=true then
  if (decide ((r.2.1.n:Int)≤(16:Int)))=true then
   (CC n r.2.1).bind fun v=>
   k (!v.1)
  else
   k false
  else
  k false
 else
  k false
 else
 k false
def au (n:Nat) (r:(Int×((Sq BA)×Unit))):Option Bool:=Es n r some
theorem MD (n:Nat) {S:Type}:∀ r (φ:_→Option S),(au n r).bind φ=Es n r φ:=by
 intros;unfold au Es;first | (simp only [ia,da,iB,bB,oL,oX,nB,Option.bind_some]) | rfl
def rr (n:Nat):Hint Out:={ live:=fun c=>[],run:=fun c=>none,xm:=fun c q=>none }
theorem tz (n:Nat):qa tys (fa Out (my n)) (rr n) n (ba Tryz.f85) 0:=ma (fun _=>rfl) _ _ (by kernel_rfl)
theorem UA (n:Nat):Enters Tryz.prog 85:=enters_of (c:=ba Tryz.f85) Tryz.func85 (by kernel_rfl) (by kernel_rfl)
def Qv (n:Nat):Entry:=⟨85,qM (.pair (.pair (.int .i64) (.pair (.sl .str) .unit)) .unit) (.one .bool) (fun xs=>au n xs.1),none,none⟩
theorem AC (n:Nat):EntryOk Tryz.prog gl (Qv n):=
 Ma (UA n) fun xs y h=>ra tys_ok (Uv n) mixed (hint:=rr n) (n:=n) Tryz.func85 (Ga (tz n)) (pa (φ:=(fun y=>some (Out.ret (ch (.one .bool) y)))) (by kernel_rfl) (MD n xs.1 _) h)
def Rv (n:Nat):List Entry:=Qv n::my n
theorem gy (n:Nat):AllOk Tryz.prog gl (Rv n):=.cons (AC n) (Uv n)
def Rp (n:Nat):List Entry:=⟨87,qM (.pair (.int .i64) .unit) (.one .str) (fun xs=>nC xs.1),none,none⟩::Rv n
theorem ru (n:Nat):AllOk Tryz.prog gl (Rp n):=.cons OI (gy n)
theorem Rk:Tryz.prog.funcs[140]?=some Tryz.f140:=by kernel_rfl
theorem Sk:EntryOk Tryz.prog gl ⟨140,Ud,some .ident,none⟩:=kz Rk (by kernel_rfl) (by kernel_rfl) (by kernel_rfl) (by kernel_rfl)
def Nc (n:Nat):List Entry:=⟨140,Ud,some .ident,none⟩::Rp n
theorem Id (n:Nat):AllOk Tryz.prog gl (Nc n):=.cons Sk (ru n)
def Og (n:Nat) {R:Type} (k:Unit→Option R):Option R:=
 k ()
def Qc (n:Nat):Option Unit:=Og n some
theorem ov (n:Nat) {S:Type}:∀ (φ:_→Option S),(Qc n).bind φ=Og n φ:=by
 intros;unfold Qc Og;first | (simp only [ia,da,iB,bB,oL,oX,nB,Option.bind_some]) | rfl
def fi (n:Nat):Hint OutS:={ live:=fun c=>[],run:=fun c=>none,xm:=fun c q=>none }
theorem Nq (n:Nat):qa tys (fa OutS (Nc n)) (fi n) n (ba Tryz.f116) 0:=ma (fun _=>rfl) _ _ (by kernel_rfl)
theorem Ns (n:Nat):Enters Tryz.prog 116:=enters_of (c:=ba Tryz.f116) Tryz.func116 (by kernel_rfl) (by kernel_rfl)
def Oj:List RSp:=[.one (.ptr 0 0 0)]
def Nj:List RS:=[.box 126 2 true [.cn .nilp,.cn .nils]]
def Ps:List Sl:=[.ptr 0 0 0]
def Qs:List RSp:=[]
def pd:List RS:=[.box 126 2 false [.ptr 0 0 0,.cn .nils]]
def Pg (y:Unit):OutS:=⟨false,Bi (Hb pd ((),())) Ps (),Pq (Wp (Hb pd ((),())) Qs ()),Nk (Hb pd ((),())) pd ((),())⟩
theorem fu (n:Nat):EntryOk Tryz.prog gl ⟨116,Ud,none,some (QL Oj Nj (fun σ ρ=>Qc n) Pg)⟩:=
 Hc (Ns n) fun σ ρ y h=>vd tys_ok (Id n) mixed (hint:=fi n) (n:=n) Tryz.func116 (Ga (Nq n)) (pa (φ:=fun y=>some (Pg y)) (by kernel_rfl) (ov n _) h)
def dg (n:Nat):List Entry:=⟨116,Ud,none,some (QL Oj Nj (fun σ ρ=>Qc n) Pg)⟩::Nc n
theorem uh (n:Nat):AllOk Tryz.prog gl (dg n):=.cons (fu n) (Id n)
def cf (n:Nat) {R:Type} (s:BA) (k:LL→Option R):Option R:=
 (Qc n).bind fun v=>
 if Pd (0+s.size) 1=true then
 k ((s.size:Int),((⟨(0+s.size),fun q=>if q<0 then (fun _=>Na (.int .u8)) q else (fun (q:Nat)=>bt s q) (q - 0)⟩:Sq Int),()))
 else
 none
def Nb (n:Nat) (s:BA):Option LL:=cf n s some
theorem Ls (n:Nat) {S:Type}:∀ s (φ:_→Option S),(Nb n s).bind φ=cf n s φ:=by
 intros;unfold Nb cf;first | (simp only [ia,da,iB,bB,oL,oX,nB,Option.bind_some]) | rfl
def xg (n:Nat):Hint OutS:={ live:=fun c=>[],run:=fun c=>none,xm:=fun c q=>none }
theorem un (n:Nat):qa tys (fa OutS (dg n)) (xg n) n (ba Tryz.f86) 0:=ma (fun _=>rfl) _ _ (by kernel_rfl)
theorem Bp (n:Nat):Enters Tryz.prog 86:=enters_of (c:=ba Tryz.f86) Tryz.func86 (by kernel_rfl) (by kernel_rfl)
def ci:List RSp:=[.one (.ptr 0 0 0),.one (.dat .str)]
def bi:List RS:=[.box 126 2 true [.cn .nilp,.cn .nils]]
def Cp:List Sl:=[.ptr 0 0 0,.top]
def Dp:List RSp:=[.one (.dat (.int .i64)),.one (.cn .nili)]
def Cc:List RS:=[.box 126 2 false [.ptr 0 0 0,.row 1],.row 5 1 (.int .u8) true false]
def df (y:LL):OutS:=⟨false,Bi (Hb Cc ((),(y.2.1,()))) Cp (),Pq (Wp (Hb Cc ((),(y.2.1,()))) Dp ((y.1,()),((),()))),Nk (Hb Cc ((),(y.2.1,()))) Cc ((),(y.2.1,()))⟩
theorem Lq (n:Nat):EntryOk Tryz.prog gl ⟨86,Ud,none,some (QL ci bi (fun σ ρ=>Nb n σ.2.1.1) df)⟩:=
 Hc (Bp n) fun σ ρ y h=>vd tys_ok (uh n) mixed (hint:=xg n) (n:=n) Tryz.func86 (Ga (un n)) (pa (φ:=fun y=>some (df y)) (by kernel_rfl) (Ls n σ.2.1.1 _) h)
def ve (n:Nat):List Entry:=⟨86,Ud,none,some (QL ci bi (fun σ ρ=>Nb n σ.2.1.1) df)⟩::dg n
theorem bg (n:Nat):AllOk Tryz.prog gl (ve n):=.cons (Lq n) (uh n)
def Qg (n:Nat) {R:Type} (r1:(Sq Int)) (k:U9→Option R):Option R:=
 k (r1,())
def Rc (n:Nat) (r1:(Sq Int)):Option U9:=Qg n r1 some
theorem pv (n:Nat) {S:Type}:∀ r1 (φ:_→Option S),(Rc n r1).bind φ=Qg n r1 φ:=by
 intros;unfold Rc Qg;first | (simp only [ia,da,iB,bB,oL,oX,nB,Option.bind_some]) | rfl
def ii (n:Nat):Hint OutS:={ live:=fun c=>[],run:=fun c=>none,xm:=fun c q=>none }
theorem Oq (n:Nat):qa tys (fa OutS (ve n)) (ii n) n (ba Tryz.f116) 0:=ma (fun _=>rfl) _ _ (by kernel_rfl)
theorem Rs (n:Nat):Enters Tryz.prog 116:=enters_of (c:=ba Tryz.f116) Tryz.func116 (by kernel_rfl) (by kernel_rfl)
def Qj:List RSp:=[.one (.ptr 0 0 0)]
def Pj:List RS:=[.box 126 2 false [.ptr 0 0 0,.row 1],.row 5 1 (.int .u8) true false]
def Ss:List Sl:=[.ptr 0 0 0]
def Ts:List RSp:=[]
def qd:List RS:=[.box 126 2 false [.ptr 0 0 0,.row 1],.row 5 1 (.int .u8) true false]
def Rg (y:U9):OutS:=⟨false,Bi (Hb qd ((),(y.1,()))) Ss (),Pq (Wp (Hb qd ((),(y.1,()))) Ts ()),Nk (Hb qd ((),(y.1,()))) qd ((),(y.1,()))⟩
theorem gu (n:Nat):EntryOk Tryz.prog gl ⟨116,Ud,none,some (QL Qj Pj (fun σ ρ=>Rc n ρ.2.1) Rg)⟩:=
 Hc (Rs n) fun σ ρ y h=>vd tys_ok (bg n) mixed (hint:=ii n) (n:=n) Tryz.func116 (Ga (Oq n)) (pa (φ:=fun y=>some (Rg y)) (by kernel_rfl) (pv n ρ.2.1 _) h)
def fg (n:Nat):List Entry:=⟨116,Ud,none,some (QL Qj Pj (fun σ ρ=>Rc n ρ.2.1) Rg)⟩::ve n
theorem vh (n:Nat):AllOk Tryz.prog gl (fg n):=.cons (gu n) (bg n)
def ef (n:Nat) {R:Type} (s:BA) (r1:(Sq Int)) (k:LL→Option R):Option R:=
 (Rc n r1).bind fun v=>
 if Pd (v.1.n+s.size) 1=true then
 k ((s.size:Int),((⟨(v.1.n+s.size),fun q=>if q<v.1.n then v.1.at' q else (fun (q:Nat)=>bt s q) (q - v.1.n)⟩:Sq Int),()))
 else
 none
def Ob (n:Nat) (s:BA) (r1:(Sq Int)):Option LL:=ef n s r1 some
theorem Ms (n:Nat) {S:Type}:∀ s r1 (φ:_→Option S),(Ob n s r1).bind φ=ef n s r1 φ:=by
 intros;unfold Ob ef;first | (simp only [ia,da,iB,bB,oL,oX,nB,Option.bind_some]) | rfl
def yg (n:Nat):Hint OutS:={ live:=fun c=>[],run:=fun c=>none,xm:=fun c q=>none }
theorem vn (n:Nat):qa tys (fa OutS (fg n)) (yg n) n (ba Tryz.f86) 0:=ma (fun _=>rfl) _ _ (by kernel_rfl)
theorem Ep (n:Nat):Enters Tryz.prog 86:=enters_of (c:=ba Tryz.f86) Tryz.func86 (by kernel_rfl) (by kernel_rfl)
def ei:List RSp:=[.one (.ptr 0 0 0),.one (.dat .str)]
def di:List RS:=[.box 126 2 false [.ptr 0 0 0,.row 1],.row 5 1 (.int .u8) true false]
def Fp:List Sl:=[.ptr 0 0 0,.top]
def Gp:List RSp:=[.one (.dat (.int .i64)),.one (.cn .nili)]
def Dc:List RS:=[.box 126 2 false [.ptr 0 0 0,.row 1],.row 5 1 (.int .u8) true false]
def ff (y:LL):OutS:=⟨false,Bi (Hb Dc ((),(y.2.1,()))) Fp (),Pq (Wp (Hb Dc ((),(y.2.1,()))) Gp ((y.1,()),((),()))),Nk (Hb Dc ((),(y.2.1,()))) Dc ((),(y.2.1,()))⟩
theorem Mq (n:Nat):EntryOk Tryz.prog gl ⟨86,Ud,none,some (QL ei di (fun σ ρ=>Ob n σ.2.1.1 ρ.2.1) ff)⟩:=
 Hc (Ep n) fun σ ρ y h=>vd tys_ok (vh n) mixed (hint:=yg n) (n:=n) Tryz.func86 (Ga (vn n)) (pa (φ:=fun y=>some (ff y)) (by kernel_rfl) (Ms n σ.2.1.1 ρ.2.1 _) h)
def we (n:Nat):List Entry:=⟨86,Ud,none,some (QL ei di (fun σ ρ=>Ob n σ.2.1.1 ρ.2.1) ff)⟩::fg n
theorem cg (n:Nat):AllOk Tryz.prog gl (we n):=.cons (Mq n) (vh n)
def xk (n:Nat) {R:Type} (r1:(Sq Int)) (k:(BA×Unit)→Option R):Option R:=
 if (r1.n:Int)=(r1.n:Int)∧(r1.n:Int)≤9223372036854775807 then
 k ((Fz r1.n r1.at'),())
 else
 none
def Tc (n:Nat) (r1:(Sq Int)):Option (BA×Unit):=xk n r1 some
theorem xz (n:Nat) {S:Type}:∀ r1 (φ:_→Option S),(Tc n r1).bind φ=xk n r1 φ:=by
 intros;unfold Tc xk;first | (simp only [ia,da,iB,bB,oL,oX,nB,Option.bind_some]) | rfl
def ml (n:Nat):Hint OutS:={ live:=fun c=>[],run:=fun c=>none,xm:=fun c q=>none,sch:=fun c=>(cond (Nat.beq c 1) (some [(0,0),(1,0),(2,0),(5,0),(6,0),(7,0),(3,1),(8,1),(9,0),(4,3),(10,2),(11,0)]) none) }
theorem iv (n:Nat):qa tys (fa OutS (we n)) (ml n) n (ba Tryz.f88) 0:=ma (fun _=>rfl) _ _ (by kernel_rfl)
theorem sw (n:Nat):Enters Tryz.prog 88:=enters_of (c:=ba Tryz.f88) Tryz.func88 (by kernel_rfl) (by kernel_rfl)
def yp:List RSp:=[.one (.ptr 0 0 0)]
def xp:List RS:=[.box 126 2 false [.ptr 0 0 0,.row 1],.row 5 1 (.int .u8) true false]
def tw:List Sl:=[.ptr 0 0 0]
def uw:List RSp:=[.one (.dat .str)]
def He:List RS:=[.box 126 2 false [.ptr 0 0 0,.top]]
def yk (y:(BA×Unit)):OutS:=⟨false,Bi (Hb He ((),())) tw (),Pq (Wp (Hb He ((),())) uw ((y.1,()),())),Nk (Hb He ((),())) He ((),())⟩
theorem ky (n:Nat):EntryOk Tryz.prog gl ⟨88,Ud,none,some (QL yp xp (fun σ ρ=>Tc n ρ.2.1) yk)⟩:=
 Hc (sw n) fun σ ρ y h=>vd tys_ok (cg n) mixed (hint:=ml n) (n:=n) Tryz.func88 (Ga (iv n)) (pa (φ:=fun y=>some (yk y)) (by kernel_rfl) (xz n ρ.2.1 _) h)
def gj (n:Nat):List Entry:=⟨88,Ud,none,some (QL yp xp (fun σ ρ=>Tc n ρ.2.1) yk)⟩::we n
theorem Hj (n:Nat):AllOk Tryz.prog gl (gj n):=.cons (ky n) (cg n)
def zk (n:Nat) {R:Type} (k:(BA×Unit)→Option R):Option R:=
 if ((0:Nat):Int)=0 then
 k ((⟨#[]⟩:BA),())
 else
 none
def uf (n:Nat):Option (BA×Unit):=zk n some
theorem yz (n:Nat) {S:Type}:∀ (φ:_→Option S),(uf n).bind φ=zk n φ:=by
 intros;unfold uf zk;first | (simp only [ia,da,iB,bB,oL,oX,nB,Option.bind_some]) | rfl
def nl (n:Nat):Hint OutS:={ live:=fun c=>[],run:=fun c=>none,xm:=fun c q=>none,sch:=fun c=>(cond (Nat.beq c 1) (some [(0,0),(1,0),(2,0),(5,0),(6,0),(7,0),(3,1),(8,1),(9,0),(4,3),(10,2),(11,0)]) none) }
theorem jv (n:Nat):qa tys (fa OutS (gj n)) (nl n) n (ba Tryz.f88) 0:=ma (fun _=>rfl) _ _ (by kernel_rfl)
theorem ww (n:Nat):Enters Tryz.prog 88:=enters_of (c:=ba Tryz.f88) Tryz.func88 (by kernel_rfl) (by kernel_rfl)
def Ap:List RSp:=[.one (.ptr 0 0 0)]
def zp:List RS:=[.box 126 2 true [.cn .nilp,.cn .nils]]
def xw:List Sl:=[.ptr 0 0 0]
def yw:List RSp:=[.one (.dat .str)]
def Ie:List RS:=[.box 126 2 true [.cn .nilp,.cn .nils]]
def Ak (y:(BA×Unit)):OutS:=⟨false,Bi (Hb Ie ((),())) xw (),Pq (Wp (Hb Ie ((),())) yw ((y.1,()),())),Nk (Hb Ie ((),())) Ie ((),())⟩
theorem ly (n:Nat):EntryOk Tryz.prog gl ⟨88,Ud,none,some (QL Ap zp (fun σ ρ=>uf n) Ak)⟩:=
 Hc (ww n) fun σ ρ y h=>vd tys_ok (Hj n) mixed (hint:=nl n) (n:=n) Tryz.func88 (Ga (jv n)) (pa (φ:=fun y=>some (Ak y)) (by kernel_rfl) (yz n _) h)
def Qd (n:Nat):List Entry:=⟨88,Ud,none,some (QL Ap zp (fun σ ρ=>uf n) Ak)⟩::gj n
theorem Ij (n:Nat):AllOk Tryz.prog gl (Qd n):=.cons (ly n) (Hj n)
def Xg (n:Nat) {R:Type} (t12:(Sq BA)) (t13 t14 r1:Int) (r2:(Sq BA)) (r21:(Sq Int)) (kn:(Sq BA)→Int→Int→Int→(Sq BA)→(Sq Int)→Option R) (ko:((Sq Int))→Option R) (kr:Unit→Option R) (kp:Int→Option R):Option R:=
 if (decide (t14<t13))=true then
 if 0≤t14∧t14<(t12.n:Int) then
  if (t14==(IntKind.wrap .i64 ((r2.n:Int) - (1:Int))))=true then
  (nC r1).bind fun v3=>
  if Wa v3 (⟨#[32]⟩:BA)=true then
   if Wa (v3++(⟨#[32]⟩:BA)) (t12.at' (Int.toNat t14))=true then
   if Wa ((v3++(⟨#[32]⟩:BA))++(t12.at' (Int.toNat t14))) (⟨#[13,10]⟩:BA)=true then
    (Ob n (((v3++(⟨#[32]⟩:BA))++(t12.at' (Int.toNat t14)))++(⟨#[13,10]⟩:BA)) r21).bind fun v4=>
    kn t12 t13 (IntKind.wrap .i64 (t14+(1:Int))) r1 r2 v4.2.1
   else
    none
   else
   none
  else
   none
  else
  (nC r1).bind fun v5=>
  if Wa v5 (⟨#[45]⟩:BA)=true then
   if Wa (v5++(⟨#[45]⟩:BA)) (t12.at' (Int.toNat t14))=true then
   if Wa ((v5++(⟨#[45]⟩:BA))++(t12.at' (Int.toNat t14))) (⟨#[13,10]⟩:BA)=true then
    (Ob n (((v5++(⟨#[45]⟩:BA))++(t12.at' (Int.toNat t14)))++(⟨#[13,10]⟩:BA)) r21).bind fun v6=>
    kn t12 t13 (IntKind.wrap .i64 (t14+(1:Int))) r1 r2 v6.2.1
   else
    none
   else
   none
  else
   none
 else
  none
 else
 ko r21
def rb (n:Nat):Nat→(Sq BA)→Int→Int→Int→(Sq BA)→(Sq Int)→Option (Lx ((Sq Int)) Unit)
 | 0,_,_,_,_,_,_=>none
 | m+1,t12,t13,t14,r1,r2,r21=>Xg n t12 t13 t14 r1 r2 r21 (rb n m) (fun a=>some (.out a)) (fun a=>some (.ret a)) (fun p=>some (.pan p))
theorem mw (n m:Nat) {S:Type}:∀ t12 t13 t14 r1 r2 r21 (φ:_→Option S),(rb n (m+1) t12 t13 t14 r1 r2 r21).bind φ=Xg n t12 t13 t14 r1 r2 r21 (fun t12 t13 t14 r1 r2 r21=>(rb n m t12 t13 t14 r1 r2 r21).bind φ) (fun a=>φ (.out a)) (fun a=>φ (.ret a)) (fun p=>φ (.pan p)):=by
 intros;first | (simp only [rb,Xg,ia,da,iB,bB,oL,oX,nB,Option.bind_some]) | rfl
def Gg:List Sl:=.top::.ptr 0 0 0::.top::.top::.ptr 1 0 0::tp 7 (.dat (.sl .str)::.dat (.int .i64)::.dat (.int .i64)::tp 21 [])
def Fg:List RS:=[.box 94 2 true [.dat (.int .i64),.dat (.sl .str)],.box 126 2 false [.ptr 1 0 0,.row 2],.row 5 1 (.int .u8) true false]
def ip:List Sl:=tp 4 (.ptr 0 0 0::tp 31 [])
def gp:List RS:=[.box 126 2 false [.ptr 0 0 0,.row 1],.row 5 1 (.int .u8) true false]
def Ab (K:XE→List AV→ea→Option Out):Lx ((Sq Int)) Unit→Option Out:=fun x=>lM x (fun a=>Ky ip gp () ((),(a,())) (K (.exit 0))) (fun _=>none) (fun _=>none)
def bm (n:Nat) {R:Type} (r:(Int×((Sq BA)×Unit))) (k:(BA×Int×Unit)→Option R):Option R:=
 (au n (r.1,(r.2.1,()))).bind fun v=>
 if (!v)=true then
 k ((⟨#[]⟩:BA),((1:Int),()))
 else
 if (decide ((0:Int)<(r.2.1.n:Int)))=true then
  if 0≤(0:Int)∧(0:Int)<(r.2.1.n:Int) then
  if ((0:Int)==(IntKind.wrap .i64 ((r.2.1.n:Int) - (1:Int))))=true then
   (nC r.1).bind fun v1=>
   if Wa v1 (⟨#[32]⟩:BA)=true then
   if Wa (v1++(⟨#[32]⟩:BA)) (r.2.1.at' (Int.toNat (0:Int)))=true then
    if Wa ((v1++(⟨#[32]⟩:BA))++(r.2.1.at' (Int.toNat (0:Int)))) (⟨#[13,10]⟩:BA)=true then
    (Nb n (((v1++(⟨#[32]⟩:BA))++(r.2.1.at' (Int.toNat (0:Int))))++(⟨#[13,10]⟩:BA))).bind fun v2=>
    (rb n n r.2.1 (r.2.1.n:Int) (IntKind.wrap .i64 ((0:Int)+(1:Int))) r.1 r.2.1 v2.2.1).bind fun x_1=>lM x_1
     (fun a_2=>
     (Tc n a_2).bind fun v7=>
     k (v7.1,((0:Int),())))
     (fun _=>none)
     (fun _=>none)
    else
    none
   else
    none
   else
   none
  else
   (nC r.1).bind fun v8=>
   if Wa v8 (⟨#[45]⟩:BA)=true then
   if Wa (v8++(⟨#[45]⟩:BA)) (r.2.1.at' (Int.toNat (0:Int)))=true then
    if Wa ((v8++(⟨#[45]⟩:BA))++(r.2.1.at' (Int.toNat (0:Int)))) (⟨#[13,10]⟩:BA)=true then
    (Nb n (((v8++(⟨#[45]⟩:BA))++(r.2.1.at' (Int.toNat (0:Int))))++(⟨#[13,10]⟩:BA))).bind fun v9=>
    (rb n n r.2.1 (r.2.1.n:Int) (IntKind.wrap .i64 ((0:Int)+(1:Int))) r.1 r.2.1 v9.2.1).bind fun x_3=>lM x_3
     (fun a_4=>
     (Tc n a_4).bind fun v10=>
     k (v10.1,((0:Int),())))
     (fun _=>none)
     (fun _=>none)
    else
    none
   else
    none
   else
   none
  else
  none
 else
  (uf n).bind fun v11=>
  k (v11.1,((0:Int),()))
def am (n:Nat) (r:(Int×((Sq BA)×Unit))):Option (BA×Int×Unit):=bm n r some
theorem SA (n:Nat) {S:Type}:∀ r (φ:_→Option S),(am n r).bind φ=bm n r φ:=by
 intros;unfold am bm;first | (simp only [ia,da,iB,bB,oL,oX,nB,Option.bind_some]) | rfl
def Ee (n:Nat):Hint Out:={ live:=fun c=>(cond (Nat.beq c 0) [(1,none),(4,none),(12,some (.sl .str)),(13,none),(14,none)] []),run:=fun c=>(cond (Nat.beq c 0) (some (XA Gg Fg fun σ ρ K=>(rb n n σ.1 σ.2.1 σ.2.2.1 ρ.1.1 ρ.1.2.1 ρ.2.2.1).bind (Ab K))) none),xm:=fun c q=>(cond (Nat.beq c 0&&Nat.beq (q.getD 1000000) 0&&q.isSome) (some [(4,none)]) none),pl:=fun c=>Nat.beq c 0 }
def De (n:Nat) (K:XE→List AV→ea→Option Out) (m:Nat) (t12:(Sq BA)) (t13:Int) (t14:Int) (r1:Int) (r2:(Sq BA)) (r21:(Sq Int)):Option Out:=lq tys (fa Out (Qd n)) (Ee n) n (La [1,1,1,0,1,0,0] (ba Tryz.f50)) 0 Gg Fg K m (t12,(t13,(t14,()))) ((r1,(r2,())),((),(r21,())))
theorem Dm (n:Nat) (K:XE→List AV→ea→Option Out):∀ (m:Nat) t12 t13 t14 r1 r2 r21,De n K m t12 t13 t14 r1 r2 r21=(rb n m t12 t13 t14 r1 r2 r21).bind (Ab K)
 | 0,_,_,_,_,_,_=>by kernel_rfl
 | m+1,t12,t13,t14,r1,r2,r21=>by
  have h1:De n K (m+1) t12 t13 t14 r1 r2 r21=Xg n t12 t13 t14 r1 r2 r21 (De n K m) (fun a=>Ab K (.out a)) (fun a=>Ab K (.ret a)) (fun p=>Ab K (.pan p)):=by kernel_rfl
  have h2:De n K m=fun t12 t13 t14 r1 r2 r21=>(rb n m t12 t13 t14 r1 r2 r21).bind (Ab K):=by
   repeat (refine funext fun _=>?_)
   exact Dm n K m _ _ _ _ _ _
  rw [h1,h2];exact (mw n m _ _ _ _ _ _ (Ab K)).symm
theorem Yu (n:Nat):Im tys (fa Out (Qd n)) (Ee n) n (La [1,1,1,0,1,0,0] (ba Tryz.f50)) 0:=Mc (sp:=Gg) (rp:=Fg) (by kernel_rfl) fun K σ ρ=>Dm n K n σ.1 σ.2.1 σ.2.2.1 ρ.1.1 ρ.1.2.1 ρ.2.2.1
theorem nw (n:Nat):qa tys (fa Out (Qd n)) (Ee n) n (ba Tryz.f50) 0:=⟨trivial,⟨⟨trivial,⟨⟨trivial,trivial⟩,trivial⟩⟩,⟨trivial,⟨⟨trivial,⟨Yu n,⟨trivial,⟨⟨trivial,trivial⟩,⟨⟨trivial,⟨trivial,⟨⟨trivial,⟨trivial,trivial⟩⟩,trivial⟩⟩⟩,trivial⟩⟩⟩⟩⟩,⟨trivial,trivial⟩⟩⟩⟩⟩
theorem ey (n:Nat):Enters Tryz.prog 50:=enters_of (c:=ba Tryz.f50) Tryz.func50 (by kernel_rfl) (by kernel_rfl)
def nr (n:Nat):Entry:=⟨50,qM (.pair (.pair (.int .i64) (.pair (.sl .str) .unit)) .unit) (.many (.pair .str (.pair (.int .i64) .unit))) (fun xs=>am n xs.1),none,none⟩
theorem qz (n:Nat):EntryOk Tryz.prog gl (nr n):=
 Ma (ey n) fun xs y h=>ra tys_ok (Ij n) mixed (hint:=Ee n) (n:=n) Tryz.func50 (Ga (nw n)) (pa (φ:=(fun y=>some (Out.ret (ch (.many (.pair .str (.pair (.int .i64) .unit))) y)))) (by kernel_rfl) (SA n xs.1 _) h)
def vk (n:Nat):List Entry:=nr n::Qd n
theorem el (n:Nat):AllOk Tryz.prog gl (vk n):=.cons (qz n) (Ij n)
def Zo (n:Nat) {R:Type} (code:Int) (k:BA→Option R):Option R:=
 (aq n code).bind fun v=>
 (am n (code,((⟨1,fun q=>List.getD (α:=BA) [v] q (Na .str)⟩:Sq BA),()))).bind fun v1=>
 k v1.1
def Ci (n:Nat) (code:Int):Option BA:=Zo n code some
theorem uC (n:Nat) {S:Type}:∀ code (φ:_→Option S),(Ci n code).bind φ=Zo n code φ:=by
 intros;unfold Ci Zo;first | (simp only [ia,da,iB,bB,oL,oX,nB,Option.bind_some]) | rfl
def ap (n:Nat):Hint Out:={ live:=fun c=>[],run:=fun c=>none,xm:=fun c q=>none }
theorem Xx (n:Nat):qa tys (fa Out (vk n)) (ap n) n (ba Tryz.f33) 0:=ma (fun _=>rfl) _ _ (by kernel_rfl)
theorem nz (n:Nat):Enters Tryz.prog 33:=enters_of (c:=ba Tryz.f33) Tryz.func33 (by kernel_rfl) (by kernel_rfl)
def Wt (n:Nat):Entry:=⟨33,qM (.pair (.int .i64) .unit) (.one .str) (fun xs=>Ci n xs.1),none,none⟩
theorem NA (n:Nat):EntryOk Tryz.prog gl (Wt n):=
 Ma (nz n) fun xs y h=>ra tys_ok (el n) mixed (hint:=ap n) (n:=n) Tryz.func33 (Ga (Xx n)) (pa (φ:=(fun y=>some (Out.ret (ch (.one .str) y)))) (by kernel_rfl) (uC n xs.1 _) h)
def Yl (n:Nat):List Entry:=Wt n::vk n
theorem Bm (n:Nat):AllOk Tryz.prog gl (Yl n):=.cons (NA n) (el n)
def Qf (n:Nat) {R:Type} (code:Int) (b0:Bool) (b01:(Sq Int)) (b02:BA) (b03:Bool) (b04 b05:BA) (b06:Bool) (b07:BA) (r1 r2:(Sq BA)) (k:U0→Option R):Option R:=
 (Ci n code).bind fun v=>
 if Wa b07 v=true then
 k (b0,(b01,(b02,(b03,(b04,(b05,(b06,((b07++v),(r1,(r2,()))))))))))
 else
 none
def oa (n:Nat) (code:Int) (b0:Bool) (b01:(Sq Int)) (b02:BA) (b03:Bool) (b04 b05:BA) (b06:Bool) (b07:BA) (r1 r2:(Sq BA)):Option U0:=Qf n code b0 b01 b02 b03 b04 b05 b06 b07 r1 r2 some
theorem Ut (n:Nat) {S:Type}:∀ code b0 b01 b02 b03 b04 b05 b06 b07 r1 r2 (φ:_→Option S),(oa n code b0 b01 b02 b03 b04 b05 b06 b07 r1 r2).bind φ=Qf n code b0 b01 b02 b03 b04 b05 b06 b07 r1 r2 φ:=by
 intros;unfold oa Qf;first | (simp only [ia,da,iB,bB,oL,oX,nB,Option.bind_some]) | rfl
def nh (n:Nat):Hint OutS:={ live:=fun c=>[],run:=fun c=>none,xm:=fun c q=>none,sch:=fun c=>(cond (Nat.beq c 0) (some [(0,0),(1,0),(2,0),(4,0),(3,1),(5,3),(6,0),(7,0),(8,0),(9,2)]) none),nb:=[(71,1,.frz (.int .i64)),(71,5,.prm 9),(71,8,.prm 9)] }
theorem So (n:Nat):qa tys (fa OutS (Yl n)).keep (nh n) n (ba Tryz.f55) 0:=ma (fun _=>rfl) _ _ (by kernel_rfl)
theorem zq (n:Nat):Enters Tryz.prog 55:=enters_of (c:=ba Tryz.f55) Tryz.func55 (by kernel_rfl) (by kernel_rfl)
def aj:List RSp:=[.one (.ptr 0 0 0),.one (.dat (.int .i64))]
def Zi:List RS:=[.box 71 10 false [.dat .bool,.dat (.sl (.int .i64)),.dat .str,.dat .bool,.dat .str,.row 1,.dat .str,.dat .bool,.row 2,.dat .str],.row 9 1 .str true true,.row 9 1 .str true true]
def Aq:List Sl:=[.ptr 0 0 0,.top]
def Bq:List RSp:=[]
def Kc:List RS:=[.box 71 10 false [.dat .bool,.dat (.sl (.int .i64)),.dat .str,.dat .bool,.dat .str,.row 1,.dat .str,.dat .bool,.row 2,.dat .str],.row 9 1 .str true true,.row 9 1 .str true true]
def Rf (y:U0):OutS:=⟨false,Bi (Hb Kc ((y.1,(y.2.1,(y.2.2.1,(y.2.2.2.1,(y.2.2.2.2.1,(y.2.2.2.2.2.1,(y.2.2.2.2.2.2.1,(y.2.2.2.2.2.2.2.1,())))))))),(y.2.2.2.2.2.2.2.2.1,(y.2.2.2.2.2.2.2.2.2.1,())))) Aq (),Pq (Wp (Hb Kc ((y.1,(y.2.1,(y.2.2.1,(y.2.2.2.1,(y.2.2.2.2.1,(y.2.2.2.2.2.1,(y.2.2.2.2.2.2.1,(y.2.2.2.2.2.2.2.1,())))))))),(y.2.2.2.2.2.2.2.2.1,(y.2.2.2.2.2.2.2.2.2.1,())))) Bq ()),Nk (Hb Kc ((y.1,(y.2.1,(y.2.2.1,(y.2.2.2.1,(y.2.2.2.2.1,(y.2.2.2.2.2.1,(y.2.2.2.2.2.2.1,(y.2.2.2.2.2.2.2.1,())))))))),(y.2.2.2.2.2.2.2.2.1,(y.2.2.2.2.2.2.2.2.2.1,())))) Kc ((y.1,(y.2.1,(y.2.2.1,(y.2.2.2.1,(y.2.2.2.2.1,(y.2.2.2.2.2.1,(y.2.2.2.2.2.2.1,(y.2.2.2.2.2.2.2.1,())))))))),(y.2.2.2.2.2.2.2.2.1,(y.2.2.2.2.2.2.2.2.2.1,())))⟩
theorem ws (n:Nat):EntryOk Tryz.prog gl ⟨55,Ud,none,some (QL aj Zi (fun σ ρ=>oa n σ.2.1.1 ρ.1.1 ρ.1.2.1 ρ.1.2.2.1 ρ.1.2.2.2.1 ρ.1.2.2.2.2.1 ρ.1.2.2.2.2.2.1 ρ.1.2.2.2.2.2.2.1 ρ.1.2.2.2.2.2.2.2.1 ρ.2.1 ρ.2.2.1) Rf)⟩:=
 Hc (zq n) fun σ ρ y h=>Ja tys_ok (Bm n) mixed (hint:=nh n) (n:=n) Tryz.func55 (Ga (So n)) (pa (φ:=fun y=>some (Rf y)) (by kernel_rfl) (Ut n σ.2.1.1 ρ.1.1 ρ.1.2.1 ρ.1.2.2.1 ρ.1.2.2.2.1 ρ.1.2.2.2.2.1 ρ.1.2.2.2.2.2.1 ρ.1.2.2.2.2.2.2.1 ρ.1.2.2.2.2.2.2.2.1 ρ.2.1 ρ.2.2.1 _) h)
def Ye (n:Nat):List Entry:=⟨55,Ud,none,some (QL aj Zi (fun σ ρ=>oa n σ.2.1.1 ρ.1.1 ρ.1.2.1 ρ.1.2.2.1 ρ.1.2.2.2.1 ρ.1.2.2.2.2.1 ρ.1.2.2.2.2.2.1 ρ.1.2.2.2.2.2.2.1 ρ.1.2.2.2.2.2.2.2.1 ρ.2.1 ρ.2.2.1) Rf)⟩::Yl n
theorem ug (n:Nat):AllOk Tryz.prog gl (Ye n):=.cons (ws n) (Bm n)
def lk (n:Nat) {R:Type} (s prefix0:BA) (k:Bool→Option R):Option R:=
 if (decide ((s.size:Int)≥(prefix0.size:Int)))=true then
 if 0≤(prefix0.size:Int)∧(prefix0.size:Int)≤(s.size:Int) then
  k ((s.extract (Int.toNat (0:Int)) (Int.toNat (prefix0.size:Int))).toList==prefix0.toList)
 else
  none
 else
 k false
def dh (n:Nat) (s prefix0:BA):Option Bool:=lk n s prefix0 some
theorem gz (n:Nat) {S:Type}:∀ s prefix0 (φ:_→Option S),(dh n s prefix0).bind φ=lk n s prefix0 φ:=by
 intros;unfold dh lk;first | (simp only [ia,da,iB,bB,oL,oX,nB,Option.bind_some]) | rfl
def Ok (n:Nat):Hint Out:={ live:=fun c=>[],run:=fun c=>none,xm:=fun c q=>none }
theorem Nu (n:Nat):qa tys (fa Out (Ye n)) (Ok n) n (ba Tryz.f94) 0:=ma (fun _=>rfl) _ _ (by kernel_rfl)
theorem cw (n:Nat):Enters Tryz.prog 94:=enters_of (c:=ba Tryz.f94) Tryz.func94 (by kernel_rfl) (by kernel_rfl)
def Xn (n:Nat):Entry:=⟨94,qM (.pair .str (.pair .str .unit)) (.one .bool) (fun xs=>dh n xs.1 xs.2.1),none,none⟩
theorem Fx (n:Nat):EntryOk Tryz.prog gl (Xn n):=
 Ma (cw n) fun xs y h=>ra tys_ok (ug n) mixed (hint:=Ok n) (n:=n) Tryz.func94 (Ga (Nu n)) (pa (φ:=(fun y=>some (Out.ret (ch (.one .bool) y)))) (by kernel_rfl) (gz n xs.1 xs.2.1 _) h)
def Ni (n:Nat):List Entry:=Xn n::Ye n
theorem xj (n:Nat):AllOk Tryz.prog gl (Ni n):=.cons (Fx n) (ug n)
def Qi (n:Nat) {R:Type} (s prefix0:BA) (k:BA→Option R):Option R:=
 (dh n s prefix0).bind fun v=>
 if v=true then
 if 0≤(prefix0.size:Int)∧(prefix0.size:Int)≤(s.size:Int) then
  k (s.extract (Int.toNat (prefix0.size:Int)) (Int.toNat (s.size:Int)))
 else
  none
 else
 k s
def vi (n:Nat) (s prefix0:BA):Option BA:=Qi n s prefix0 some
theorem Ix (n:Nat) {S:Type}:∀ s prefix0 (φ:_→Option S),(vi n s prefix0).bind φ=Qi n s prefix0 φ:=by
 intros;unfold vi Qi;first | (simp only [ia,da,iB,bB,oL,oX,nB,Option.bind_some]) | rfl
def Cj (n:Nat):Hint Out:={ live:=fun c=>[],run:=fun c=>none,xm:=fun c q=>none }
theorem Ot (n:Nat):qa tys (fa Out (Ni n)) (Cj n) n (ba Tryz.f119) 0:=ma (fun _=>rfl) _ _ (by kernel_rfl)
theorem Qu (n:Nat):Enters Tryz.prog 119:=enters_of (c:=ba Tryz.f119) Tryz.func119 (by kernel_rfl) (by kernel_rfl)
def wm (n:Nat):Entry:=⟨119,qM (.pair .str (.pair .str .unit)) (.one .str) (fun xs=>vi n xs.1 xs.2.1),none,none⟩
theorem fw (n:Nat):EntryOk Tryz.prog gl (wm n):=
 Ma (Qu n) fun xs y h=>ra tys_ok (xj n) mixed (hint:=Cj n) (n:=n) Tryz.func119 (Ga (Ot n)) (pa (φ:=(fun y=>some (Out.ret (ch (.one .str) y)))) (by kernel_rfl) (Ix n xs.1 xs.2.1 _) h)
def Ah (n:Nat):List Entry:=wm n::Ni n
theorem Ri (n:Nat):AllOk Tryz.prog gl (Ah n):=.cons (fw n) (xj n)
def pj (n:Nat) {R:Type} (s prefix0:BA) (k:BA→Option R):Option R:=
 (vi n s prefix0).bind fun v=>
 k v
def yi (n:Nat) (s prefix0:BA):Option BA:=pj n s prefix0 some
theorem Cy (n:Nat) {S:Type}:∀ s prefix0 (φ:_→Option S),(yi n s prefix0).bind φ=pj n s prefix0 φ:=by
 intros;unfold yi pj;first | (simp only [ia,da,iB,bB,oL,oX,nB,Option.bind_some]) | rfl
def Uj (n:Nat):Hint Out:={ live:=fun c=>[],run:=fun c=>none,xm:=fun c q=>none }
theorem qu (n:Nat):qa tys (fa Out (Ah n)) (Uj n) n (ba Tryz.f90) 0:=ma (fun _=>rfl) _ _ (by kernel_rfl)
theorem xv (n:Nat):Enters Tryz.prog 90:=enters_of (c:=ba Tryz.f90) Tryz.func90 (by kernel_rfl) (by kernel_rfl)
def Gm (n:Nat):Entry:=⟨90,qM (.pair .str (.pair .str .unit)) (.one .str) (fun xs=>yi n xs.1 xs.2.1),none,none⟩
theorem Gw (n:Nat):EntryOk Tryz.prog gl (Gm n):=
 Ma (xv n) fun xs y h=>ra tys_ok (Ri n) mixed (hint:=Uj n) (n:=n) Tryz.func90 (Ga (qu n)) (pa (φ:=(fun y=>some (Out.ret (ch (.one .str) y)))) (by kernel_rfl) (Cy n xs.1 xs.2.1 _) h)
def Dh (n:Nat):List Entry:=Gm n::Ah n
theorem qj (n:Nat):AllOk Tryz.prog gl (Dh n):=.cons (Gw n) (Ri n)
def Kr (n:Nat) {R:Type} (line:BA) (k:(BA×Bool×Unit)→Option R):Option R:=
 if (line.toList==(⟨#[46]⟩:BA).toList)=true then
 k ((⟨#[]⟩:BA),(true,()))
 else
 (yi n line (⟨#[46]⟩:BA)).bind fun v=>
 k (v,(false,()))
def Kn (n:Nat) (line:BA):Option (BA×Bool×Unit):=Kr n line some
theorem uD (n:Nat) {S:Type}:∀ line (φ:_→Option S),(Kn n line).bind φ=Kr n line φ:=by
 intros;unfold Kn Kr;first | (simp only [ia,da,iB,bB,oL,oX,nB,Option.bind_some]) | rfl
def Yq (n:Nat):Hint Out:={ live:=fun c=>[],run:=fun c=>none,xm:=fun c q=>none }
theorem Yy (n:Nat):qa tys (fa Out (Dh n)) (Yq n) n (ba Tryz.f56) 0:=ma (fun _=>rfl) _ _ (by kernel_rfl)
theorem xA (n:Nat):Enters Tryz.prog 56:=enters_of (c:=ba Tryz.f56) Tryz.func56 (by kernel_rfl) (by kernel_rfl)
def Jv (n:Nat):Entry:=⟨56,qM (.pair .str .unit) (.many (.pair .str (.pair .bool .unit))) (fun xs=>Kn n xs.1),none,none⟩
theorem QB (n:Nat):EntryOk Tryz.prog gl (Jv n):=
 Ma (xA n) fun xs y h=>ra tys_ok (qj n) mixed (hint:=Yq n) (n:=n) Tryz.func56 (Ga (Yy n)) (pa (φ:=(fun y=>some (Out.ret (ch (.many (.pair .str (.pair .bool .unit))) y)))) (by kernel_rfl) (uD n xs.1 _) h)
def Ln (n:Nat):List Entry:=Jv n::Dh n
theorem Mn (n:Nat):AllOk Tryz.prog gl (Ln n):=.cons (QB n) (qj n)
def Sf (n:Nat) {R:Type} (code:Int) (b0:Bool) (b01:(Sq Int)) (b02:BA) (b03:Bool) (b04:BA) (b05:(Sq BA)) (b06:BA) (b07:Bool) (b08:BA) (r1:(Sq BA)) (k:U3→Option R):Option R:=
 (Ci n code).bind fun v=>
 if Wa b08 v=true then
 k (b0,(b01,(b02,(b03,(b04,(b05,(b06,(b07,((b08++v),(r1,()))))))))))
 else
 none
def db (n:Nat) (code:Int) (b0:Bool) (b01:(Sq Int)) (b02:BA) (b03:Bool) (b04:BA) (b05:(Sq BA)) (b06:BA) (b07:Bool) (b08:BA) (r1:(Sq BA)):Option U3:=Sf n code b0 b01 b02 b03 b04 b05 b06 b07 b08 r1 some
theorem Vt (n:Nat) {S:Type}:∀ code b0 b01 b02 b03 b04 b05 b06 b07 b08 r1 (φ:_→Option S),(db n code b0 b01 b02 b03 b04 b05 b06 b07 b08 r1).bind φ=Sf n code b0 b01 b02 b03 b04 b05 b06 b07 b08 r1 φ:=by
 intros;unfold db Sf;first | (simp only [ia,da,iB,bB,oL,oX,nB,Option.bind_some]) | rfl
def oh (n:Nat):Hint OutS:={ live:=fun c=>[],run:=fun c=>none,xm:=fun c q=>none,sch:=fun c=>(cond (Nat.beq c 0) (some [(0,0),(1,0),(2,0),(4,0),(3,1),(5,3),(6,0),(7,0),(8,0),(9,2)]) none),nb:=[(71,1,.frz (.int .i64)),(71,5,.prm 9),(71,8,.prm 9)] }
theorem Uo (n:Nat):qa tys (fa OutS (Ln n)).keep (oh n) n (ba Tryz.f55) 0:=ma (fun _=>rfl) _ _ (by kernel_rfl)
theorem Cq (n:Nat):Enters Tryz.prog 55:=enters_of (c:=ba Tryz.f55) Tryz.func55 (by kernel_rfl) (by kernel_rfl)
def cj:List RSp:=[.one (.ptr 0 0 0),.one (.dat (.int .i64))]
def bj:List RS:=[.box 71 10 false [.dat .bool,.dat (.sl (.int .i64)),.dat .str,.dat .bool,.dat .str,.dat (.sl .str),.dat .str,.dat .bool,.row 1,.dat .str],.row 9 1 .str true true]
def Dq:List Sl:=[.ptr 0 0 0,.top]
def Fq:List RSp:=[]
def Lc:List RS:=[.box 71 10 false [.dat .bool,.dat (.sl (.int .i64)),.dat .str,.dat .bool,.dat .str,.dat (.sl .str),.dat .str,.dat .bool,.row 1,.dat .str],.row 9 1 .str true true]
def Tf (y:U3):OutS:=⟨false,Bi (Hb Lc ((y.1,(y.2.1,(y.2.2.1,(y.2.2.2.1,(y.2.2.2.2.1,(y.2.2.2.2.2.1,(y.2.2.2.2.2.2.1,(y.2.2.2.2.2.2.2.1,(y.2.2.2.2.2.2.2.2.1,()))))))))),(y.2.2.2.2.2.2.2.2.2.1,()))) Dq (),Pq (Wp (Hb Lc ((y.1,(y.2.1,(y.2.2.1,(y.2.2.2.1,(y.2.2.2.2.1,(y.2.2.2.2.2.1,(y.2.2.2.2.2.2.1,(y.2.2.2.2.2.2.2.1,(y.2.2.2.2.2.2.2.2.1,()))))))))),(y.2.2.2.2.2.2.2.2.2.1,()))) Fq ()),Nk (Hb Lc ((y.1,(y.2.1,(y.2.2.1,(y.2.2.2.1,(y.2.2.2.2.1,(y.2.2.2.2.2.1,(y.2.2.2.2.2.2.1,(y.2.2.2.2.2.2.2.1,(y.2.2.2.2.2.2.2.2.1,()))))))))),(y.2.2.2.2.2.2.2.2.2.1,()))) Lc ((y.1,(y.2.1,(y.2.2.1,(y.2.2.2.1,(y.2.2.2.2.1,(y.2.2.2.2.2.1,(y.2.2.2.2.2.2.1,(y.2.2.2.2.2.2.2.1,(y.2.2.2.2.2.2.2.2.1,()))))))))),(y.2.2.2.2.2.2.2.2.2.1,()))⟩
theorem As (n:Nat):EntryOk Tryz.prog gl ⟨55,Ud,none,some (QL cj bj (fun σ ρ=>db n σ.2.1.1 ρ.1.1 ρ.1.2.1 ρ.1.2.2.1 ρ.1.2.2.2.1 ρ.1.2.2.2.2.1 ρ.1.2.2.2.2.2.1 ρ.1.2.2.2.2.2.2.1 ρ.1.2.2.2.2.2.2.2.1 ρ.1.2.2.2.2.2.2.2.2.1 ρ.2.1) Tf)⟩:=
 Hc (Cq n) fun σ ρ y h=>Ja tys_ok (Mn n) mixed (hint:=oh n) (n:=n) Tryz.func55 (Ga (Uo n)) (pa (φ:=fun y=>some (Tf y)) (by kernel_rfl) (Vt n σ.2.1.1 ρ.1.1 ρ.1.2.1 ρ.1.2.2.1 ρ.1.2.2.2.1 ρ.1.2.2.2.2.1 ρ.1.2.2.2.2.2.1 ρ.1.2.2.2.2.2.2.1 ρ.1.2.2.2.2.2.2.2.1 ρ.1.2.2.2.2.2.2.2.2.1 ρ.2.1 _) h)
def Ze (n:Nat):List Entry:=⟨55,Ud,none,some (QL cj bj (fun σ ρ=>db n σ.2.1.1 ρ.1.1 ρ.1.2.1 ρ.1.2.2.1 ρ.1.2.2.2.1 ρ.1.2.2.2.2.1 ρ.1.2.2.2.2.2.1 ρ.1.2.2.2.2.2.2.1 ρ.1.2.2.2.2.2.2.2.1 ρ.1.2.2.2.2.2.2.2.2.1 ρ.2.1) Tf)⟩::Ln n
theorem vg (n:Nat):AllOk Tryz.prog gl (Ze n):=.cons (As n) (Mn n)
def ee (n:Nat) {R:Type} (b0:Bool) (b01:(Sq Int)) (b02:BA) (b03:Bool) (b04:BA) (b05:(Sq BA)) (b06:BA) (b07:Bool) (b08:BA) (r1:(Sq BA)) (k:U5→Option R):Option R:=
 if (decide ((b01.n:Int)>(0:Int)))=true then
 if 0≤(0:Int)∧(0:Int)<(b01.n:Int) then
  if (decide ((b01.at' (Int.toNat (0:Int)))≥(400:Int)))=true then
  if (decide ((b01.at' (Int.toNat (0:Int)))≤(599:Int)))=true then
   if 0≤(1:Int)∧(1:Int)≤(b01.n:Int) then
   (db n (b01.at' (Int.toNat (0:Int))) b0 (⟨((Int.toNat (b01.n:Int)) - (Int.toNat (1:Int))),fun i=>b01.at' ((Int.toNat (1:Int))+i)⟩:Sq Int) b02 b03 b04 b05 b06 b07 b08 r1).bind fun v=>
   k (((b01.at' (Int.toNat (0:Int)))==(250:Int)),(v.1,(v.2.1,(v.2.2.1,(v.2.2.2.1,(v.2.2.2.2.1,(v.2.2.2.2.2.1,(v.2.2.2.2.2.2.1,(v.2.2.2.2.2.2.2.1,(v.2.2.2.2.2.2.2.2.1,(v.2.2.2.2.2.2.2.2.2.1,())))))))))))
   else
   none
  else
   if 0≤(1:Int)∧(1:Int)≤(b01.n:Int) then
   (db n (250:Int) b0 (⟨((Int.toNat (b01.n:Int)) - (Int.toNat (1:Int))),fun i=>b01.at' ((Int.toNat (1:Int))+i)⟩:Sq Int) b02 b03 b04 b05 b06 b07 b08 r1).bind fun v1=>
   k (((250:Int)==(250:Int)),(v1.1,(v1.2.1,(v1.2.2.1,(v1.2.2.2.1,(v1.2.2.2.2.1,(v1.2.2.2.2.2.1,(v1.2.2.2.2.2.2.1,(v1.2.2.2.2.2.2.2.1,(v1.2.2.2.2.2.2.2.2.1,(v1.2.2.2.2.2.2.2.2.2.1,())))))))))))
   else
   none
  else
  if 0≤(1:Int)∧(1:Int)≤(b01.n:Int) then
   (db n (250:Int) b0 (⟨((Int.toNat (b01.n:Int)) - (Int.toNat (1:Int))),fun i=>b01.at' ((Int.toNat (1:Int))+i)⟩:Sq Int) b02 b03 b04 b05 b06 b07 b08 r1).bind fun v2=>
   k (((250:Int)==(250:Int)),(v2.1,(v2.2.1,(v2.2.2.1,(v2.2.2.2.1,(v2.2.2.2.2.1,(v2.2.2.2.2.2.1,(v2.2.2.2.2.2.2.1,(v2.2.2.2.2.2.2.2.1,(v2.2.2.2.2.2.2.2.2.1,(v2.2.2.2.2.2.2.2.2.2.1,())))))))))))
  else
   none
 else
  none
 else
 (db n (250:Int) b0 b01 b02 b03 b04 b05 b06 b07 b08 r1).bind fun v3=>
 k (((250:Int)==(250:Int)),(v3.1,(v3.2.1,(v3.2.2.1,(v3.2.2.2.1,(v3.2.2.2.2.1,(v3.2.2.2.2.2.1,(v3.2.2.2.2.2.2.1,(v3.2.2.2.2.2.2.2.1,(v3.2.2.2.2.2.2.2.2.1,(v3.2.2.2.2.2.2.2.2.2.1,())))))))))))
def Ka (n:Nat) (b0:Bool) (b01:(Sq Int)) (b02:BA) (b03:Bool) (b04:BA) (b05:(Sq BA)) (b06:BA) (b07:Bool) (b08:BA) (r1:(Sq BA)):Option U5:=ee n b0 b01 b02 b03 b04 b05 b06 b07 b08 r1 some
theorem sq (n:Nat) {S:Type}:∀ b0 b01 b02 b03 b04 b05 b06 b07 b08 r1 (φ:_→Option S),(Ka n b0 b01 b02 b03 b04 b05 b06 b07 b08 r1).bind φ=ee n b0 b01 b02 b03 b04 b05 b06 b07 b08 r1 φ:=by
 intros;unfold Ka ee;first | (simp only [ia,da,iB,bB,oL,oX,nB,Option.bind_some]) | rfl
def If (n:Nat):Hint OutS:={ live:=fun c=>[],run:=fun c=>none,xm:=fun c q=>none,nb:=[(71,1,.frz (.int .i64)),(71,5,.prm 9),(71,8,.prm 9)] }
theorem Ql (n:Nat):qa tys (fa OutS (Ze n)).keep (If n) n (ba Tryz.f91) 0:=ma (fun _=>rfl) _ _ (by kernel_rfl)
theorem Pm (n:Nat):Enters Tryz.prog 91:=enters_of (c:=ba Tryz.f91) Tryz.func91 (by kernel_rfl) (by kernel_rfl)
def kh:List RSp:=[.one (.ptr 0 0 0)]
def jh:List RS:=[.box 71 10 false [.dat .bool,.dat (.sl (.int .i64)),.dat .str,.dat .bool,.dat .str,.dat (.sl .str),.dat .str,.dat .bool,.row 1,.dat .str],.row 9 1 .str true true]
def Qm:List Sl:=[.ptr 0 0 0]
def Rm:List RSp:=[.one (.dat .bool)]
def Yb:List RS:=[.box 71 10 false [.dat .bool,.dat (.sl (.int .i64)),.dat .str,.dat .bool,.dat .str,.dat (.sl .str),.dat .str,.dat .bool,.row 1,.dat .str],.row 9 1 .str true true]
def fe (y:U5):OutS:=⟨false,Bi (Hb Yb ((y.2.1,(y.2.2.1,(y.2.2.2.1,(y.2.2.2.2.1,(y.2.2.2.2.2.1,(y.2.2.2.2.2.2.1,(y.2.2.2.2.2.2.2.1,(y.2.2.2.2.2.2.2.2.1,(y.2.2.2.2.2.2.2.2.2.1,()))))))))),(y.2.2.2.2.2.2.2.2.2.2.1,()))) Qm (),Pq (Wp (Hb Yb ((y.2.1,(y.2.2.1,(y.2.2.2.1,(y.2.2.2.2.1,(y.2.2.2.2.2.1,(y.2.2.2.2.2.2.1,(y.2.2.2.2.2.2.2.1,(y.2.2.2.2.2.2.2.2.1,(y.2.2.2.2.2.2.2.2.2.1,()))))))))),(y.2.2.2.2.2.2.2.2.2.2.1,()))) Rm ((y.1,()),())),Nk (Hb Yb ((y.2.1,(y.2.2.1,(y.2.2.2.1,(y.2.2.2.2.1,(y.2.2.2.2.2.1,(y.2.2.2.2.2.2.1,(y.2.2.2.2.2.2.2.1,(y.2.2.2.2.2.2.2.2.1,(y.2.2.2.2.2.2.2.2.2.1,()))))))))),(y.2.2.2.2.2.2.2.2.2.2.1,()))) Yb ((y.2.1,(y.2.2.1,(y.2.2.2.1,(y.2.2.2.2.1,(y.2.2.2.2.2.1,(y.2.2.2.2.2.2.1,(y.2.2.2.2.2.2.2.1,(y.2.2.2.2.2.2.2.2.1,(y.2.2.2.2.2.2.2.2.2.1,()))))))))),(y.2.2.2.2.2.2.2.2.2.2.1,()))⟩
theorem wo (n:Nat):EntryOk Tryz.prog gl ⟨91,Ud,none,some (QL kh jh (fun σ ρ=>Ka n ρ.1.1 ρ.1.2.1 ρ.1.2.2.1 ρ.1.2.2.2.1 ρ.1.2.2.2.2.1 ρ.1.2.2.2.2.2.1 ρ.1.2.2.2.2.2.2.1 ρ.1.2.2.2.2.2.2.2.1 ρ.1.2.2.2.2.2.2.2.2.1 ρ.2.1) fe)⟩:=
 Hc (Pm n) fun σ ρ y h=>Ja tys_ok (vg n) mixed (hint:=If n) (n:=n) Tryz.func91 (Ga (Ql n)) (pa (φ:=fun y=>some (fe y)) (by kernel_rfl) (sq n ρ.1.1 ρ.1.2.1 ρ.1.2.2.1 ρ.1.2.2.2.1 ρ.1.2.2.2.2.1 ρ.1.2.2.2.2.2.1 ρ.1.2.2.2.2.2.2.1 ρ.1.2.2.2.2.2.2.2.1 ρ.1.2.2.2.2.2.2.2.2.1 ρ.2.1 _) h)
def Md (n:Nat):List Entry:=⟨91,Ud,none,some (QL kh jh (fun σ ρ=>Ka n ρ.1.1 ρ.1.2.1 ρ.1.2.2.1 ρ.1.2.2.2.1 ρ.1.2.2.2.2.1 ρ.1.2.2.2.2.2.1 ρ.1.2.2.2.2.2.2.1 ρ.1.2.2.2.2.2.2.2.1 ρ.1.2.2.2.2.2.2.2.2.1 ρ.2.1) fe)⟩::Ze n
theorem nf (n:Nat):AllOk Tryz.prog gl (Md n):=.cons (wo n) (vg n)
def Vb (n:Nat) {R:Type} (to:BA) (b0:Bool) (b01:(Sq Int)) (b02:BA) (b03:Bool) (b04:BA) (b05:(Sq BA)) (b06:BA) (b07:Bool) (b08:BA) (r1:(Sq BA)) (k:U3→Option R):Option R:=
 SL 1 (
 if Pd (r1.n+3) 16=true then
  k (b0,(b01,(b02,(b03,(b04,(b05,(b06,(b07,(b08,((⟨(r1.n+3),fun q=>if q<r1.n then r1.at' q else (fun q=>List.getD (α:=BA) [b04,to,b06] q (Na .str)) (q - r1.n)⟩:Sq BA),()))))))))))
 else
  none)
def Ta (n:Nat) (to:BA) (b0:Bool) (b01:(Sq Int)) (b02:BA) (b03:Bool) (b04:BA) (b05:(Sq BA)) (b06:BA) (b07:Bool) (b08:BA) (r1:(Sq BA)):Option U3:=Vb n to b0 b01 b02 b03 b04 b05 b06 b07 b08 r1 some
theorem Bs (n:Nat) {S:Type}:∀ to b0 b01 b02 b03 b04 b05 b06 b07 b08 r1 (φ:_→Option S),(Ta n to b0 b01 b02 b03 b04 b05 b06 b07 b08 r1).bind φ=Vb n to b0 b01 b02 b03 b04 b05 b06 b07 b08 r1 φ:=by
 intros;unfold Ta Vb;first | (simp only [ia,da,iB,bB,oL,oX,nB,Option.bind_some]) | rfl
def wg (n:Nat):Hint OutS:={ live:=fun c=>[],run:=fun c=>none,xm:=fun c q=>none,sch:=fun c=>(cond (Nat.beq c 0) (some [(0,0),(1,0),(2,0),(3,0),(5,0),(6,0),(7,0),(9,0),(10,0),(11,0),(12,0),(8,1),(13,1),(14,5),(4,7),(15,2),(16,6),(17,6),(18,2)]) none),nb:=[(71,1,.frz (.int .i64)),(71,5,.prm 9),(71,8,.prm 9)] }
theorem bn (n:Nat):qa tys (fa OutS (Md n)).keep (wg n) n (ba Tryz.f92) 0:=ma (fun _=>rfl) _ _ (by kernel_rfl)
theorem Wo (n:Nat):Enters Tryz.prog 92:=enters_of (c:=ba Tryz.f92) Tryz.func92 (by kernel_rfl) (by kernel_rfl)
def Yh:List RSp:=[.one (.ptr 0 0 0),.one (.dat .str)]
def Xh:List RS:=[.box 71 10 false [.dat .bool,.dat (.sl (.int .i64)),.dat .str,.dat .bool,.dat .str,.dat (.sl .str),.dat .str,.dat .bool,.row 1,.dat .str],.row 9 1 .str true true]
def Xo:List Sl:=[.ptr 0 0 0,.top]
def Yo:List RSp:=[]
def zc:List RS:=[.box 71 10 false [.dat .bool,.dat (.sl (.int .i64)),.dat .str,.dat .bool,.dat .str,.dat (.sl .str),.dat .str,.dat .bool,.row 1,.dat .str],.row 9 1 .str true true]
def af (y:U3):OutS:=⟨false,Bi (Hb zc ((y.1,(y.2.1,(y.2.2.1,(y.2.2.2.1,(y.2.2.2.2.1,(y.2.2.2.2.2.1,(y.2.2.2.2.2.2.1,(y.2.2.2.2.2.2.2.1,(y.2.2.2.2.2.2.2.2.1,()))))))))),(y.2.2.2.2.2.2.2.2.2.1,()))) Xo (),Pq (Wp (Hb zc ((y.1,(y.2.1,(y.2.2.1,(y.2.2.2.1,(y.2.2.2.2.1,(y.2.2.2.2.2.1,(y.2.2.2.2.2.2.1,(y.2.2.2.2.2.2.2.1,(y.2.2.2.2.2.2.2.2.1,()))))))))),(y.2.2.2.2.2.2.2.2.2.1,()))) Yo ()),Nk (Hb zc ((y.1,(y.2.1,(y.2.2.1,(y.2.2.2.1,(y.2.2.2.2.1,(y.2.2.2.2.2.1,(y.2.2.2.2.2.2.1,(y.2.2.2.2.2.2.2.1,(y.2.2.2.2.2.2.2.2.1,()))))))))),(y.2.2.2.2.2.2.2.2.2.1,()))) zc ((y.1,(y.2.1,(y.2.2.1,(y.2.2.2.1,(y.2.2.2.2.1,(y.2.2.2.2.2.1,(y.2.2.2.2.2.2.1,(y.2.2.2.2.2.2.2.1,(y.2.2.2.2.2.2.2.2.1,()))))))))),(y.2.2.2.2.2.2.2.2.2.1,()))⟩
theorem Gq (n:Nat):EntryOk Tryz.prog gl ⟨92,Ud,none,some (QL Yh Xh (fun σ ρ=>Ta n σ.2.1.1 ρ.1.1 ρ.1.2.1 ρ.1.2.2.1 ρ.1.2.2.2.1 ρ.1.2.2.2.2.1 ρ.1.2.2.2.2.2.1 ρ.1.2.2.2.2.2.2.1 ρ.1.2.2.2.2.2.2.2.1 ρ.1.2.2.2.2.2.2.2.2.1 ρ.2.1) af)⟩:=
 Hc (Wo n) fun σ ρ y h=>Ja tys_ok (nf n) mixed (hint:=wg n) (n:=n) Tryz.func92 (Ga (bn n)) (pa (φ:=fun y=>some (af y)) (by kernel_rfl) (Bs n σ.2.1.1 ρ.1.1 ρ.1.2.1 ρ.1.2.2.1 ρ.1.2.2.2.1 ρ.1.2.2.2.2.1 ρ.1.2.2.2.2.2.1 ρ.1.2.2.2.2.2.2.1 ρ.1.2.2.2.2.2.2.2.1 ρ.1.2.2.2.2.2.2.2.2.1 ρ.2.1 _) h)
def ue (n:Nat):List Entry:=⟨92,Ud,none,some (QL Yh Xh (fun σ ρ=>Ta n σ.2.1.1 ρ.1.1 ρ.1.2.1 ρ.1.2.2.1 ρ.1.2.2.2.1 ρ.1.2.2.2.2.1 ρ.1.2.2.2.2.2.1 ρ.1.2.2.2.2.2.2.1 ρ.1.2.2.2.2.2.2.2.1 ρ.1.2.2.2.2.2.2.2.2.1 ρ.2.1) af)⟩::Md n
theorem Uf (n:Nat):AllOk Tryz.prog gl (ue n):=.cons (Gq n) (nf n)
def Ne (n:Nat) {R:Type} (b0:Bool) (b01:(Sq Int)) (b02:BA) (b03:Bool) (b04:BA) (b05:(Sq BA)) (b06:BA) (b07:Bool) (b08:BA) (r1:(Sq BA)) (k:U0→Option R):Option R:=
 k (b0,(b01,(b02,(b03,((⟨#[]⟩:BA),((⟨#[]⟩:BA),(false,(b08,((⟨0,fun _=>Na .str⟩:Sq BA),(r1,()))))))))))
def Qa (n:Nat) (b0:Bool) (b01:(Sq Int)) (b02:BA) (b03:Bool) (b04:BA) (b05:(Sq BA)) (b06:BA) (b07:Bool) (b08:BA) (r1:(Sq BA)):Option U0:=Ne n b0 b01 b02 b03 b04 b05 b06 b07 b08 r1 some
theorem Xr (n:Nat) {S:Type}:∀ b0 b01 b02 b03 b04 b05 b06 b07 b08 r1 (φ:_→Option S),(Qa n b0 b01 b02 b03 b04 b05 b06 b07 b08 r1).bind φ=Ne n b0 b01 b02 b03 b04 b05 b06 b07 b08 r1 φ:=by
 intros;unfold Qa Ne;first | (simp only [ia,da,iB,bB,oL,oX,nB,Option.bind_some]) | rfl
def ng (n:Nat):Hint OutS:={ live:=fun c=>[],run:=fun c=>none,xm:=fun c q=>none,nb:=[(71,1,.frz (.int .i64)),(71,5,.prm 9),(71,8,.prm 9)] }
theorem Nm (n:Nat):qa tys (fa OutS (ue n)).keep (ng n) n (ba Tryz.f93) 0:=ma (fun _=>rfl) _ _ (by kernel_rfl)
theorem oo (n:Nat):Enters Tryz.prog 93:=enters_of (c:=ba Tryz.f93) Tryz.func93 (by kernel_rfl) (by kernel_rfl)
def Kh:List RSp:=[.one (.ptr 0 0 0)]
def Jh:List RS:=[.box 71 10 false [.dat .bool,.dat (.sl (.int .i64)),.dat .str,.dat .bool,.dat .str,.dat (.sl .str),.dat .str,.dat .bool,.row 1,.dat .str],.row 9 1 .str true true]
def po:List Sl:=[.ptr 0 0 0]
def qo:List RSp:=[]
def qc:List RS:=[.box 71 10 false [.dat .bool,.dat (.sl (.int .i64)),.dat .str,.dat .bool,.dat .str,.row 1,.dat .str,.dat .bool,.row 2,.dat .str],.row 9 1 .str true true,.row 9 1 .str true true]
def Oe (y:U0):OutS:=⟨false,Bi (Hb qc ((y.1,(y.2.1,(y.2.2.1,(y.2.2.2.1,(y.2.2.2.2.1,(y.2.2.2.2.2.1,(y.2.2.2.2.2.2.1,(y.2.2.2.2.2.2.2.1,())))))))),(y.2.2.2.2.2.2.2.2.1,(y.2.2.2.2.2.2.2.2.2.1,())))) po (),Pq (Wp (Hb qc ((y.1,(y.2.1,(y.2.2.1,(y.2.2.2.1,(y.2.2.2.2.1,(y.2.2.2.2.2.1,(y.2.2.2.2.2.2.1,(y.2.2.2.2.2.2.2.1,())))))))),(y.2.2.2.2.2.2.2.2.1,(y.2.2.2.2.2.2.2.2.2.1,())))) qo ()),Nk (Hb qc ((y.1,(y.2.1,(y.2.2.1,(y.2.2.2.1,(y.2.2.2.2.1,(y.2.2.2.2.2.1,(y.2.2.2.2.2.2.1,(y.2.2.2.2.2.2.2.1,())))))))),(y.2.2.2.2.2.2.2.2.1,(y.2.2.2.2.2.2.2.2.2.1,())))) qc ((y.1,(y.2.1,(y.2.2.1,(y.2.2.2.1,(y.2.2.2.2.1,(y.2.2.2.2.2.1,(y.2.2.2.2.2.2.1,(y.2.2.2.2.2.2.2.1,())))))))),(y.2.2.2.2.2.2.2.2.1,(y.2.2.2.2.2.2.2.2.2.1,())))⟩
theorem qq (n:Nat):EntryOk Tryz.prog gl ⟨93,Ud,none,some (QL Kh Jh (fun σ ρ=>Qa n ρ.1.1 ρ.1.2.1 ρ.1.2.2.1 ρ.1.2.2.2.1 ρ.1.2.2.2.2.1 ρ.1.2.2.2.2.2.1 ρ.1.2.2.2.2.2.2.1 ρ.1.2.2.2.2.2.2.2.1 ρ.1.2.2.2.2.2.2.2.2.1 ρ.2.1) Oe)⟩:=
 Hc (oo n) fun σ ρ y h=>Ja tys_ok (Uf n) mixed (hint:=ng n) (n:=n) Tryz.func93 (Ga (Nm n)) (pa (φ:=fun y=>some (Oe y)) (by kernel_rfl) (Xr n ρ.1.1 ρ.1.2.1 ρ.1.2.2.1 ρ.1.2.2.2.1 ρ.1.2.2.2.2.1 ρ.1.2.2.2.2.2.1 ρ.1.2.2.2.2.2.2.1 ρ.1.2.2.2.2.2.2.2.1 ρ.1.2.2.2.2.2.2.2.2.1 ρ.2.1 _) h)
def Eb (n:Nat):List Entry:=⟨93,Ud,none,some (QL Kh Jh (fun σ ρ=>Qa n ρ.1.1 ρ.1.2.1 ρ.1.2.2.1 ρ.1.2.2.2.1 ρ.1.2.2.2.2.1 ρ.1.2.2.2.2.2.1 ρ.1.2.2.2.2.2.2.1 ρ.1.2.2.2.2.2.2.2.1 ρ.1.2.2.2.2.2.2.2.2.1 ρ.2.1) Oe)⟩::ue n
theorem Gf (n:Nat):AllOk Tryz.prog gl (Eb n):=.cons (qq n) (Uf n)
def Za (n:Nat) {R:Type} (ok:Bool) (t17:(Sq BA)) (t18 t19:Int) (p:Bool) (p1:(Sq Int)) (p2:BA) (p3:Bool) (p4:BA) (p5:(Sq BA)) (p6:BA) (p7:Bool) (p8:BA) (r11:(Sq BA)) (kn:Bool→(Sq BA)→Int→Int→Bool→(Sq Int)→BA→Bool→BA→(Sq BA)→BA→Bool→BA→(Sq BA)→Option R) (ko:U7→Option R) (kr:Unit→Option R) (kp:Int→Option R):Option R:=
 if (decide (t19<t18))=true then
 if 0≤t19∧t19<(t17.n:Int) then
  if ok=false then
  if p=true then
   (Ka n p p1 p2 p3 p4 p5 p6 p7 p8 r11).bind fun v1=>
   if v1.1=true then
   (Ta n (t17.at' (Int.toNat t19)) v1.2.1 v1.2.2.1 v1.2.2.2.1 v1.2.2.2.2.1 v1.2.2.2.2.2.1 v1.2.2.2.2.2.2.1 v1.2.2.2.2.2.2.2.1 v1.2.2.2.2.2.2.2.2.1 v1.2.2.2.2.2.2.2.2.2.1 v1.2.2.2.2.2.2.2.2.2.2.1).bind fun v2=>
   kn ok t17 t18 (IntKind.wrap .i64 (t19+(1:Int))) v2.1 v2.2.1 v2.2.2.1 v2.2.2.2.1 v2.2.2.2.2.1 v2.2.2.2.2.2.1 v2.2.2.2.2.2.2.1 v2.2.2.2.2.2.2.2.1 v2.2.2.2.2.2.2.2.2.1 v2.2.2.2.2.2.2.2.2.2.1
   else
   kn ok t17 t18 (IntKind.wrap .i64 (t19+(1:Int))) v1.2.1 v1.2.2.1 v1.2.2.2.1 v1.2.2.2.2.1 v1.2.2.2.2.2.1 v1.2.2.2.2.2.2.1 v1.2.2.2.2.2.2.2.1 v1.2.2.2.2.2.2.2.2.1 v1.2.2.2.2.2.2.2.2.2.1 v1.2.2.2.2.2.2.2.2.2.2.1
  else
   kn ok t17 t18 (IntKind.wrap .i64 (t19+(1:Int))) p p1 p2 p3 p4 p5 p6 p7 p8 r11
  else
  (Ta n (t17.at' (Int.toNat t19)) p p1 p2 p3 p4 p5 p6 p7 p8 r11).bind fun v3=>
  kn ok t17 t18 (IntKind.wrap .i64 (t19+(1:Int))) v3.1 v3.2.1 v3.2.2.1 v3.2.2.2.1 v3.2.2.2.2.1 v3.2.2.2.2.2.1 v3.2.2.2.2.2.2.1 v3.2.2.2.2.2.2.2.1 v3.2.2.2.2.2.2.2.2.1 v3.2.2.2.2.2.2.2.2.2.1
 else
  none
 else
 ko (p,p1,p2,p3,p4,p5,p6,p7,p8,r11)
def ta (n:Nat):Nat→Bool→(Sq BA)→Int→Int→Bool→(Sq Int)→BA→Bool→BA→(Sq BA)→BA→Bool→BA→(Sq BA)→Option (Lx U7 Unit)
 | 0,_,_,_,_,_,_,_,_,_,_,_,_,_,_=>none
 | m+1,ok,t17,t18,t19,p,p1,p2,p3,p4,p5,p6,p7,p8,r11=>Za n ok t17 t18 t19 p p1 p2 p3 p4 p5 p6 p7 p8 r11 (ta n m) (fun a=>some (.out a)) (fun a=>some (.ret a)) (fun p=>some (.pan p))
theorem Wm (n m:Nat) {S:Type}:∀ ok t17 t18 t19 p p1 p2 p3 p4 p5 p6 p7 p8 r11 (φ:_→Option S),(ta n (m+1) ok t17 t18 t19 p p1 p2 p3 p4 p5 p6 p7 p8 r11).bind φ=Za n ok t17 t18 t19 p p1 p2 p3 p4 p5 p6 p7 p8 r11 (fun ok t17 t18 t19 p p1 p2 p3 p4 p5 p6 p7 p8 r11=>(ta n m ok t17 t18 t19 p p1 p2 p3 p4 p5 p6 p7 p8 r11).bind φ) (fun a=>φ (.out a)) (fun a=>φ (.ret a)) (fun p=>φ (.pan p)):=by
 intros;first | (simp only [ta,Za,ia,da,iB,bB,oL,oX,nB,Option.bind_some]) | rfl
def ed:List Sl:=.ptr 0 0 0::.top::.dat .bool::tp 14 (.dat (.sl .str)::.dat (.int .i64)::.dat (.int .i64)::tp 20 [])
def cd:List RS:=[.box 71 10 false [.dat .bool,.dat (.sl (.int .i64)),.dat .str,.dat .bool,.dat .str,.dat (.sl .str),.dat .str,.dat .bool,.row 1,.dat .str],.row 9 1 .str true true,.ghost [.ptr 0 0 0]]
def Yi:List Sl:=.ptr 0 0 0::tp 39 []
def Xi:List RS:=[.box 71 10 false [.dat .bool,.dat (.sl (.int .i64)),.dat .str,.dat .bool,.dat .str,.dat (.sl .str),.dat .str,.dat .bool,.row 1,.dat .str],.row 9 1 .str true true,.ghost [.ptr 0 0 0]]
def Fa (K:XE→List AV→ea→Option OutS):Lx U7 Unit→Option OutS:=fun x=>lM x (fun a=>Ky Yi Xi () ((a.1,(a.2.1,(a.2.2.1,(a.2.2.2.1,(a.2.2.2.2.1,(a.2.2.2.2.2.1,(a.2.2.2.2.2.2.1,(a.2.2.2.2.2.2.2.1,(a.2.2.2.2.2.2.2.2.1,()))))))))),(a.2.2.2.2.2.2.2.2.2,((),()))) (K (.exit 0))) (fun _=>none) (fun _=>none)
def Sb (n:Nat) {R:Type} (b0:Bool) (b01:(Sq Int)) (b02:BA) (b03:Bool) (b04 b05:BA) (b06:Bool) (b07:BA) (r1 r2:(Sq BA)) (k:U0→Option R):Option R:=
 if (!b0)=true then
 (Ka n b0 b01 b02 b03 b04 r1 b05 b06 b07 r2).bind fun v=>
 (ta n n v.1 v.2.2.2.2.2.2.1 (v.2.2.2.2.2.2.1.n:Int) (0:Int) v.2.1 v.2.2.1 v.2.2.2.1 v.2.2.2.2.1 v.2.2.2.2.2.1 v.2.2.2.2.2.2.1 v.2.2.2.2.2.2.2.1 v.2.2.2.2.2.2.2.2.1 v.2.2.2.2.2.2.2.2.2.1 v.2.2.2.2.2.2.2.2.2.2.1).bind fun x_1=>lM x_1
  (fun a_2=>
  (Qa n a_2.1 a_2.2.1 a_2.2.2.1 a_2.2.2.2.1 a_2.2.2.2.2.1 a_2.2.2.2.2.2.1 a_2.2.2.2.2.2.2.1 a_2.2.2.2.2.2.2.2.1 a_2.2.2.2.2.2.2.2.2.1 a_2.2.2.2.2.2.2.2.2.2).bind fun v4=>
  k (v4.1,(v4.2.1,(v4.2.2.1,(v4.2.2.2.1,(v4.2.2.2.2.1,(v4.2.2.2.2.2.1,(v4.2.2.2.2.2.2.1,(v4.2.2.2.2.2.2.2.1,(v4.2.2.2.2.2.2.2.2.1,(v4.2.2.2.2.2.2.2.2.2.1,())))))))))))
  (fun _=>none)
  (fun _=>none)
 else
 (ta n n false r1 (r1.n:Int) (0:Int) b0 b01 b02 b03 b04 r1 b05 b06 b07 r2).bind fun x_3=>lM x_3
  (fun a_4=>
  (Qa n a_4.1 a_4.2.1 a_4.2.2.1 a_4.2.2.2.1 a_4.2.2.2.2.1 a_4.2.2.2.2.2.1 a_4.2.2.2.2.2.2.1 a_4.2.2.2.2.2.2.2.1 a_4.2.2.2.2.2.2.2.2.1 a_4.2.2.2.2.2.2.2.2.2).bind fun v5=>
  k (v5.1,(v5.2.1,(v5.2.2.1,(v5.2.2.2.1,(v5.2.2.2.2.1,(v5.2.2.2.2.2.1,(v5.2.2.2.2.2.2.1,(v5.2.2.2.2.2.2.2.1,(v5.2.2.2.2.2.2.2.2.1,(v5.2.2.2.2.2.2.2.2.2.1,())))))))))))
  (fun _=>none)
  (fun _=>none)
def lb (n:Nat) (b0:Bool) (b01:(Sq Int)) (b02:BA) (b03:Bool) (b04 b05:BA) (b06:Bool) (b07:BA) (r1 r2:(Sq BA)):Option U0:=Sb n b0 b01 b02 b03 b04 b05 b06 b07 r1 r2 some
theorem js (n:Nat) {S:Type}:∀ b0 b01 b02 b03 b04 b05 b06 b07 r1 r2 (φ:_→Option S),(lb n b0 b01 b02 b03 b04 b05 b06 b07 r1 r2).bind φ=Sb n b0 b01 b02 b03 b04 b05 b06 b07 r1 r2 φ:=by
 intros;unfold lb Sb;first | (simp only [ia,da,iB,bB,oL,oX,nB,Option.bind_some]) | rfl
def bc (n:Nat):Hint OutS:={ live:=fun c=>(cond (Nat.beq c 0) [(0,none),(2,none),(17,some (.sl .str)),(18,none),(19,none)] []),run:=fun c=>(cond (Nat.beq c 0) (some (XA ed cd fun σ ρ K=>(ta n n σ.1 σ.2.1 σ.2.2.1 σ.2.2.2.1 ρ.1.1 ρ.1.2.1 ρ.1.2.2.1 ρ.1.2.2.2.1 ρ.1.2.2.2.2.1 ρ.1.2.2.2.2.2.1 ρ.1.2.2.2.2.2.2.1 ρ.1.2.2.2.2.2.2.2.1 ρ.1.2.2.2.2.2.2.2.2.1 ρ.2.1).bind (Fa K))) none),xm:=fun c q=>(cond (Nat.beq c 0&&Nat.beq (q.getD 1000000) 0&&q.isSome) (some [(0,none)]) none),ne:=[(71,5,.frz .str)],nb:=[(71,1,.frz (.int .i64)),(71,5,.prm 9),(71,8,.prm 9)] }
def ac (n:Nat) (K:XE→List AV→ea→Option OutS) (m:Nat) (ok:Bool) (t17:(Sq BA)) (t18:Int) (t19:Int) (p:Bool) (p1:(Sq Int)) (p2:BA) (p3:Bool) (p4:BA) (p5:(Sq BA)) (p6:BA) (p7:Bool) (p8:BA) (r11:(Sq BA)):Option OutS:=lq tys (fa OutS (Eb n)).keep (bc n) n (La [1,0,1,0,0] (ba Tryz.f57)) 0 ed cd K m (ok,(t17,(t18,(t19,())))) ((p,(p1,(p2,(p3,(p4,(p5,(p6,(p7,(p8,()))))))))),(r11,((),())))
theorem qg (n:Nat) (K:XE→List AV→ea→Option OutS):∀ (m:Nat) ok t17 t18 t19 p p1 p2 p3 p4 p5 p6 p7 p8 r11,ac n K m ok t17 t18 t19 p p1 p2 p3 p4 p5 p6 p7 p8 r11=(ta n m ok t17 t18 t19 p p1 p2 p3 p4 p5 p6 p7 p8 r11).bind (Fa K)
 | 0,_,_,_,_,_,_,_,_,_,_,_,_,_,_=>by kernel_rfl
 | m+1,ok,t17,t18,t19,p,p1,p2,p3,p4,p5,p6,p7,p8,r11=>by
  have h1:ac n K (m+1) ok t17 t18 t19 p p1 p2 p3 p4 p5 p6 p7 p8 r11=Za n ok t17 t18 t19 p p1 p2 p3 p4 p5 p6 p7 p8 r11 (ac n K m) (fun a=>Fa K (.out a)) (fun a=>Fa K (.ret a)) (fun p=>Fa K (.pan p)):=by kernel_rfl
  have h2:ac n K m=fun ok t17 t18 t19 p p1 p2 p3 p4 p5 p6 p7 p8 r11=>(ta n m ok t17 t18 t19 p p1 p2 p3 p4 p5 p6 p7 p8 r11).bind (Fa K):=by
   repeat (refine funext fun _=>?_)
   exact qg n K m _ _ _ _ _ _ _ _ _ _ _ _ _ _
  rw [h1,h2];exact (Wm n m _ _ _ _ _ _ _ _ _ _ _ _ _ _ (Fa K)).symm
theorem Ul (n:Nat):Im tys (fa OutS (Eb n)).keep (bc n) n (La [1,0,1,0,0] (ba Tryz.f57)) 0:=Mc (sp:=ed) (rp:=cd) (by kernel_rfl) fun K σ ρ=>qg n K n σ.1 σ.2.1 σ.2.2.1 σ.2.2.2.1 ρ.1.1 ρ.1.2.1 ρ.1.2.2.1 ρ.1.2.2.2.1 ρ.1.2.2.2.2.1 ρ.1.2.2.2.2.2.1 ρ.1.2.2.2.2.2.2.1 ρ.1.2.2.2.2.2.2.2.1 ρ.1.2.2.2.2.2.2.2.2.1 ρ.2.1
theorem Xm (n:Nat):qa tys (fa OutS (Eb n)).keep (bc n) n (ba Tryz.f57) 0:=⟨trivial,⟨⟨trivial,⟨Ul n,⟨trivial,⟨⟨trivial,trivial⟩,⟨⟨trivial,⟨trivial,⟨trivial,trivial⟩⟩⟩,trivial⟩⟩⟩⟩⟩,trivial⟩⟩
theorem Co (n:Nat):Enters Tryz.prog 57:=enters_of (c:=ba Tryz.f57) Tryz.func57 (by kernel_rfl) (by kernel_rfl)
def Qh:List RSp:=[.one (.ptr 0 0 0)]
def Ph:List RS:=[.box 71 10 false [.dat .bool,.dat (.sl (.int .i64)),.dat .str,.dat .bool,.dat .str,.row 1,.dat .str,.dat .bool,.row 2,.dat .str],.row 9 1 .str true true,.row 9 1 .str true true]
def Eo:List Sl:=[.ptr 0 0 0]
def Fo:List RSp:=[]
def uc:List RS:=[.box 71 10 false [.dat .bool,.dat (.sl (.int .i64)),.dat .str,.dat .bool,.dat .str,.row 1,.dat .str,.dat .bool,.row 2,.dat .str],.row 9 1 .str true true,.row 9 1 .str true true]
def Te (y:U0):OutS:=⟨false,Bi (Hb uc ((y.1,(y.2.1,(y.2.2.1,(y.2.2.2.1,(y.2.2.2.2.1,(y.2.2.2.2.2.1,(y.2.2.2.2.2.2.1,(y.2.2.2.2.2.2.2.1,())))))))),(y.2.2.2.2.2.2.2.2.1,(y.2.2.2.2.2.2.2.2.2.1,())))) Eo (),Pq (Wp (Hb uc ((y.1,(y.2.1,(y.2.2.1,(y.2.2.2.1,(y.2.2.2.2.1,(y.2.2.2.2.2.1,(y.2.2.2.2.2.2.1,(y.2.2.2.2.2.2.2.1,())))))))),(y.2.2.2.2.2.2.2.2.1,(y.2.2.2.2.2.2.2.2.2.1,())))) Fo ()),Nk (Hb uc ((y.1,(y.2.1,(y.2.2.1,(y.2.2.2.1,(y.2.2.2.2.1,(y.2.2.2.2.2.1,(y.2.2.2.2.2.2.1,(y.2.2.2.2.2.2.2.1,())))))))),(y.2.2.2.2.2.2.2.2.1,(y.2.2.2.2.2.2.2.2.2.1,())))) uc ((y.1,(y.2.1,(y.2.2.1,(y.2.2.2.1,(y.2.2.2.2.1,(y.2.2.2.2.2.1,(y.2.2.2.2.2.2.1,(y.2.2.2.2.2.2.2.1,())))))))),(y.2.2.2.2.2.2.2.2.1,(y.2.2.2.2.2.2.2.2.2.1,())))⟩
theorem vq (n:Nat):EntryOk Tryz.prog gl ⟨57,Ud,none,some (QL Qh Ph (fun σ ρ=>lb n ρ.1.1 ρ.1.2.1 ρ.1.2.2.1 ρ.1.2.2.2.1 ρ.1.2.2.2.2.1 ρ.1.2.2.2.2.2.1 ρ.1.2.2.2.2.2.2.1 ρ.1.2.2.2.2.2.2.2.1 ρ.2.1 ρ.2.2.1) Te)⟩:=
 Hc (Co n) fun σ ρ y h=>Ja tys_ok (Gf n) mixed (hint:=bc n) (n:=n) Tryz.func57 (Ga (Xm n)) (pa (φ:=fun y=>some (Te y)) (by kernel_rfl) (js n ρ.1.1 ρ.1.2.1 ρ.1.2.2.1 ρ.1.2.2.2.1 ρ.1.2.2.2.2.1 ρ.1.2.2.2.2.2.1 ρ.1.2.2.2.2.2.2.1 ρ.1.2.2.2.2.2.2.2.1 ρ.2.1 ρ.2.2.1 _) h)
def le (n:Nat):List Entry:=⟨57,Ud,none,some (QL Qh Ph (fun σ ρ=>lb n ρ.1.1 ρ.1.2.1 ρ.1.2.2.1 ρ.1.2.2.2.1 ρ.1.2.2.2.2.1 ρ.1.2.2.2.2.2.1 ρ.1.2.2.2.2.2.2.1 ρ.1.2.2.2.2.2.2.2.1 ρ.2.1 ρ.2.2.1) Te)⟩::Eb n
theorem Mf (n:Nat):AllOk Tryz.prog gl (le n):=.cons (vq n) (Gf n)
def Dk (n:Nat) {R:Type} (s prefix0:BA) (k:Bool→Option R):Option R:=
 (dh n s prefix0).bind fun v=>
 k v
def Da (n:Nat) (s prefix0:BA):Option Bool:=Dk n s prefix0 some
theorem Az (n:Nat) {S:Type}:∀ s prefix0 (φ:_→Option S),(Da n s prefix0).bind φ=Dk n s prefix0 φ:=by
 intros;unfold Da Dk;first | (simp only [ia,da,iB,bB,oL,oX,nB,Option.bind_some]) | rfl
def ql (n:Nat):Hint Out:={ live:=fun c=>[],run:=fun c=>none,xm:=fun c q=>none }
theorem sv (n:Nat):qa tys (fa Out (le n)) (ql n) n (ba Tryz.f58) 0:=ma (fun _=>rfl) _ _ (by kernel_rfl)
theorem Dw (n:Nat):Enters Tryz.prog 58:=enters_of (c:=ba Tryz.f58) Tryz.func58 (by kernel_rfl) (by kernel_rfl)
def Kp (n:Nat):Entry:=⟨58,qM (.pair .str (.pair .str .unit)) (.one .bool) (fun xs=>Da n xs.1 xs.2.1),none,none⟩
theorem wy (n:Nat):EntryOk Tryz.prog gl (Kp n):=
 Ma (Dw n) fun xs y h=>ra tys_ok (Mf n) mixed (hint:=ql n) (n:=n) Tryz.func58 (Ga (sv n)) (pa (φ:=(fun y=>some (Out.ret (ch (.one .bool) y)))) (by kernel_rfl) (Az n xs.1 xs.2.1 _) h)
def jj (n:Nat):List Entry:=Kp n::le n
theorem Rj (n:Nat):AllOk Tryz.prog gl (jj n):=.cons (wy n) (Mf n)
def Pe (n:Nat) {R:Type} (b0:Bool) (b01:(Sq Int)) (b02:BA) (b03:Bool) (b04 b05:BA) (b06:Bool) (b07:BA) (r1 r2:(Sq BA)) (k:U0→Option R):Option R:=
 k (b0,(b01,(b02,(b03,((⟨#[]⟩:BA),((⟨#[]⟩:BA),(false,(b07,((⟨0,fun _=>Na .str⟩:Sq BA),(r2,()))))))))))
def Pc (n:Nat) (b0:Bool) (b01:(Sq Int)) (b02:BA) (b03:Bool) (b04 b05:BA) (b06:Bool) (b07:BA) (r1 r2:(Sq BA)):Option U0:=Pe n b0 b01 b02 b03 b04 b05 b06 b07 r1 r2 some
theorem Yr (n:Nat) {S:Type}:∀ b0 b01 b02 b03 b04 b05 b06 b07 r1 r2 (φ:_→Option S),(Pc n b0 b01 b02 b03 b04 b05 b06 b07 r1 r2).bind φ=Pe n b0 b01 b02 b03 b04 b05 b06 b07 r1 r2 φ:=by
 intros;unfold Pc Pe;first | (simp only [ia,da,iB,bB,oL,oX,nB,Option.bind_some]) | rfl
def og (n:Nat):Hint OutS:={ live:=fun c=>[],run:=fun c=>none,xm:=fun c q=>none,nb:=[(71,1,.frz (.int .i64)),(71,5,.prm 9),(71,8,.prm 9)] }
theorem Om (n:Nat):qa tys (fa OutS (jj n)).keep (og n) n (ba Tryz.f93) 0:=ma (fun _=>rfl) _ _ (by kernel_rfl)
theorem ro (n:Nat):Enters Tryz.prog 93:=enters_of (c:=ba Tryz.f93) Tryz.func93 (by kernel_rfl) (by kernel_rfl)
def Mh:List RSp:=[.one (.ptr 0 0 0)]
def Lh:List RS:=[.box 71 10 false [.dat .bool,.dat (.sl (.int .i64)),.dat .str,.dat .bool,.dat .str,.row 1,.dat .str,.dat .bool,.row 2,.dat .str],.row 9 1 .str true true,.row 9 1 .str true true]
def uo:List Sl:=[.ptr 0 0 0]
def vo:List RSp:=[]
def rc:List RS:=[.box 71 10 false [.dat .bool,.dat (.sl (.int .i64)),.dat .str,.dat .bool,.dat .str,.row 1,.dat .str,.dat .bool,.row 2,.dat .str],.row 9 1 .str true true,.row 9 1 .str true true]
def Qe (y:U0):OutS:=⟨false,Bi (Hb rc ((y.1,(y.2.1,(y.2.2.1,(y.2.2.2.1,(y.2.2.2.2.1,(y.2.2.2.2.2.1,(y.2.2.2.2.2.2.1,(y.2.2.2.2.2.2.2.1,())))))))),(y.2.2.2.2.2.2.2.2.1,(y.2.2.2.2.2.2.2.2.2.1,())))) uo (),Pq (Wp (Hb rc ((y.1,(y.2.1,(y.2.2.1,(y.2.2.2.1,(y.2.2.2.2.1,(y.2.2.2.2.2.1,(y.2.2.2.2.2.2.1,(y.2.2.2.2.2.2.2.1,())))))))),(y.2.2.2.2.2.2.2.2.1,(y.2.2.2.2.2.2.2.2.2.1,())))) vo ()),Nk (Hb rc ((y.1,(y.2.1,(y.2.2.1,(y.2.2.2.1,(y.2.2.2.2.1,(y.2.2.2.2.2.1,(y.2.2.2.2.2.2.1,(y.2.2.2.2.2.2.2.1,())))))))),(y.2.2.2.2.2.2.2.2.1,(y.2.2.2.2.2.2.2.2.2.1,())))) rc ((y.1,(y.2.1,(y.2.2.1,(y.2.2.2.1,(y.2.2.2.2.1,(y.2.2.2.2.2.1,(y.2.2.2.2.2.2.1,(y.2.2.2.2.2.2.2.1,())))))))),(y.2.2.2.2.2.2.2.2.1,(y.2.2.2.2.2.2.2.2.2.1,())))⟩
theorem rq (n:Nat):EntryOk Tryz.prog gl ⟨93,Ud,none,some (QL Mh Lh (fun σ ρ=>Pc n ρ.1.1 ρ.1.2.1 ρ.1.2.2.1 ρ.1.2.2.2.1 ρ.1.2.2.2.2.1 ρ.1.2.2.2.2.2.1 ρ.1.2.2.2.2.2.2.1 ρ.1.2.2.2.2.2.2.2.1 ρ.2.1 ρ.2.2.1) Qe)⟩:=
 Hc (ro n) fun σ ρ y h=>Ja tys_ok (Rj n) mixed (hint:=og n) (n:=n) Tryz.func93 (Ga (Om n)) (pa (φ:=fun y=>some (Qe y)) (by kernel_rfl) (Yr n ρ.1.1 ρ.1.2.1 ρ.1.2.2.1 ρ.1.2.2.2.1 ρ.1.2.2.2.2.1 ρ.1.2.2.2.2.2.1 ρ.1.2.2.2.2.2.2.1 ρ.1.2.2.2.2.2.2.2.1 ρ.2.1 ρ.2.2.1 _) h)
def de (n:Nat):List Entry:=⟨93,Ud,none,some (QL Mh Lh (fun σ ρ=>Pc n ρ.1.1 ρ.1.2.1 ρ.1.2.2.1 ρ.1.2.2.2.1 ρ.1.2.2.2.2.1 ρ.1.2.2.2.2.2.1 ρ.1.2.2.2.2.2.2.1 ρ.1.2.2.2.2.2.2.2.1 ρ.2.1 ρ.2.2.1) Qe)⟩::jj n
theorem Hf (n:Nat):AllOk Tryz.prog gl (de n):=.cons (rq n) (Rj n)
def ge (n:Nat) {R:Type} (b0:Bool) (b01:(Sq Int)) (b02:BA) (b03:Bool) (b04 b05:BA) (b06:Bool) (b07:BA) (r1 r2:(Sq BA)) (k:U6→Option R):Option R:=
 if (decide ((b01.n:Int)>(0:Int)))=true then
 if 0≤(0:Int)∧(0:Int)<(b01.n:Int) then
  if (decide ((b01.at' (Int.toNat (0:Int)))≥(400:Int)))=true then
  if (decide ((b01.at' (Int.toNat (0:Int)))≤(599:Int)))=true then
   if 0≤(1:Int)∧(1:Int)≤(b01.n:Int) then
   (oa n (b01.at' (Int.toNat (0:Int))) b0 (⟨((Int.toNat (b01.n:Int)) - (Int.toNat (1:Int))),fun i=>b01.at' ((Int.toNat (1:Int))+i)⟩:Sq Int) b02 b03 b04 b05 b06 b07 r1 r2).bind fun v=>
   k (((b01.at' (Int.toNat (0:Int)))==(250:Int)),(v.1,(v.2.1,(v.2.2.1,(v.2.2.2.1,(v.2.2.2.2.1,(v.2.2.2.2.2.1,(v.2.2.2.2.2.2.1,(v.2.2.2.2.2.2.2.1,(v.2.2.2.2.2.2.2.2.1,(v.2.2.2.2.2.2.2.2.2.1,())))))))))))
   else
   none
  else
   if 0≤(1:Int)∧(1:Int)≤(b01.n:Int) then
   (oa n (250:Int) b0 (⟨((Int.toNat (b01.n:Int)) - (Int.toNat (1:Int))),fun i=>b01.at' ((Int.toNat (1:Int))+i)⟩:Sq Int) b02 b03 b04 b05 b06 b07 r1 r2).bind fun v1=>
   k (((250:Int)==(250:Int)),(v1.1,(v1.2.1,(v1.2.2.1,(v1.2.2.2.1,(v1.2.2.2.2.1,(v1.2.2.2.2.2.1,(v1.2.2.2.2.2.2.1,(v1.2.2.2.2.2.2.2.1,(v1.2.2.2.2.2.2.2.2.1,(v1.2.2.2.2.2.2.2.2.2.1,())))))))))))
   else
   none
  else
  if 0≤(1:Int)∧(1:Int)≤(b01.n:Int) then
   (oa n (250:Int) b0 (⟨((Int.toNat (b01.n:Int)) - (Int.toNat (1:Int))),fun i=>b01.at' ((Int.toNat (1:Int))+i)⟩:Sq Int) b02 b03 b04 b05 b06 b07 r1 r2).bind fun v2=>
   k (((250:Int)==(250:Int)),(v2.1,(v2.2.1,(v2.2.2.1,(v2.2.2.2.1,(v2.2.2.2.2.1,(v2.2.2.2.2.2.1,(v2.2.2.2.2.2.2.1,(v2.2.2.2.2.2.2.2.1,(v2.2.2.2.2.2.2.2.2.1,(v2.2.2.2.2.2.2.2.2.2.1,())))))))))))
  else
   none
 else
  none
 else
 (oa n (250:Int) b0 b01 b02 b03 b04 b05 b06 b07 r1 r2).bind fun v3=>
 k (((250:Int)==(250:Int)),(v3.1,(v3.2.1,(v3.2.2.1,(v3.2.2.2.1,(v3.2.2.2.2.1,(v3.2.2.2.2.2.1,(v3.2.2.2.2.2.2.1,(v3.2.2.2.2.2.2.2.1,(v3.2.2.2.2.2.2.2.2.1,(v3.2.2.2.2.2.2.2.2.2.1,())))))))))))
def Ua (n:Nat) (b0:Bool) (b01:(Sq Int)) (b02:BA) (b03:Bool) (b04 b05:BA) (b06:Bool) (b07:BA) (r1 r2:(Sq BA)):Option U6:=ge n b0 b01 b02 b03 b04 b05 b06 b07 r1 r2 some
theorem tq (n:Nat) {S:Type}:∀ b0 b01 b02 b03 b04 b05 b06 b07 r1 r2 (φ:_→Option S),(Ua n b0 b01 b02 b03 b04 b05 b06 b07 r1 r2).bind φ=ge n b0 b01 b02 b03 b04 b05 b06 b07 r1 r2 φ:=by
 intros;unfold Ua ge;first | (simp only [ia,da,iB,bB,oL,oX,nB,Option.bind_some]) | rfl
def Jf (n:Nat):Hint OutS:={ live:=fun c=>[],run:=fun c=>none,xm:=fun c q=>none,nb:=[(71,1,.frz (.int .i64)),(71,5,.prm 9),(71,8,.prm 9)] }
theorem Rl (n:Nat):qa tys (fa OutS (de n)).keep (Jf n) n (ba Tryz.f91) 0:=ma (fun _=>rfl) _ _ (by kernel_rfl)
theorem Sm (n:Nat):Enters Tryz.prog 91:=enters_of (c:=ba Tryz.f91) Tryz.func91 (by kernel_rfl) (by kernel_rfl)
def mh:List RSp:=[.one (.ptr 0 0 0)]
def lh:List RS:=[.box 71 10 false [.dat .bool,.dat (.sl (.int .i64)),.dat .str,.dat .bool,.dat .str,.row 1,.dat .str,.dat .bool,.row 2,.dat .str],.row 9 1 .str true true,.row 9 1 .str true true]
def Tm:List Sl:=[.ptr 0 0 0]
def Um:List RSp:=[.one (.dat .bool)]
def Zb:List RS:=[.box 71 10 false [.dat .bool,.dat (.sl (.int .i64)),.dat .str,.dat .bool,.dat .str,.row 1,.dat .str,.dat .bool,.row 2,.dat .str],.row 9 1 .str true true,.row 9 1 .str true true]
def ie (y:U6):OutS:=⟨false,Bi (Hb Zb ((y.2.1,(y.2.2.1,(y.2.2.2.1,(y.2.2.2.2.1,(y.2.2.2.2.2.1,(y.2.2.2.2.2.2.1,(y.2.2.2.2.2.2.2.1,(y.2.2.2.2.2.2.2.2.1,())))))))),(y.2.2.2.2.2.2.2.2.2.1,(y.2.2.2.2.2.2.2.2.2.2.1,())))) Tm (),Pq (Wp (Hb Zb ((y.2.1,(y.2.2.1,(y.2.2.2.1,(y.2.2.2.2.1,(y.2.2.2.2.2.1,(y.2.2.2.2.2.2.1,(y.2.2.2.2.2.2.2.1,(y.2.2.2.2.2.2.2.2.1,())))))))),(y.2.2.2.2.2.2.2.2.2.1,(y.2.2.2.2.2.2.2.2.2.2.1,())))) Um ((y.1,()),())),Nk (Hb Zb ((y.2.1,(y.2.2.1,(y.2.2.2.1,(y.2.2.2.2.1,(y.2.2.2.2.2.1,(y.2.2.2.2.2.2.1,(y.2.2.2.2.2.2.2.1,(y.2.2.2.2.2.2.2.2.1,())))))))),(y.2.2.2.2.2.2.2.2.2.1,(y.2.2.2.2.2.2.2.2.2.2.1,())))) Zb ((y.2.1,(y.2.2.1,(y.2.2.2.1,(y.2.2.2.2.1,(y.2.2.2.2.2.1,(y.2.2.2.2.2.2.1,(y.2.2.2.2.2.2.2.1,(y.2.2.2.2.2.2.2.2.1,())))))))),(y.2.2.2.2.2.2.2.2.2.1,(y.2.2.2.2.2.2.2.2.2.2.1,())))⟩
theorem xo (n:Nat):EntryOk Tryz.prog gl ⟨91,Ud,none,some (QL mh lh (fun σ ρ=>Ua n ρ.1.1 ρ.1.2.1 ρ.1.2.2.1 ρ.1.2.2.2.1 ρ.1.2.2.2.2.1 ρ.1.2.2.2.2.2.1 ρ.1.2.2.2.2.2.2.1 ρ.1.2.2.2.2.2.2.2.1 ρ.2.1 ρ.2.2.1) ie)⟩:=
 Hc (Sm n) fun σ ρ y h=>Ja tys_ok (Hf n) mixed (hint:=Jf n) (n:=n) Tryz.func91 (Ga (Rl n)) (pa (φ:=fun y=>some (ie y)) (by kernel_rfl) (tq n ρ.1.1 ρ.1.2.1 ρ.1.2.2.1 ρ.1.2.2.2.1 ρ.1.2.2.2.2.1 ρ.1.2.2.2.2.2.1 ρ.1.2.2.2.2.2.2.1 ρ.1.2.2.2.2.2.2.2.1 ρ.2.1 ρ.2.2.1 _) h)
def Nd (n:Nat):List Entry:=⟨91,Ud,none,some (QL mh lh (fun σ ρ=>Ua n ρ.1.1 ρ.1.2.1 ρ.1.2.2.1 ρ.1.2.2.2.1 ρ.1.2.2.2.2.1 ρ.1.2.2.2.2.2.1 ρ.1.2.2.2.2.2.2.1 ρ.1.2.2.2.2.2.2.2.1 ρ.2.1 ρ.2.2.1) ie)⟩::de n
theorem qf (n:Nat):AllOk Tryz.prog gl (Nd n):=.cons (xo n) (Hf n)
def Ve (n:Nat) {R:Type} (path:BA) (b0:Bool) (b01:(Sq Int)) (b02:BA) (b03:Bool) (b04 b05:BA) (b06:Bool) (b07:BA) (r1 r2:(Sq BA)) (k:U0→Option R):Option R:=
 (Pc n b0 b01 b02 b03 b04 b05 b06 b07 r1 r2).bind fun v=>
 (Ua n v.1 v.2.1 v.2.2.1 v.2.2.2.1 path v.2.2.2.2.2.1 v.2.2.2.2.2.2.1 v.2.2.2.2.2.2.2.1 v.2.2.2.2.2.2.2.2.1 v.2.2.2.2.2.2.2.2.2.1).bind fun v1=>
 k (v1.2.1,(v1.2.2.1,(v1.2.2.2.1,(v1.2.2.2.2.1,(v1.2.2.2.2.2.1,(v1.2.2.2.2.2.2.1,(v1.2.2.2.2.2.2.2.1,(v1.2.2.2.2.2.2.2.2.1,(v1.2.2.2.2.2.2.2.2.2.1,(v1.2.2.2.2.2.2.2.2.2.2.1,()))))))))))
def Mb (n:Nat) (path:BA) (b0:Bool) (b01:(Sq Int)) (b02:BA) (b03:Bool) (b04 b05:BA) (b06:Bool) (b07:BA) (r1 r2:(Sq BA)):Option U0:=Ve n path b0 b01 b02 b03 b04 b05 b06 b07 r1 r2 some
theorem qs (n:Nat) {S:Type}:∀ path b0 b01 b02 b03 b04 b05 b06 b07 r1 r2 (φ:_→Option S),(Mb n path b0 b01 b02 b03 b04 b05 b06 b07 r1 r2).bind φ=Ve n path b0 b01 b02 b03 b04 b05 b06 b07 r1 r2 φ:=by
 intros;unfold Mb Ve;first | (simp only [ia,da,iB,bB,oL,oX,nB,Option.bind_some]) | rfl
def sg (n:Nat):Hint OutS:={ live:=fun c=>[],run:=fun c=>none,xm:=fun c q=>none,nb:=[(71,1,.frz (.int .i64)),(71,5,.prm 9),(71,8,.prm 9)] }
theorem Zm (n:Nat):qa tys (fa OutS (Nd n)).keep (sg n) n (ba Tryz.f60) 0:=ma (fun _=>rfl) _ _ (by kernel_rfl)
theorem Lo (n:Nat):Enters Tryz.prog 60:=enters_of (c:=ba Tryz.f60) Tryz.func60 (by kernel_rfl) (by kernel_rfl)
def Uh:List RSp:=[.one (.ptr 0 0 0),.one (.dat .str)]
def Th:List RS:=[.box 71 10 false [.dat .bool,.dat (.sl (.int .i64)),.dat .str,.dat .bool,.dat .str,.row 1,.dat .str,.dat .bool,.row 2,.dat .str],.row 9 1 .str true true,.row 9 1 .str true true]
def Mo:List Sl:=[.ptr 0 0 0,.top]
def No:List RSp:=[]
def wc:List RS:=[.box 71 10 false [.dat .bool,.dat (.sl (.int .i64)),.dat .str,.dat .bool,.dat .str,.row 1,.dat .str,.dat .bool,.row 2,.dat .str],.row 9 1 .str true true,.row 9 1 .str true true]
def We (y:U0):OutS:=⟨false,Bi (Hb wc ((y.1,(y.2.1,(y.2.2.1,(y.2.2.2.1,(y.2.2.2.2.1,(y.2.2.2.2.2.1,(y.2.2.2.2.2.2.1,(y.2.2.2.2.2.2.2.1,())))))))),(y.2.2.2.2.2.2.2.2.1,(y.2.2.2.2.2.2.2.2.2.1,())))) Mo (),Pq (Wp (Hb wc ((y.1,(y.2.1,(y.2.2.1,(y.2.2.2.1,(y.2.2.2.2.1,(y.2.2.2.2.2.1,(y.2.2.2.2.2.2.1,(y.2.2.2.2.2.2.2.1,())))))))),(y.2.2.2.2.2.2.2.2.1,(y.2.2.2.2.2.2.2.2.2.1,())))) No ()),Nk (Hb wc ((y.1,(y.2.1,(y.2.2.1,(y.2.2.2.1,(y.2.2.2.2.1,(y.2.2.2.2.2.1,(y.2.2.2.2.2.2.1,(y.2.2.2.2.2.2.2.1,())))))))),(y.2.2.2.2.2.2.2.2.1,(y.2.2.2.2.2.2.2.2.2.1,())))) wc ((y.1,(y.2.1,(y.2.2.1,(y.2.2.2.1,(y.2.2.2.2.1,(y.2.2.2.2.2.1,(y.2.2.2.2.2.2.1,(y.2.2.2.2.2.2.2.1,())))))))),(y.2.2.2.2.2.2.2.2.1,(y.2.2.2.2.2.2.2.2.2.1,())))⟩
theorem xq (n:Nat):EntryOk Tryz.prog gl ⟨60,Ud,none,some (QL Uh Th (fun σ ρ=>Mb n σ.2.1.1 ρ.1.1 ρ.1.2.1 ρ.1.2.2.1 ρ.1.2.2.2.1 ρ.1.2.2.2.2.1 ρ.1.2.2.2.2.2.1 ρ.1.2.2.2.2.2.2.1 ρ.1.2.2.2.2.2.2.2.1 ρ.2.1 ρ.2.2.1) We)⟩:=
 Hc (Lo n) fun σ ρ y h=>Ja tys_ok (qf n) mixed (hint:=sg n) (n:=n) Tryz.func60 (Ga (Zm n)) (pa (φ:=fun y=>some (We y)) (by kernel_rfl) (qs n σ.2.1.1 ρ.1.1 ρ.1.2.1 ρ.1.2.2.1 ρ.1.2.2.2.1 ρ.1.2.2.2.2.1 ρ.1.2.2.2.2.2.1 ρ.1.2.2.2.2.2.2.1 ρ.1.2.2.2.2.2.2.2.1 ρ.2.1 ρ.2.2.1 _) h)
def oe (n:Nat):List Entry:=⟨60,Ud,none,some (QL Uh Th (fun σ ρ=>Mb n σ.2.1.1 ρ.1.1 ρ.1.2.1 ρ.1.2.2.1 ρ.1.2.2.2.1 ρ.1.2.2.2.2.1 ρ.1.2.2.2.2.2.1 ρ.1.2.2.2.2.2.2.1 ρ.1.2.2.2.2.2.2.2.1 ρ.2.1 ρ.2.2.1) We)⟩::Nd n
theorem gd (n:Nat):AllOk Tryz.prog gl (oe n):=.cons (xq n) (qf n)
def kx (n:Nat) {R:Type} (ok:Bool) (k:(Unit)→Option R) (kp:Int→Option R):Option R:=
 if (!ok)=true then
 kp (8:Int)
 else
 k ()
def Ec (n:Nat) (ok:Bool):Option (Except Int (Unit)):=kx n ok (fun y=>some (.ok y)) (fun p=>some (.error p))
theorem BB (n:Nat) {S:Type}:∀ ok (φ:_→Option S),(Ec n ok).bind φ=kx n ok (fun y=>φ (.ok y)) (fun p=>φ (.error p)):=by
 intros;unfold Ec kx;first | (simp only [ia,da,iB,bB,oL,oX,nB,Option.bind_some]) | rfl
def Dn (n:Nat):Hint Out:={ live:=fun c=>[],run:=fun c=>none,xm:=fun c q=>none }
theorem Ev (n:Nat):qa tys (fa Out (oe n)) (Dn n) n (ba Tryz.f167) 0:=ma (fun _=>rfl) _ _ (by kernel_rfl)
theorem fD (n:Nat):Enters Tryz.prog 167:=enters_of (c:=ba Tryz.f167) Tryz.func167 (by kernel_rfl) (by kernel_rfl)
def Nz (n:Nat):Entry:=⟨167,rM 184 (.pair .bool .unit) (.many .unit) (fun xs=>Ec n xs.1),none,none⟩
theorem jF (n:Nat):EntryOk Tryz.prog gl (Nz n):=
 KE (fD n) (fun xs y h=>ra tys_ok (gd n) mixed (hint:=Dn n) (n:=n) Tryz.func167 (Ga (Ev n)) (pa (φ:=(fun r=>mM r (fun p=>some (Out.pan (Tp 184 p))) fun y=>some (Out.ret (ch (.many .unit) y)))) (by kernel_rfl) (BB n xs.1 _) h))
  (fun xs p h=>ra tys_ok (gd n) mixed (hint:=Dn n) (n:=n) Tryz.func167 (Ga (Ev n)) (pa (φ:=(fun r=>mM r (fun p=>some (Out.pan (Tp 184 p))) fun y=>some (Out.ret (ch (.many .unit) y)))) (by kernel_rfl) (BB n xs.1 _) h))
def Bu (n:Nat):List Entry:=Nz n::oe n
theorem nt (n:Nat):AllOk Tryz.prog gl (Bu n):=.cons (jF n) (gd n)
def Kg (n:Nat) {R:Type} (c:Int) (k:U9→Option R):Option R:=
 (Qc n).bind fun v=>
 if Pd (0+1) 1=true then
 k ((⟨(0+1),fun q=>if q<0 then (fun _=>Na (.int .u8)) q else (fun q=>List.getD (α:=Int) [c] q (Na (.int .u8))) (q - 0)⟩:Sq Int),())
 else
 none
def Va (n:Nat) (c:Int):Option U9:=Kg n c some
theorem mv (n:Nat) {S:Type}:∀ c (φ:_→Option S),(Va n c).bind φ=Kg n c φ:=by
 intros;unfold Va Kg;first | (simp only [ia,da,iB,bB,oL,oX,nB,Option.bind_some]) | rfl
def Zh (n:Nat):Hint OutS:={ live:=fun c=>[],run:=fun c=>none,xm:=fun c q=>none }
theorem Jq (n:Nat):qa tys (fa OutS (Bu n)) (Zh n) n (ba Tryz.f198) 0:=ma (fun _=>rfl) _ _ (by kernel_rfl)
theorem Fs (n:Nat):Enters Tryz.prog 198:=enters_of (c:=ba Tryz.f198) Tryz.func198 (by kernel_rfl) (by kernel_rfl)
def Kj:List RSp:=[.one (.ptr 0 0 0),.one (.dat (.int .u8))]
def Jj:List RS:=[.box 126 2 true [.cn .nilp,.cn .nils]]
def Gs:List Sl:=[.ptr 0 0 0,.top]
def Hs:List RSp:=[.one (.cn .nili)]
def nd:List RS:=[.box 126 2 false [.ptr 0 0 0,.row 1],.row 5 1 (.int .u8) true false]
def Lg (y:U9):OutS:=⟨false,Bi (Hb nd ((),(y.1,()))) Gs (),Pq (Wp (Hb nd ((),(y.1,()))) Hs ((),())),Nk (Hb nd ((),(y.1,()))) nd ((),(y.1,()))⟩
theorem du (n:Nat):EntryOk Tryz.prog gl ⟨198,Ud,none,some (QL Kj Jj (fun σ ρ=>Va n σ.2.1.1) Lg)⟩:=
 Hc (Fs n) fun σ ρ y h=>vd tys_ok (nt n) mixed (hint:=Zh n) (n:=n) Tryz.func198 (Ga (Jq n)) (pa (φ:=fun y=>some (Lg y)) (by kernel_rfl) (mv n σ.2.1.1 _) h)
def Zf (n:Nat):List Entry:=⟨198,Ud,none,some (QL Kj Jj (fun σ ρ=>Va n σ.2.1.1) Lg)⟩::Bu n
theorem th (n:Nat):AllOk Tryz.prog gl (Zf n):=.cons (du n) (nt n)
def Mg (n:Nat) {R:Type} (c:Int) (r1:(Sq Int)) (k:U9→Option R):Option R:=
 (Rc n r1).bind fun v=>
 if Pd (v.1.n+1) 1=true then
 k ((⟨(v.1.n+1),fun q=>if q<v.1.n then v.1.at' q else (fun q=>List.getD (α:=Int) [c] q (Na (.int .u8))) (q - v.1.n)⟩:Sq Int),())
 else
 none
def Aa (n:Nat) (c:Int) (r1:(Sq Int)):Option U9:=Mg n c r1 some
theorem nv (n:Nat) {S:Type}:∀ c r1 (φ:_→Option S),(Aa n c r1).bind φ=Mg n c r1 φ:=by
 intros;unfold Aa Mg;first | (simp only [ia,da,iB,bB,oL,oX,nB,Option.bind_some]) | rfl
def ai (n:Nat):Hint OutS:={ live:=fun c=>[],run:=fun c=>none,xm:=fun c q=>none }
theorem Kq (n:Nat):qa tys (fa OutS (Zf n)) (ai n) n (ba Tryz.f198) 0:=ma (fun _=>rfl) _ _ (by kernel_rfl)
theorem Is (n:Nat):Enters Tryz.prog 198:=enters_of (c:=ba Tryz.f198) Tryz.func198 (by kernel_rfl) (by kernel_rfl)
def Mj:List RSp:=[.one (.ptr 0 0 0),.one (.dat (.int .u8))]
def Lj:List RS:=[.box 126 2 false [.ptr 0 0 0,.row 1],.row 5 1 (.int .u8) true false]
def Js:List Sl:=[.ptr 0 0 0,.top]
def Ks:List RSp:=[.one (.cn .nili)]
def od:List RS:=[.box 126 2 false [.ptr 0 0 0,.row 1],.row 5 1 (.int .u8) true false]
def Ng (y:U9):OutS:=⟨false,Bi (Hb od ((),(y.1,()))) Js (),Pq (Wp (Hb od ((),(y.1,()))) Ks ((),())),Nk (Hb od ((),(y.1,()))) od ((),(y.1,()))⟩
theorem eu (n:Nat):EntryOk Tryz.prog gl ⟨198,Ud,none,some (QL Mj Lj (fun σ ρ=>Aa n σ.2.1.1 ρ.2.1) Ng)⟩:=
 Hc (Is n) fun σ ρ y h=>vd tys_ok (th n) mixed (hint:=ai n) (n:=n) Tryz.func198 (Ga (Kq n)) (pa (φ:=fun y=>some (Ng y)) (by kernel_rfl) (nv n σ.2.1.1 ρ.2.1 _) h)
def Bc (n:Nat):List Entry:=⟨198,Ud,none,some (QL Mj Lj (fun σ ρ=>Aa n σ.2.1.1 ρ.2.1) Ng)⟩::Zf n
theorem Rd (n:Nat):AllOk Tryz.prog gl (Bc n):=.cons (eu n) (th n)
def uj (n:Nat) {R:Type} (s1:BA) (i:Int) (r1:(Sq Int)) (kn:BA→Int→(Sq Int)→Option R) (ko:Unit→Option R) (kr:(BA×BA)→Option R) (kp:Int→Option R):Option R:=
 (Ec n (decide (i<(s1.size:Int)))).bind fun x_1=>mM x_1 (fun p3=>
 kp p3) (fun v5=>
 if 0≤i∧i<(s1.size:Int) then
 if ((bt s1 i)==(34:Int))=true then
  if 0≤(IntKind.wrap .i64 (i+(1:Int)))∧(IntKind.wrap .i64 (i+(1:Int)))≤(s1.size:Int) then
  (Tc n r1).bind fun v6=>
  kr (v6.1,(s1.extract (Int.toNat (IntKind.wrap .i64 (i+(1:Int)))) (Int.toNat (s1.size:Int))))
  else
  none
 else
  if 0≤i∧i<(s1.size:Int) then
  if ((bt s1 i)==(92:Int))=true then
   (Ec n (decide ((IntKind.wrap .i64 (i+(1:Int)))<(s1.size:Int)))).bind fun x_2=>mM x_2 (fun p4=>
   kp p4) (fun v7=>
   if 0≤(IntKind.wrap .i64 (i+(1:Int)))∧(IntKind.wrap .i64 (i+(1:Int)))<(s1.size:Int) then
   if (decide ((bt s1 (IntKind.wrap .i64 (i+(1:Int))))≥(32:Int)))=true then
    if 0≤(IntKind.wrap .i64 (i+(1:Int)))∧(IntKind.wrap .i64 (i+(1:Int)))<(s1.size:Int) then
    (Ec n (decide ((bt s1 (IntKind.wrap .i64 (i+(1:Int))))≤(126:Int)))).bind fun x_3=>mM x_3 (fun p5=>
     kp p5) (fun v8=>
    if 0≤(IntKind.wrap .i64 (i+(1:Int)))∧(IntKind.wrap .i64 (i+(1:Int)))<(s1.size:Int) then
     (Aa n (bt s1 (IntKind.wrap .i64 (i+(1:Int)))) r1).bind fun v9=>
     kn s1 (IntKind.wrap .i64 ((IntKind.wrap .i64 (i+(1:Int)))+(1:Int))) v9.1
    else
     none)
    else
    none
   else
    (Ec n false).bind fun x_4=>mM x_4 (fun p6=>
    kp p6) (fun v10=>
    if 0≤(IntKind.wrap .i64 (i+(1:Int)))∧(IntKind.wrap .i64 (i+(1:Int)))<(s1.size:Int) then
    (Aa n (bt s1 (IntKind.wrap .i64 (i+(1:Int)))) r1).bind fun v11=>
    kn s1 (IntKind.wrap .i64 ((IntKind.wrap .i64 (i+(1:Int)))+(1:Int))) v11.1
    else
    none)
   else
   none)
  else
   if 0≤i∧i<(s1.size:Int) then
   if (decide ((bt s1 i)≥(32:Int)))=true then
    if 0≤i∧i<(s1.size:Int) then
    (Ec n (decide ((bt s1 i)≤(126:Int)))).bind fun x_5=>mM x_5 (fun p7=>
     kp p7) (fun v12=>
    if 0≤i∧i<(s1.size:Int) then
     (Aa n (bt s1 i) r1).bind fun v13=>
     kn s1 (IntKind.wrap .i64 (i+(1:Int))) v13.1
    else
     none)
    else
    none
   else
    (Ec n false).bind fun x_6=>mM x_6 (fun p8=>
    kp p8) (fun v14=>
    if 0≤i∧i<(s1.size:Int) then
    (Aa n (bt s1 i) r1).bind fun v15=>
    kn s1 (IntKind.wrap .i64 (i+(1:Int))) v15.1
    else
    none)
   else
   none
  else
  none
 else
 none)
def ub (n:Nat):Nat→BA→Int→(Sq Int)→Option (Lx Unit (BA×BA))
 | 0,_,_,_=>none
 | m+1,s1,i,r1=>uj n s1 i r1 (ub n m) (fun a=>some (.out a)) (fun a=>some (.ret a)) (fun p=>some (.pan p))
theorem Wy (n m:Nat) {S:Type}:∀ s1 i r1 (φ:_→Option S),(ub n (m+1) s1 i r1).bind φ=uj n s1 i r1 (fun s1 i r1=>(ub n m s1 i r1).bind φ) (fun a=>φ (.out a)) (fun a=>φ (.ret a)) (fun p=>φ (.pan p)):=by
 intros;first | (simp only [ub,uj,ia,da,iB,bB,oL,oX,nB,Option.bind_some]) | rfl
def Ji:List Sl:=.dat .str::.top::.top::.top::.ptr 0 0 0::.dat (.int .i64)::tp 42 []
def Ii:List RS:=[.box 126 2 false [.ptr 0 0 0,.row 1],.row 5 1 (.int .u8) true false]
def Fr:List Sl:=.top::.top::.dat .str::.dat .str::tp 44 []
def Er:List RS:=[]
def Fc (K:XE→List AV→ea→Option Out):Lx Unit (BA×BA)→Option Out:=fun x=>lM x (fun _=>none) (fun a=>Ky Fr Er (a.1,(a.2,())) () (K .ret)) (fun p=>K (.panic (Tp 184 p)) (List.replicate 48 .top) [])
def Dr (n:Nat) {R:Type} (s:BA) (k:(BA×BA×Unit)→Option R) (kp:Int→Option R):Option R:=
 (Ec n (decide ((1:Int)<(s.size:Int)))).bind fun x_1=>mM x_1 (fun p=>
 kp p) (fun v=>
 if 0≤(1:Int)∧(1:Int)<(s.size:Int) then
 if ((bt s (1:Int))==(34:Int))=true then
  if 0≤(IntKind.wrap .i64 ((1:Int)+(1:Int)))∧(IntKind.wrap .i64 ((1:Int)+(1:Int)))≤(s.size:Int) then
  (uf n).bind fun v1=>
  k (v1.1,((s.extract (Int.toNat (IntKind.wrap .i64 ((1:Int)+(1:Int)))) (Int.toNat (s.size:Int))),()))
  else
  none
 else
  if 0≤(1:Int)∧(1:Int)<(s.size:Int) then
  if ((bt s (1:Int))==(92:Int))=true then
   (Ec n (decide ((IntKind.wrap .i64 ((1:Int)+(1:Int)))<(s.size:Int)))).bind fun x_2=>mM x_2 (fun p1=>
   kp p1) (fun v2=>
   if 0≤(IntKind.wrap .i64 ((1:Int)+(1:Int)))∧(IntKind.wrap .i64 ((1:Int)+(1:Int)))<(s.size:Int) then
   if (decide ((bt s (IntKind.wrap .i64 ((1:Int)+(1:Int))))≥(32:Int)))=true then
    if 0≤(IntKind.wrap .i64 ((1:Int)+(1:Int)))∧(IntKind.wrap .i64 ((1:Int)+(1:Int)))<(s.size:Int) then
    (Ec n (decide ((bt s (IntKind.wrap .i64 ((1:Int)+(1:Int))))≤(126:Int)))).bind fun x_3=>mM x_3 (fun p2=>
     kp p2) (fun v3=>
    if 0≤(IntKind.wrap .i64 ((1:Int)+(1:Int)))∧(IntKind.wrap .i64 ((1:Int)+(1:Int)))<(s.size:Int) then
     (Va n (bt s (IntKind.wrap .i64 ((1:Int)+(1:Int))))).bind fun v4=>
     (ub n n s (IntKind.wrap .i64 ((IntKind.wrap .i64 ((1:Int)+(1:Int)))+(1:Int))) v4.1).bind fun x_4=>lM x_4
     (fun _=>none)
     (fun a_5=>
      k (a_5.1,(a_5.2,())))
     (fun p9=>
      kp p9)
    else
     none)
    else
    none
   else
    (Ec n false).bind fun x_6=>mM x_6 (fun p10=>
    kp p10) (fun v16=>
    if 0≤(IntKind.wrap .i64 ((1:Int)+(1:Int)))∧(IntKind.wrap .i64 ((1:Int)+(1:Int)))<(s.size:Int) then
    (Va n (bt s (IntKind.wrap .i64 ((1:Int)+(1:Int))))).bind fun v17=>
    (ub n n s (IntKind.wrap .i64 ((IntKind.wrap .i64 ((1:Int)+(1:Int)))+(1:Int))) v17.1).bind fun x_7=>lM x_7
     (fun _=>none)
     (fun a_8=>
     k (a_8.1,(a_8.2,())))
     (fun p11=>
     kp p11)
    else
    none)
   else
   none)
  else
   if 0≤(1:Int)∧(1:Int)<(s.size:Int) then
   if (decide ((bt s (1:Int))≥(32:Int)))=true then
    if 0≤(1:Int)∧(1:Int)<(s.size:Int) then
    (Ec n (decide ((bt s (1:Int))≤(126:Int)))).bind fun x_9=>mM x_9 (fun p12=>
     kp p12) (fun v18=>
    if 0≤(1:Int)∧(1:Int)<(s.size:Int) then
     (Va n (bt s (1:Int))).bind fun v19=>
     (ub n n s (IntKind.wrap .i64 ((1:Int)+(1:Int))) v19.1).bind fun x_10=>lM x_10
     (fun _=>none)
     (fun a_11=>
      k (a_11.1,(a_11.2,())))
     (fun p13=>
      kp p13)
    else
     none)
    else
    none
   else
    (Ec n false).bind fun x_12=>mM x_12 (fun p14=>
    kp p14) (fun v20=>
    if 0≤(1:Int)∧(1:Int)<(s.size:Int) then
    (Va n (bt s (1:Int))).bind fun v21=>
    (ub n n s (IntKind.wrap .i64 ((1:Int)+(1:Int))) v21.1).bind fun x_13=>lM x_13
     (fun _=>none)
     (fun a_14=>
     k (a_14.1,(a_14.2,())))
     (fun p15=>
     kp p15)
    else
    none)
   else
   none
  else
  none
 else
 none)
def Bt (n:Nat) (s:BA):Option (Except Int (BA×BA×Unit)):=Dr n s (fun y=>some (.ok y)) (fun p=>some (.error p))
theorem px (n:Nat) {S:Type}:∀ s (φ:_→Option S),(Bt n s).bind φ=Dr n s (fun y=>φ (.ok y)) (fun p=>φ (.error p)):=by
 intros;unfold Bt Dr;first | (simp only [ia,da,iB,bB,oL,oX,nB,Option.bind_some]) | rfl
def xe (n:Nat):Hint Out:={ live:=fun c=>(cond (Nat.beq c 0) (lv [0,4,5]) []),run:=fun c=>(cond (Nat.beq c 0) (some (XA Ji Ii fun σ ρ K=>(ub n n σ.1 σ.2.1 ρ.2.1).bind (Fc K))) none),xm:=fun c q=>(cond (Nat.beq c 1&&q.isNone) (some [(2,none),(3,none)]) none),sch:=fun c=>(cond (Nat.beq c 6) (some [(1,0),(2,0),(3,0),(4,0),(0,2),(5,0),(6,0)]) none),pl:=fun c=>Nat.beq c 0 }
def Ug (n:Nat) (K:XE→List AV→ea→Option Out) (m:Nat) (s1:BA) (i:Int) (r1:(Sq Int)):Option Out:=lq tys (fa Out (Bc n)) (xe n) n (La [1,1,1,0,0] (ba Tryz.f183)) 0 Ji Ii K m (s1,(i,())) ((),(r1,()))
theorem Vq (n:Nat) (K:XE→List AV→ea→Option Out):∀ (m:Nat) s1 i r1,Ug n K m s1 i r1=(ub n m s1 i r1).bind (Fc K)
 | 0,_,_,_=>by kernel_rfl
 | m+1,s1,i,r1=>by
  have h1:Ug n K (m+1) s1 i r1=uj n s1 i r1 (Ug n K m) (fun a=>Fc K (.out a)) (fun a=>Fc K (.ret a)) (fun p=>Fc K (.pan p)):=by kernel_rfl
  have h2:Ug n K m=fun s1 i r1=>(ub n m s1 i r1).bind (Fc K):=by
   repeat (refine funext fun _=>?_)
   exact Vq n K m _ _ _
  rw [h1,h2];exact (Wy n m _ _ _ (Fc K)).symm
theorem ox (n:Nat):Im tys (fa Out (Bc n)) (xe n) n (La [1,1,1,0,0] (ba Tryz.f183)) 0:=Mc (sp:=Ji) (rp:=Ii) (by kernel_rfl) fun K σ ρ=>Vq n K n σ.1 σ.2.1 ρ.2.1
theorem Wq (n:Nat):qa tys (fa Out (Bc n)) (xe n) n (ba Tryz.f183) 0:=⟨trivial,⟨trivial,⟨trivial,⟨ox n,⟨⟨trivial,⟨⟨trivial,⟨⟨trivial,trivial⟩,trivial⟩⟩,⟨⟨trivial,⟨⟨trivial,trivial⟩,trivial⟩⟩,⟨trivial,trivial⟩⟩⟩⟩,trivial⟩⟩⟩⟩⟩
theorem qA (n:Nat):Enters Tryz.prog 183:=enters_of (c:=ba Tryz.f183) Tryz.func183 (by kernel_rfl) (by kernel_rfl)
def Fv (n:Nat):Entry:=⟨183,rM 184 (.pair .str .unit) (.many (.pair .str (.pair .str .unit))) (fun xs=>Bt n xs.1),none,none⟩
theorem EB (n:Nat):EntryOk Tryz.prog gl (Fv n):=
 KE (qA n) (fun xs y h=>ra tys_ok (Rd n) mixed (hint:=xe n) (n:=n) Tryz.func183 (Ga (Wq n)) (pa (φ:=(fun r=>mM r (fun p=>some (Out.pan (Tp 184 p))) fun y=>some (Out.ret (ch (.many (.pair .str (.pair .str .unit))) y)))) (by kernel_rfl) (px n xs.1 _) h))
  (fun xs p h=>ra tys_ok (Rd n) mixed (hint:=xe n) (n:=n) Tryz.func183 (Ga (Wq n)) (pa (φ:=(fun r=>mM r (fun p=>some (Out.pan (Tp 184 p))) fun y=>some (Out.ret (ch (.many (.pair .str (.pair .str .unit))) y)))) (by kernel_rfl) (px n xs.1 _) h))
def En (n:Nat):List Entry:=Fv n::Bc n
theorem Fn (n:Nat):AllOk Tryz.prog gl (En n):=.cons (EB n) (Rd n)
def sx (n:Nat) {R:Type} (c:Int) (k:Bool→Option R):Option R:=
 if (decide (c≥(97:Int)))=true then
 if (decide (c≤(122:Int)))=false then
  if (decide (c≥(48:Int)))=true then
  k (decide (c≤(57:Int)))
  else
  k false
 else
  k true
 else
 if (decide (c≥(48:Int)))=true then
  k (decide (c≤(57:Int)))
 else
  k false
def rx (n:Nat) (c:Int):Option Bool:=sx n c some
theorem dG (n:Nat) {S:Type}:∀ c (φ:_→Option S),(rx n c).bind φ=sx n c φ:=by
 intros;unfold rx sx;first | (simp only [ia,da,iB,bB,oL,oX,nB,Option.bind_some]) | rfl
def Hv (n:Nat):Hint Out:={ live:=fun c=>[],run:=fun c=>none,xm:=fun c q=>none }
theorem GB (n:Nat):qa tys (fa Out (En n)) (Hv n) n (ba Tryz.f154) 0:=ma (fun _=>rfl) _ _ (by kernel_rfl)
theorem kD (n:Nat):Enters Tryz.prog 154:=enters_of (c:=ba Tryz.f154) Tryz.func154 (by kernel_rfl) (by kernel_rfl)
def Pz (n:Nat):Entry:=⟨154,qM (.pair (.int .u8) .unit) (.one .bool) (fun xs=>rx n xs.1),none,none⟩
theorem nF (n:Nat):EntryOk Tryz.prog gl (Pz n):=
 Ma (kD n) fun xs y h=>ra tys_ok (Fn n) mixed (hint:=Hv n) (n:=n) Tryz.func154 (Ga (GB n)) (pa (φ:=(fun y=>some (Out.ret (ch (.one .bool) y)))) (by kernel_rfl) (dG n xs.1 _) h)
def Qz (n:Nat):List Entry:=Pz n::En n
theorem sA (n:Nat):AllOk Tryz.prog gl (Qz n):=.cons (nF n) (Fn n)
theorem Vn:Tryz.prog.funcs[164]?=some Tryz.f164:=by kernel_rfl
theorem Wn:EntryOk Tryz.prog gl ⟨164,Ud,some (.flat fq),none⟩:=Kx Vn (by kernel_rfl) (by kernel_rfl) (by kernel_rfl) (by kernel_rfl)
def Hd (n:Nat):List Entry:=⟨164,Ud,some (.flat fq),none⟩::Qz n
theorem kf (n:Nat):AllOk Tryz.prog gl (Hd n):=.cons Wn (sA n)
def qk (n:Nat) {R:Type} (s:BA) (c:Int) (k:Int→Option R):Option R:=
 k (Lib.indexByte s.data.toList (Nat.toUInt8 (Int.toNat c)))
def Aj (n:Nat) (s:BA) (c:Int):Option Int:=qk n s c some
theorem jz (n:Nat) {S:Type}:∀ s c (φ:_→Option S),(Aj n s c).bind φ=qk n s c φ:=by
 intros;unfold Aj qk;first | (simp only [ia,da,iB,bB,oL,oX,nB,Option.bind_some]) | rfl
def Qk (n:Nat):Hint Out:={ live:=fun c=>[],run:=fun c=>none,xm:=fun c q=>none }
theorem Pu (n:Nat):qa tys (fa Out (Hd n)) (Qk n) n (ba Tryz.f142) 0:=ma (fun _=>rfl) _ _ (by kernel_rfl)
theorem ew (n:Nat):Enters Tryz.prog 142:=enters_of (c:=ba Tryz.f142) Tryz.func142 (by kernel_rfl) (by kernel_rfl)
def Zn (n:Nat):Entry:=⟨142,qM (.pair .str (.pair (.int .u8) .unit)) (.one (.int .i64)) (fun xs=>Aj n xs.1 xs.2.1),none,none⟩
theorem Hx (n:Nat):EntryOk Tryz.prog gl (Zn n):=
 Ma (ew n) fun xs y h=>ra tys_ok (kf n) mixed (hint:=Qk n) (n:=n) Tryz.func142 (Ga (Pu n)) (pa (φ:=(fun y=>some (Out.ret (ch (.one (.int .i64)) y)))) (by kernel_rfl) (jz n xs.1 xs.2.1 _) h)
def Pi (n:Nat):List Entry:=Zn n::Hd n
theorem Bj (n:Nat):AllOk Tryz.prog gl (Pi n):=.cons (Hx n) (kf n)
def Fk (n:Nat) {R:Type} (s:BA) (c:Int) (k:Int→Option R):Option R:=
 (Aj n s c).bind fun v=>
 k v
def vf (n:Nat) (s:BA) (c:Int):Option Int:=Fk n s c some
theorem Cz (n:Nat) {S:Type}:∀ s c (φ:_→Option S),(vf n s c).bind φ=Fk n s c φ:=by
 intros;unfold vf Fk;first | (simp only [ia,da,iB,bB,oL,oX,nB,Option.bind_some]) | rfl
def tl (n:Nat):Hint Out:={ live:=fun c=>[],run:=fun c=>none,xm:=fun c q=>none }
theorem uv (n:Nat):qa tys (fa Out (Pi n)) (tl n) n (ba Tryz.f185) 0:=ma (fun _=>rfl) _ _ (by kernel_rfl)
theorem Fw (n:Nat):Enters Tryz.prog 185:=enters_of (c:=ba Tryz.f185) Tryz.func185 (by kernel_rfl) (by kernel_rfl)
def Np (n:Nat):Entry:=⟨185,qM (.pair .str (.pair (.int .u8) .unit)) (.one (.int .i64)) (fun xs=>vf n xs.1 xs.2.1),none,none⟩
theorem xy (n:Nat):EntryOk Tryz.prog gl (Np n):=
 Ma (Fw n) fun xs y h=>ra tys_ok (Bj n) mixed (hint:=tl n) (n:=n) Tryz.func185 (Ga (uv n)) (pa (φ:=(fun y=>some (Out.ret (ch (.one (.int .i64)) y)))) (by kernel_rfl) (Cz n xs.1 xs.2.1 _) h)
def mj (n:Nat):List Entry:=Np n::Pi n
theorem Tj (n:Nat):AllOk Tryz.prog gl (mj n):=.cons (xy n) (Bj n)
def Yw (n:Nat) {R:Type} (c:Int) (k:Bool→Option R):Option R:=
 (rx n c).bind fun v=>
 if v=false then
 if (decide (c≥(65:Int)))=true then
  if (decide (c≤(90:Int)))=false then
  (vf n (⟨#[33,35,36,37,38,39,42,43,45,47,61,63,94,95,96,123,124,125,126]⟩:BA) c).bind fun v1=>
  k (decide (v1≥(0:Int)))
  else
  k true
 else
  (vf n (⟨#[33,35,36,37,38,39,42,43,45,47,61,63,94,95,96,123,124,125,126]⟩:BA) c).bind fun v2=>
  k (decide (v2≥(0:Int)))
 else
 k true
def Xw (n:Nat) (c:Int):Option Bool:=Yw n c some
theorem cG (n:Nat) {S:Type}:∀ c (φ:_→Option S),(Xw n c).bind φ=Yw n c φ:=by
 intros;unfold Xw Yw;first | (simp only [ia,da,iB,bB,oL,oX,nB,Option.bind_some]) | rfl
def Dv (n:Nat):Hint Out:={ live:=fun c=>[],run:=fun c=>none,xm:=fun c q=>none }
theorem xB (n:Nat):qa tys (fa Out (mj n)) (Dv n) n (ba Tryz.f199) 0:=ma (fun _=>rfl) _ _ (by kernel_rfl)
theorem dD (n:Nat):Enters Tryz.prog 199:=enters_of (c:=ba Tryz.f199) Tryz.func199 (by kernel_rfl) (by kernel_rfl)
def Lz (n:Nat):Entry:=⟨199,qM (.pair (.int .u8) .unit) (.one .bool) (fun xs=>Xw n xs.1),none,none⟩
theorem gF (n:Nat):EntryOk Tryz.prog gl (Lz n):=
 Ma (dD n) fun xs y h=>ra tys_ok (Tj n) mixed (hint:=Dv n) (n:=n) Tryz.func199 (Ga (xB n)) (pa (φ:=(fun y=>some (Out.ret (ch (.one .bool) y)))) (by kernel_rfl) (cG n xs.1 _) h)
def Kk (n:Nat):List Entry:=Lz n::mj n
theorem Xs (n:Nat):AllOk Tryz.prog gl (Kk n):=.cons (gF n) (Tj n)
def zl (n:Nat) {R:Type} (s1:BA) (word t6 t7:Int) (kn:BA→Int→Int→Int→Option R) (ko:(Int)→Option R) (kr:(Bool)→Option R) (kp:Int→Option R):Option R:=
 if (decide (t7<t6))=true then
 if 0≤t7∧t7<(s1.size:Int) then
  if ((bt s1 t7)==(46:Int))=true then
  if (word==(0:Int))=false then
   if 0≤t7∧t7<(s1.size:Int) then
   if ((bt s1 t7) !=(46:Int))=true then
    if 0≤t7∧t7<(s1.size:Int) then
    (Xw n (bt s1 t7)).bind fun v=>
    if (!v)=true then
     kr false
    else
     if 0≤t7∧t7<(s1.size:Int) then
     if ((bt s1 t7)==(46:Int))=true then
      kn s1 (0:Int) t6 (IntKind.wrap .i64 (t7+(1:Int)))
     else
      kn s1 (IntKind.wrap .i64 (word+(1:Int))) t6 (IntKind.wrap .i64 (t7+(1:Int)))
     else
     none
    else
    none
   else
    if 0≤t7∧t7<(s1.size:Int) then
    if ((bt s1 t7)==(46:Int))=true then
     kn s1 (0:Int) t6 (IntKind.wrap .i64 (t7+(1:Int)))
    else
     kn s1 (IntKind.wrap .i64 (word+(1:Int))) t6 (IntKind.wrap .i64 (t7+(1:Int)))
    else
    none
   else
   none
  else
   kr false
  else
  if 0≤t7∧t7<(s1.size:Int) then
   if ((bt s1 t7) !=(46:Int))=true then
   if 0≤t7∧t7<(s1.size:Int) then
    (Xw n (bt s1 t7)).bind fun v1=>
    if (!v1)=true then
    kr false
    else
    if 0≤t7∧t7<(s1.size:Int) then
     if ((bt s1 t7)==(46:Int))=true then
     kn s1 (0:Int) t6 (IntKind.wrap .i64 (t7+(1:Int)))
     else
     kn s1 (IntKind.wrap .i64 (word+(1:Int))) t6 (IntKind.wrap .i64 (t7+(1:Int)))
    else
     none
   else
    none
   else
   if 0≤t7∧t7<(s1.size:Int) then
    if ((bt s1 t7)==(46:Int))=true then
    kn s1 (0:Int) t6 (IntKind.wrap .i64 (t7+(1:Int)))
    else
    kn s1 (IntKind.wrap .i64 (word+(1:Int))) t6 (IntKind.wrap .i64 (t7+(1:Int)))
   else
    none
  else
   none
 else
  none
 else
 ko word
def Dd (n:Nat):Nat→BA→Int→Int→Int→Option (Lx (Int) (Bool))
 | 0,_,_,_,_=>none
 | m+1,s1,word,t6,t7=>zl n s1 word t6 t7 (Dd n m) (fun a=>some (.out a)) (fun a=>some (.ret a)) (fun p=>some (.pan p))
theorem mA (n m:Nat) {S:Type}:∀ s1 word t6 t7 (φ:_→Option S),(Dd n (m+1) s1 word t6 t7).bind φ=zl n s1 word t6 t7 (fun s1 word t6 t7=>(Dd n m s1 word t6 t7).bind φ) (fun a=>φ (.out a)) (fun a=>φ (.ret a)) (fun p=>φ (.pan p)):=by
 intros;first | (simp only [Dd,zl,ia,da,iB,bB,oL,oX,nB,Option.bind_some]) | rfl
def dk:List Sl:=.dat .str::.top::.top::.dat (.int .i64)::.top::.top::.dat (.int .i64)::.dat (.int .i64)::tp 32 []
def ck:List RS:=[]
def tt:List Sl:=.top::.top::.top::.dat (.int .i64)::tp 36 []
def rt:List RS:=[]
def vt:List Sl:=.top::.top::.dat .bool::tp 37 []
def ut:List RS:=[]
def Vc (K:XE→List AV→ea→Option Out):Lx (Int) (Bool)→Option Out:=fun x=>lM x (fun a=>Ky tt rt (a,()) () (K (.exit 0))) (fun a=>Ky vt ut (a,()) () (K .ret)) (fun _=>none)
def Cu (n:Nat) {R:Type} (s:BA) (k:Bool→Option R):Option R:=
 (Dd n n s (0:Int) (s.size:Int) (0:Int)).bind fun x_1=>lM x_1
 (fun a_2=>
  k (decide (a_2>(0:Int))))
 (fun a_3=>
  k a_3)
 (fun _=>none)
def ot (n:Nat) (s:BA):Option Bool:=Cu n s some
theorem kF (n:Nat) {S:Type}:∀ s (φ:_→Option S),(ot n s).bind φ=Cu n s φ:=by
 intros;unfold ot Cu;first | (simp only [ia,da,iB,bB,oL,oX,nB,Option.bind_some]) | rfl
def qi (n:Nat):Hint Out:={ live:=fun c=>(cond (Nat.beq c 0) (lv [0,3,6,7]) []),run:=fun c=>(cond (Nat.beq c 0) (some (XA dk ck fun σ ρ K=>(Dd n n σ.1 σ.2.1 σ.2.2.1 σ.2.2.2.1).bind (Vc K))) none),xm:=fun c q=>(cond (Nat.beq c 0&&Nat.beq (q.getD 1000000) 0&&q.isSome) (some [(3,none)]) (cond (Nat.beq c 1&&q.isNone) (some [(2,none)]) none)) }
def pi (n:Nat) (K:XE→List AV→ea→Option Out) (m:Nat) (s1:BA) (word:Int) (t6:Int) (t7:Int):Option Out:=lq tys (fa Out (Kk n)) (qi n) n (La [1,1,0,1,0,0] (ba Tryz.f186)) 0 dk ck K m (s1,(word,(t6,(t7,())))) ()
theorem qt (n:Nat) (K:XE→List AV→ea→Option Out):∀ (m:Nat) s1 word t6 t7,pi n K m s1 word t6 t7=(Dd n m s1 word t6 t7).bind (Vc K)
 | 0,_,_,_,_=>by kernel_rfl
 | m+1,s1,word,t6,t7=>by
  have h1:pi n K (m+1) s1 word t6 t7=zl n s1 word t6 t7 (pi n K m) (fun a=>Vc K (.out a)) (fun a=>Vc K (.ret a)) (fun p=>Vc K (.pan p)):=by kernel_rfl
  have h2:pi n K m=fun s1 word t6 t7=>(Dd n m s1 word t6 t7).bind (Vc K):=by
   repeat (refine funext fun _=>?_)
   exact qt n K m _ _ _ _
  rw [h1,h2];exact (mA n m _ _ _ _ (Vc K)).symm
theorem Uy (n:Nat):Im tys (fa Out (Kk n)) (qi n) n (La [1,1,0,1,0,0] (ba Tryz.f186)) 0:=Mc (sp:=dk) (rp:=ck) (by kernel_rfl) fun K σ ρ=>qt n K n σ.1 σ.2.1 σ.2.2.1 σ.2.2.2.1
theorem nA (n:Nat):qa tys (fa Out (Kk n)) (qi n) n (ba Tryz.f186) 0:=⟨trivial,⟨trivial,⟨⟨trivial,⟨Uy n,⟨trivial,⟨⟨trivial,trivial⟩,⟨⟨trivial,⟨⟨trivial,⟨⟨trivial,trivial⟩,trivial⟩⟩,⟨trivial,⟨trivial,⟨trivial,trivial⟩⟩⟩⟩⟩,trivial⟩⟩⟩⟩⟩,⟨trivial,trivial⟩⟩⟩⟩
theorem CB (n:Nat):Enters Tryz.prog 186:=enters_of (c:=ba Tryz.f186) Tryz.func186 (by kernel_rfl) (by kernel_rfl)
def lx (n:Nat):Entry:=⟨186,qM (.pair .str .unit) (.one .bool) (fun xs=>ot n xs.1),none,none⟩
theorem gD (n:Nat):EntryOk Tryz.prog gl (lx n):=
 Ma (CB n) fun xs y h=>ra tys_ok (Xs n) mixed (hint:=qi n) (n:=n) Tryz.func186 (Ga (nA n)) (pa (φ:=(fun y=>some (Out.ret (ch (.one .bool) y)))) (by kernel_rfl) (kF n xs.1 _) h)
def Hi (n:Nat):List Entry:=lx n::Kk n
theorem Uq (n:Nat):AllOk Tryz.prog gl (Hi n):=.cons (gD n) (Xs n)
def Al (n:Nat) {R:Type} (s1:BA) (t10 t11:Int) (r1:(Sq Int)) (kn:BA→Int→Int→(Sq Int)→Option R) (ko:((Sq Int))→Option R) (kr:Unit→Option R) (kp:Int→Option R):Option R:=
 if (decide (t11<t10))=true then
 if 0≤t11∧t11<(s1.size:Int) then
  if ((bt s1 t11)==(34:Int))=false then
  if 0≤t11∧t11<(s1.size:Int) then
   if ((bt s1 t11)==(92:Int))=true then
   (Aa n (92:Int) r1).bind fun v2=>
   if 0≤t11∧t11<(s1.size:Int) then
    (Aa n (bt s1 t11) v2.1).bind fun v3=>
    kn s1 t10 (IntKind.wrap .i64 (t11+(1:Int))) v3.1
   else
    none
   else
   if 0≤t11∧t11<(s1.size:Int) then
    (Aa n (bt s1 t11) r1).bind fun v4=>
    kn s1 t10 (IntKind.wrap .i64 (t11+(1:Int))) v4.1
   else
    none
  else
   none
  else
  (Aa n (92:Int) r1).bind fun v5=>
  if 0≤t11∧t11<(s1.size:Int) then
   (Aa n (bt s1 t11) v5.1).bind fun v6=>
   kn s1 t10 (IntKind.wrap .i64 (t11+(1:Int))) v6.1
  else
   none
 else
  none
 else
 ko r1
def Ed (n:Nat):Nat→BA→Int→Int→(Sq Int)→Option (Lx ((Sq Int)) Unit)
 | 0,_,_,_,_=>none
 | m+1,s1,t10,t11,r1=>Al n s1 t10 t11 r1 (Ed n m) (fun a=>some (.out a)) (fun a=>some (.ret a)) (fun p=>some (.pan p))
theorem oA (n m:Nat) {S:Type}:∀ s1 t10 t11 r1 (φ:_→Option S),(Ed n (m+1) s1 t10 t11 r1).bind φ=Al n s1 t10 t11 r1 (fun s1 t10 t11 r1=>(Ed n m s1 t10 t11 r1).bind φ) (fun a=>φ (.out a)) (fun a=>φ (.ret a)) (fun p=>φ (.pan p)):=by
 intros;first | (simp only [Ed,Al,ia,da,iB,bB,oL,oX,nB,Option.bind_some]) | rfl
def fk:List Sl:=.dat .str::.top::.top::.ptr 0 0 0::tp 6 (.dat (.int .i64)::.dat (.int .i64)::tp 20 [])
def ek:List RS:=[.box 126 2 false [.ptr 0 0 0,.row 1],.row 5 1 (.int .u8) true false]
def At:List Sl:=.top::.top::.top::.ptr 0 0 0::tp 28 []
def zt:List RS:=[.box 126 2 false [.ptr 0 0 0,.row 1],.row 5 1 (.int .u8) true false]
def Wc (K:XE→List AV→ea→Option Out):Lx ((Sq Int)) Unit→Option Out:=fun x=>lM x (fun a=>Ky At zt () ((),(a,())) (K (.exit 0))) (fun _=>none) (fun _=>none)
def Du (n:Nat) {R:Type} (s:BA) (k:BA→Option R):Option R:=
 (ot n s).bind fun v=>
 if v=true then
 k s
 else
 (Va n (34:Int)).bind fun v1=>
 (Ed n n s (s.size:Int) (0:Int) v1.1).bind fun x_1=>lM x_1
  (fun a_2=>
  (Tc n a_2).bind fun v7=>
  if Wa v7.1 (⟨#[34]⟩:BA)=true then
   k (v7.1++(⟨#[34]⟩:BA))
  else
   none)
  (fun _=>none)
  (fun _=>none)
def Lw (n:Nat) (s:BA):Option BA:=Du n s some
theorem lF (n:Nat) {S:Type}:∀ s (φ:_→Option S),(Lw n s).bind φ=Du n s φ:=by
 intros;unfold Lw Du;first | (simp only [ia,da,iB,bB,oL,oX,nB,Option.bind_some]) | rfl
def si (n:Nat):Hint Out:={ live:=fun c=>(cond (Nat.beq c 0) (lv [0,3,10,11]) []),run:=fun c=>(cond (Nat.beq c 0) (some (XA fk ek fun σ ρ K=>(Ed n n σ.1 σ.2.1 σ.2.2.1 ρ.2.1).bind (Wc K))) none),xm:=fun c q=>(cond (Nat.beq c 0&&Nat.beq (q.getD 1000000) 0&&q.isSome) (some [(3,none)]) none) }
def ri (n:Nat) (K:XE→List AV→ea→Option Out) (m:Nat) (s1:BA) (t10:Int) (t11:Int) (r1:(Sq Int)):Option Out:=lq tys (fa Out (Hi n)) (si n) n (La [1,1,1,1,0,1,0,0] (ba Tryz.f184)) 0 fk ek K m (s1,(t10,(t11,()))) ((),(r1,()))
theorem wt (n:Nat) (K:XE→List AV→ea→Option Out):∀ (m:Nat) s1 t10 t11 r1,ri n K m s1 t10 t11 r1=(Ed n m s1 t10 t11 r1).bind (Wc K)
 | 0,_,_,_,_=>by kernel_rfl
 | m+1,s1,t10,t11,r1=>by
  have h1:ri n K (m+1) s1 t10 t11 r1=Al n s1 t10 t11 r1 (ri n K m) (fun a=>Wc K (.out a)) (fun a=>Wc K (.ret a)) (fun p=>Wc K (.pan p)):=by kernel_rfl
  have h2:ri n K m=fun s1 t10 t11 r1=>(Ed n m s1 t10 t11 r1).bind (Wc K):=by
   repeat (refine funext fun _=>?_)
   exact wt n K m _ _ _ _
  rw [h1,h2];exact (oA n m _ _ _ _ (Wc K)).symm
theorem Vy (n:Nat):Im tys (fa Out (Hi n)) (si n) n (La [1,1,1,1,0,1,0,0] (ba Tryz.f184)) 0:=Mc (sp:=fk) (rp:=ek) (by kernel_rfl) fun K σ ρ=>wt n K n σ.1 σ.2.1 σ.2.2.1 ρ.2.1
theorem pA (n:Nat):qa tys (fa Out (Hi n)) (si n) n (ba Tryz.f184) 0:=⟨trivial,⟨⟨trivial,⟨⟨trivial,trivial⟩,trivial⟩⟩,⟨trivial,⟨trivial,⟨⟨trivial,⟨Vy n,⟨trivial,⟨⟨trivial,trivial⟩,⟨⟨trivial,⟨⟨trivial,⟨trivial,trivial⟩⟩,trivial⟩⟩,trivial⟩⟩⟩⟩⟩,⟨trivial,trivial⟩⟩⟩⟩⟩⟩
theorem DB (n:Nat):Enters Tryz.prog 184:=enters_of (c:=ba Tryz.f184) Tryz.func184 (by kernel_rfl) (by kernel_rfl)
def nx (n:Nat):Entry:=⟨184,qM (.pair .str .unit) (.one .str) (fun xs=>Lw n xs.1),none,none⟩
theorem iD (n:Nat):EntryOk Tryz.prog gl (nx n):=
 Ma (DB n) fun xs y h=>ra tys_ok (Uq n) mixed (hint:=si n) (n:=n) Tryz.func184 (Ga (pA n)) (pa (φ:=(fun y=>some (Out.ret (ch (.one .str) y)))) (by kernel_rfl) (lF n xs.1 _) h)
def Cr (n:Nat):List Entry:=nx n::Hi n
theorem gk (n:Nat):AllOk Tryz.prog gl (Cr n):=.cons (iD n) (Uq n)
def Au (n:Nat) {R:Type} (s:BA) (k:(BA×BA×Unit)→Option R) (kp:Int→Option R):Option R:=
 (Da n s (⟨#[34]⟩:BA)).bind fun v=>
 if v=true then
 (Bt n s).bind fun x_1=>mM x_1 (fun p=>
  kp p) (fun v1=>
 (Lw n v1.1).bind fun v2=>
 k (v2,(v1.2.1,())))
 else
 (vf n s (64:Int)).bind fun v3=>
 if (decide (v3≥(0:Int)))=true then
  if 0≤v3∧v3≤(s.size:Int) then
  (ot n (s.extract (Int.toNat (0:Int)) (Int.toNat v3))).bind fun v4=>
  (Ec n v4).bind fun x_2=>mM x_2 (fun p1=>
   kp p1) (fun v5=>
  if 0≤v3∧v3≤(s.size:Int) then
   if 0≤v3∧v3≤(s.size:Int) then
   k ((s.extract (Int.toNat (0:Int)) (Int.toNat v3)),((s.extract (Int.toNat v3) (Int.toNat (s.size:Int))),()))
   else
   none
  else
   none)
  else
  none
 else
  (Ec n false).bind fun x_3=>mM x_3 (fun p2=>
  kp p2) (fun v6=>
  if 0≤v3∧v3≤(s.size:Int) then
  if 0≤v3∧v3≤(s.size:Int) then
   k ((s.extract (Int.toNat (0:Int)) (Int.toNat v3)),((s.extract (Int.toNat v3) (Int.toNat (s.size:Int))),()))
  else
   none
  else
  none)
def Kw (n:Nat) (s:BA):Option (Except Int (BA×BA×Unit)):=Au n s (fun y=>some (.ok y)) (fun p=>some (.error p))
theorem Mz (n:Nat) {S:Type}:∀ s (φ:_→Option S),(Kw n s).bind φ=Au n s (fun y=>φ (.ok y)) (fun p=>φ (.error p)):=by
 intros;unfold Kw Au;first | (simp only [ia,da,iB,bB,oL,oX,nB,Option.bind_some]) | rfl
def yl (n:Nat):Hint Out:={ live:=fun c=>[],run:=fun c=>none,xm:=fun c q=>none }
theorem mt (n:Nat):qa tys (fa Out (Cr n)) (yl n) n (ba Tryz.f166) 0:=ma (fun _=>rfl) _ _ (by kernel_rfl)
theorem AB (n:Nat):Enters Tryz.prog 166:=enters_of (c:=ba Tryz.f166) Tryz.func166 (by kernel_rfl) (by kernel_rfl)
def jx (n:Nat):Entry:=⟨166,rM 184 (.pair .str .unit) (.many (.pair .str (.pair .str .unit))) (fun xs=>Kw n xs.1),none,none⟩
theorem eD (n:Nat):EntryOk Tryz.prog gl (jx n):=
 KE (AB n) (fun xs y h=>ra tys_ok (gk n) mixed (hint:=yl n) (n:=n) Tryz.func166 (Ga (mt n)) (pa (φ:=(fun r=>mM r (fun p=>some (Out.pan (Tp 184 p))) fun y=>some (Out.ret (ch (.many (.pair .str (.pair .str .unit))) y)))) (by kernel_rfl) (Mz n xs.1 _) h))
  (fun xs p h=>ra tys_ok (gk n) mixed (hint:=yl n) (n:=n) Tryz.func166 (Ga (mt n)) (pa (φ:=(fun r=>mM r (fun p=>some (Out.pan (Tp 184 p))) fun y=>some (Out.ret (ch (.many (.pair .str (.pair .str .unit))) y)))) (by kernel_rfl) (Mz n xs.1 _) h))
def Gi (n:Nat):List Entry:=jx n::Cr n
theorem Tq (n:Nat):AllOk Tryz.prog gl (Gi n):=.cons (eD n) (gk n)
def Bl (n:Nat) {R:Type} (t9 t10:Int) (b:(Sq Int)) (kn:Int→Int→(Sq Int)→Option R) (ko:((Sq Int))→Option R) (kr:Unit→Option R) (kp:Int→Option R):Option R:=
 if (decide (t10<t9))=true then
 if 0≤t10∧t10<(b.n:Int) then
  if (decide ((b.at' (Int.toNat t10))≥(65:Int)))=true then
  if (decide ((b.at' (Int.toNat t10))≤(90:Int)))=true then
   if 0≤t10∧t10<(b.n:Int) then
   kn t9 (IntKind.wrap .i64 (t10+(1:Int))) (⟨b.n,fun q=>if q=(Int.toNat t10)∧q<b.n then (IntKind.wrap .u8 ((IntKind.wrap .u8 ((b.at' (Int.toNat t10))+(97:Int))) - (65:Int))) else b.at' q⟩:Sq Int)
   else
   none
  else
   kn t9 (IntKind.wrap .i64 (t10+(1:Int))) b
  else
  kn t9 (IntKind.wrap .i64 (t10+(1:Int))) b
 else
  none
 else
 ko b
def Fd (n:Nat):Nat→Int→Int→(Sq Int)→Option (Lx ((Sq Int)) Unit)
 | 0,_,_,_=>none
 | m+1,t9,t10,b=>Bl n t9 t10 b (Fd n m) (fun a=>some (.out a)) (fun a=>some (.ret a)) (fun p=>some (.pan p))
theorem tA (n m:Nat) {S:Type}:∀ t9 t10 b (φ:_→Option S),(Fd n (m+1) t9 t10 b).bind φ=Bl n t9 t10 b (fun t9 t10 b=>(Fd n m t9 t10 b).bind φ) (fun a=>φ (.out a)) (fun a=>φ (.ret a)) (fun p=>φ (.pan p)):=by
 intros;first | (simp only [Fd,Bl,ia,da,iB,bB,oL,oX,nB,Option.bind_some]) | rfl
def jk:List Sl:=.top::.top::.top::.row 0::tp 4 (.row 0::.dat (.int .i64)::.dat (.int .i64)::tp 19 [])
def ik:List RS:=[.row 5 1 (.int .u8) false true]
def Gt:List Sl:=.top::.top::.top::.row 0::tp 26 []
def Ft:List RS:=[.row 5 1 (.int .u8) false true]
def Xc (K:XE→List AV→ea→Option Out):Lx ((Sq Int)) Unit→Option Out:=fun x=>lM x (fun a=>Ky Gt Ft () (a,()) (K (.exit 0))) (fun _=>none) (fun _=>none)
def Eu (n:Nat) {R:Type} (s:BA) (k:BA→Option R):Option R:=
 (Fd n n (s.size:Int) (0:Int) (⟨s.size,fun q=>bt s q⟩:Sq Int)).bind fun x_1=>lM x_1
 (fun a_2=>
  k (Fz a_2.n a_2.at'))
 (fun _=>none)
 (fun _=>none)
def Dt (n:Nat) (s:BA):Option BA:=Eu n s some
theorem oF (n:Nat) {S:Type}:∀ s (φ:_→Option S),(Dt n s).bind φ=Eu n s φ:=by
 intros;unfold Dt Eu;first | (simp only [ia,da,iB,bB,oL,oX,nB,Option.bind_some]) | rfl
def ui (n:Nat):Hint Out:={ live:=fun c=>(cond (Nat.beq c 0) [(3,some (.sl (.int .u8))),(8,some (.sl (.int .u8))),(9,none),(10,none)] []),run:=fun c=>(cond (Nat.beq c 0) (some (XA jk ik fun σ ρ K=>(Fd n n σ.1 σ.2.1 ρ.1).bind (Xc K))) none),xm:=fun c q=>(cond (Nat.beq c 0&&Nat.beq (q.getD 1000000) 0&&q.isSome) (some [(3,some (.sl (.int .u8)))]) none) }
def ti (n:Nat) (K:XE→List AV→ea→Option Out) (m:Nat) (t9:Int) (t10:Int) (b:(Sq Int)):Option Out:=lq tys (fa Out (Gi n)) (ui n) n (La [1,1,0,1,0,0] (ba Tryz.f159)) 0 jk ik K m (t9,(t10,())) (b,())
theorem Et (n:Nat) (K:XE→List AV→ea→Option Out):∀ (m:Nat) t9 t10 b,ti n K m t9 t10 b=(Fd n m t9 t10 b).bind (Xc K)
 | 0,_,_,_=>by kernel_rfl
 | m+1,t9,t10,b=>by
  have h1:ti n K (m+1) t9 t10 b=Bl n t9 t10 b (ti n K m) (fun a=>Xc K (.out a)) (fun a=>Xc K (.ret a)) (fun p=>Xc K (.pan p)):=by kernel_rfl
  have h2:ti n K m=fun t9 t10 b=>(Fd n m t9 t10 b).bind (Xc K):=by
   repeat (refine funext fun _=>?_)
   exact Et n K m _ _ _
  rw [h1,h2];exact (tA n m _ _ _ (Xc K)).symm
theorem Xy (n:Nat):Im tys (fa Out (Gi n)) (ui n) n (La [1,1,0,1,0,0] (ba Tryz.f159)) 0:=Mc (sp:=jk) (rp:=ik) (by kernel_rfl) fun K σ ρ=>Et n K n σ.1 σ.2.1 ρ.1
theorem uA (n:Nat):qa tys (fa Out (Gi n)) (ui n) n (ba Tryz.f159) 0:=⟨trivial,⟨trivial,⟨⟨trivial,⟨Xy n,⟨trivial,⟨⟨trivial,trivial⟩,⟨⟨trivial,⟨trivial,⟨trivial,trivial⟩⟩⟩,trivial⟩⟩⟩⟩⟩,⟨trivial,trivial⟩⟩⟩⟩
theorem HB (n:Nat):Enters Tryz.prog 159:=enters_of (c:=ba Tryz.f159) Tryz.func159 (by kernel_rfl) (by kernel_rfl)
def tx (n:Nat):Entry:=⟨159,qM (.pair .str .unit) (.one .str) (fun xs=>Dt n xs.1),none,none⟩
theorem lD (n:Nat):EntryOk Tryz.prog gl (tx n):=
 Ma (HB n) fun xs y h=>ra tys_ok (Tq n) mixed (hint:=ui n) (n:=n) Tryz.func159 (Ga (uA n)) (pa (φ:=(fun y=>some (Out.ret (ch (.one .str) y)))) (by kernel_rfl) (oF n xs.1 _) h)
def Gr (n:Nat):List Entry:=tx n::Gi n
theorem Xq (n:Nat):AllOk Tryz.prog gl (Gr n):=.cons (lD n) (Tq n)
def Yj (n:Nat) {R:Type} (s:BA) (k:Bool→Option R):Option R:=
 (Da n s (⟨#[91]⟩:BA)).bind fun v=>
 k v
def jf (n:Nat) (s:BA):Option Bool:=Yj n s some
theorem Oy (n:Nat) {S:Type}:∀ s (φ:_→Option S),(jf n s).bind φ=Yj n s φ:=by
 intros;unfold jf Yj;first | (simp only [ia,da,iB,bB,oL,oX,nB,Option.bind_some]) | rfl
def Jk (n:Nat):Hint Out:={ live:=fun c=>[],run:=fun c=>none,xm:=fun c q=>none }
theorem wu (n:Nat):qa tys (fa Out (Gr n)) (Jk n) n (ba Tryz.f128) 0:=ma (fun _=>rfl) _ _ (by kernel_rfl)
theorem Zv (n:Nat):Enters Tryz.prog 128:=enters_of (c:=ba Tryz.f128) Tryz.func128 (by kernel_rfl) (by kernel_rfl)
def xn (n:Nat):Entry:=⟨128,qM (.pair .str .unit) (.one .bool) (fun xs=>jf n xs.1),none,none⟩
theorem zn (n:Nat):EntryOk Tryz.prog gl (xn n):=
 Ma (Zv n) fun xs y h=>ra tys_ok (Xq n) mixed (hint:=Jk n) (n:=n) Tryz.func128 (Ga (wu n)) (pa (φ:=(fun y=>some (Out.ret (ch (.one .bool) y)))) (by kernel_rfl) (Oy n xs.1 _) h)
def yn (n:Nat):List Entry:=xn n::Gr n
theorem Vs (n:Nat):AllOk Tryz.prog gl (yn n):=.cons (zn n) (Xq n)
theorem Lu:Tryz.prog.funcs[201]?=some Tryz.f201:=by kernel_rfl
theorem Mu:EntryOk Tryz.prog gl ⟨201,Ud,some (.flat aF),none⟩:=rD Lu (by kernel_rfl) (by kernel_rfl) (by kernel_rfl) (by kernel_rfl)
def Cg (n:Nat):List Entry:=⟨201,Ud,some (.flat aF),none⟩::yn n
theorem Eh (n:Nat):AllOk Tryz.prog gl (Cg n):=.cons Mu (Vs n)
def vv (n:Nat) {R:Type} (s substr:BA) (k:Int→Option R):Option R:=
 (iC s substr).bind fun v=>
 k v
def om (n:Nat) (s substr:BA):Option Int:=vv n s substr some
theorem MF (n:Nat) {S:Type}:∀ s substr (φ:_→Option S),(om n s substr).bind φ=vv n s substr φ:=by
 intros;unfold om vv;first | (simp only [ia,da,iB,bB,oL,oX,nB,Option.bind_some]) | rfl
def nu (n:Nat):Hint Out:={ live:=fun c=>[],run:=fun c=>none,xm:=fun c q=>none }
theorem jB (n:Nat):qa tys (fa Out (Cg n)) (nu n) n (ba Tryz.f127) 0:=ma (fun _=>rfl) _ _ (by kernel_rfl)
theorem LC (n:Nat):Enters Tryz.prog 127:=enters_of (c:=ba Tryz.f127) Tryz.func127 (by kernel_rfl) (by kernel_rfl)
def yy (n:Nat):Entry:=⟨127,qM (.pair .str (.pair .str .unit)) (.one (.int .i64)) (fun xs=>om n xs.1 xs.2.1),none,none⟩
theorem zy (n:Nat):EntryOk Tryz.prog gl (yy n):=
 Ma (LC n) fun xs y h=>ra tys_ok (Eh n) mixed (hint:=nu n) (n:=n) Tryz.func127 (Ga (jB n)) (pa (φ:=(fun y=>some (Out.ret (ch (.one (.int .i64)) y)))) (by kernel_rfl) (MF n xs.1 xs.2.1 _) h)
def nj (n:Nat):List Entry:=yy n::Cg n
theorem xr (n:Nat):AllOk Tryz.prog gl (nj n):=.cons (zy n) (Eh n)
def mm (n:Nat) {R:Type} (s1 substr1:BA) (n0:Int) (kn:BA→BA→Int→Option R) (ko:Unit→Option R) (kr:(Int)→Option R) (kp:Int→Option R):Option R:=
 (om n s1 substr1).bind fun v=>
 if (v==(-1:Int))=true then
 kr n0
 else
 if 0≤(IntKind.wrap .i64 (v+(substr1.size:Int)))∧(IntKind.wrap .i64 (v+(substr1.size:Int)))≤(s1.size:Int) then
  kn (s1.extract (Int.toNat (IntKind.wrap .i64 (v+(substr1.size:Int)))) (Int.toNat (s1.size:Int))) substr1 (IntKind.wrap .i64 (n0+(1:Int)))
 else
  none
def Sd (n:Nat):Nat→BA→BA→Int→Option (Lx Unit (Int))
 | 0,_,_,_=>none
 | m+1,s1,substr1,n0=>mm n s1 substr1 n0 (Sd n m) (fun a=>some (.out a)) (fun a=>some (.ret a)) (fun p=>some (.pan p))
theorem eB (n m:Nat) {S:Type}:∀ s1 substr1 n0 (φ:_→Option S),(Sd n (m+1) s1 substr1 n0).bind φ=mm n s1 substr1 n0 (fun s1 substr1 n0=>(Sd n m s1 substr1 n0).bind φ) (fun a=>φ (.out a)) (fun a=>φ (.ret a)) (fun p=>φ (.pan p)):=by
 intros;first | (simp only [Sd,mm,ia,da,iB,bB,oL,oX,nB,Option.bind_some]) | rfl
def Ck:List Sl:=.dat .str::.dat .str::.top::.top::.top::.dat (.int .i64)::tp 28 []
def Bk:List RS:=[]
def mu:List Sl:=tp 4 (.dat (.int .i64)::tp 29 [])
def lu:List RS:=[]
def sd (K:XE→List AV→ea→Option Out):Lx Unit (Int)→Option Out:=fun x=>lM x (fun _=>none) (fun a=>Ky mu lu (a,()) () (K .ret)) (fun _=>none)
def qv (n:Nat) {R:Type} (s substr:BA) (k:Int→Option R):Option R:=
 if ((substr.size:Int)==(0:Int))=true then
 none
 else
 if ((substr.size:Int)==(1:Int))=true then
  if 0≤(0:Int)∧(0:Int)<(substr.size:Int) then
  k ((Lib.countByte s.data.toList (Nat.toUInt8 (Int.toNat (bt substr (0:Int)))):Nat):Int)
  else
  none
 else
  (Sd n n s substr (0:Int)).bind fun x_1=>lM x_1
  (fun _=>none)
  (fun a_2=>
   k a_2)
  (fun _=>none)
def Pw (n:Nat) (s substr:BA):Option Int:=qv n s substr some
theorem KF (n:Nat) {S:Type}:∀ s substr (φ:_→Option S),(Pw n s substr).bind φ=qv n s substr φ:=by
 intros;unfold Pw qv;first | (simp only [ia,da,iB,bB,oL,oX,nB,Option.bind_some]) | rfl
def xi (n:Nat):Hint Out:={ live:=fun c=>(cond (Nat.beq c 0) (lv [0,1,5]) []),run:=fun c=>(cond (Nat.beq c 0) (some (XA Ck Bk fun σ ρ K=>(Sd n n σ.1 σ.2.1 σ.2.2.1).bind (sd K))) none),xm:=fun c q=>(cond (Nat.beq c 1&&q.isNone) (some [(4,none)]) none) }
def wi (n:Nat) (K:XE→List AV→ea→Option Out) (m:Nat) (s1:BA) (substr1:BA) (n0:Int):Option Out:=lq tys (fa Out (nj n)) (xi n) n (La [1,1,1,1,0,0] (ba Tryz.f188)) 0 Ck Bk K m (s1,(substr1,(n0,()))) ()
theorem ku (n:Nat) (K:XE→List AV→ea→Option Out):∀ (m:Nat) s1 substr1 n0,wi n K m s1 substr1 n0=(Sd n m s1 substr1 n0).bind (sd K)
 | 0,_,_,_=>by kernel_rfl
 | m+1,s1,substr1,n0=>by
  have h1:wi n K (m+1) s1 substr1 n0=mm n s1 substr1 n0 (wi n K m) (fun a=>sd K (.out a)) (fun a=>sd K (.ret a)) (fun p=>sd K (.pan p)):=by kernel_rfl
  have h2:wi n K m=fun s1 substr1 n0=>(Sd n m s1 substr1 n0).bind (sd K):=by
   repeat (refine funext fun _=>?_)
   exact ku n K m _ _ _
  rw [h1,h2];exact (eB n m _ _ _ (sd K)).symm
theorem zz (n:Nat):Im tys (fa Out (nj n)) (xi n) n (La [1,1,1,1,0,0] (ba Tryz.f188)) 0:=Mc (sp:=Ck) (rp:=Bk) (by kernel_rfl) fun K σ ρ=>ku n K n σ.1 σ.2.1 σ.2.2.1
theorem fB (n:Nat):qa tys (fa Out (nj n)) (xi n) n (ba Tryz.f188) 0:=⟨trivial,⟨⟨trivial,⟨⟨trivial,trivial⟩,trivial⟩⟩,⟨⟨trivial,⟨⟨trivial,trivial⟩,trivial⟩⟩,⟨trivial,⟨zz n,⟨trivial,⟨⟨trivial,⟨⟨trivial,trivial⟩,trivial⟩⟩,⟨trivial,trivial⟩⟩⟩⟩⟩⟩⟩⟩
theorem JC (n:Nat):Enters Tryz.prog 188:=enters_of (c:=ba Tryz.f188) Tryz.func188 (by kernel_rfl) (by kernel_rfl)
def ry (n:Nat):Entry:=⟨188,qM (.pair .str (.pair .str .unit)) (.one (.int .i64)) (fun xs=>Pw n xs.1 xs.2.1),none,none⟩
theorem VD (n:Nat):EntryOk Tryz.prog gl (ry n):=
 Ma (JC n) fun xs y h=>ra tys_ok (xr n) mixed (hint:=xi n) (n:=n) Tryz.func188 (Ga (fB n)) (pa (φ:=(fun y=>some (Out.ret (ch (.one (.int .i64)) y)))) (by kernel_rfl) (KF n xs.1 xs.2.1 _) h)
def ij (n:Nat):List Entry:=ry n::nj n
theorem vr (n:Nat):AllOk Tryz.prog gl (ij n):=.cons (VD n) (xr n)
def Zg (n:Nat) {R:Type} (s1 sep1:BA) (sepSave1 n01 i:Int) (a:(Sq BA)) (kn:BA→BA→Int→Int→Int→(Sq BA)→Option R) (ko:(BA×Int×(Sq BA))→Option R) (kr:Unit→Option R) (kp:Int→Option R):Option R:=
 if (decide (i<n01))=true then
 (om n s1 sep1).bind fun v1=>
 if (decide (v1<(0:Int)))=true then
  ko (s1,i,a)
 else
  if 0≤(IntKind.wrap .i64 (v1+sepSave1))∧(IntKind.wrap .i64 (v1+sepSave1))≤(s1.size:Int) then
  if 0≤i∧i<(a.n:Int) then
   if 0≤(IntKind.wrap .i64 (v1+(sep1.size:Int)))∧(IntKind.wrap .i64 (v1+(sep1.size:Int)))≤(s1.size:Int) then
   kn (s1.extract (Int.toNat (IntKind.wrap .i64 (v1+(sep1.size:Int)))) (Int.toNat (s1.size:Int))) sep1 sepSave1 n01 (IntKind.wrap .i64 (i+(1:Int))) (⟨a.n,fun q=>if q=(Int.toNat i)∧q<a.n then (s1.extract (Int.toNat (0:Int)) (Int.toNat (IntKind.wrap .i64 (v1+sepSave1)))) else a.at' q⟩:Sq BA)
   else
   none
  else
   none
  else
  none
 else
 ko (s1,i,a)
def tb (n:Nat):Nat→BA→BA→Int→Int→Int→(Sq BA)→Option (Lx (BA×Int×(Sq BA)) Unit)
 | 0,_,_,_,_,_,_=>none
 | m+1,s1,sep1,sepSave1,n01,i,a=>Zg n s1 sep1 sepSave1 n01 i a (tb n m) (fun a=>some (.out a)) (fun a=>some (.ret a)) (fun p=>some (.pan p))
theorem Hw (n m:Nat) {S:Type}:∀ s1 sep1 sepSave1 n01 i a (φ:_→Option S),(tb n (m+1) s1 sep1 sepSave1 n01 i a).bind φ=Zg n s1 sep1 sepSave1 n01 i a (fun s1 sep1 sepSave1 n01 i a=>(tb n m s1 sep1 sepSave1 n01 i a).bind φ) (fun a=>φ (.out a)) (fun a=>φ (.ret a)) (fun p=>φ (.pan p)):=by
 intros;first | (simp only [tb,Zg,ia,da,iB,bB,oL,oX,nB,Option.bind_some]) | rfl
def Tg:List Sl:=.dat .str::.dat .str::.dat (.int .i64)::.dat (.int .i64)::tp 5 (.row 0::.dat (.int .i64)::tp 55 [])
def Sg:List RS:=[.row 9 1 .str false false]
def Qp:List Sl:=.dat .str::tp 8 (.row 0::.dat (.int .i64)::tp 55 [])
def Pp:List RS:=[.row 9 1 .str false false]
def Db (K:XE→List AV→ea→Option Out):Lx (BA×Int×(Sq BA)) Unit→Option Out:=fun x=>lM x (fun a=>Ky Qp Pp (a.1,(a.2.1,())) (a.2.2,()) (K (.exit 0))) (fun _=>none) (fun _=>none)
def rm (n:Nat) {R:Type} (s sep:BA) (sepSave n0:Int) (k:(Sq BA)→Option R):Option R:=
 if (n0==(0:Int))=true then
 k (⟨0,fun _=>Na .str⟩:Sq BA)
 else
 if (sep.toList==(⟨#[]⟩:BA).toList)=true then
  none
 else
  if (decide (n0<(0:Int)))=true then
  (Pw n s sep).bind fun v=>
  if 0≤(if (IntKind.wrap .i64 ((s.size:Int)+(1:Int)))<(IntKind.wrap .i64 (v+(1:Int))) then (IntKind.wrap .i64 ((s.size:Int)+(1:Int))) else (IntKind.wrap .i64 (v+(1:Int))))∧(if (IntKind.wrap .i64 ((s.size:Int)+(1:Int)))<(IntKind.wrap .i64 (v+(1:Int))) then (IntKind.wrap .i64 ((s.size:Int)+(1:Int))) else (IntKind.wrap .i64 (v+(1:Int))))≤(if (IntKind.wrap .i64 ((s.size:Int)+(1:Int)))<(IntKind.wrap .i64 (v+(1:Int))) then (IntKind.wrap .i64 ((s.size:Int)+(1:Int))) else (IntKind.wrap .i64 (v+(1:Int)))) then
   if Pd (Int.toNat (if (IntKind.wrap .i64 ((s.size:Int)+(1:Int)))<(IntKind.wrap .i64 (v+(1:Int))) then (IntKind.wrap .i64 ((s.size:Int)+(1:Int))) else (IntKind.wrap .i64 (v+(1:Int))))) 16=true then
   (tb n n s sep sepSave (IntKind.wrap .i64 ((if (IntKind.wrap .i64 ((s.size:Int)+(1:Int)))<(IntKind.wrap .i64 (v+(1:Int))) then (IntKind.wrap .i64 ((s.size:Int)+(1:Int))) else (IntKind.wrap .i64 (v+(1:Int)))) - (1:Int))) (0:Int) (⟨(Int.toNat (if (IntKind.wrap .i64 ((s.size:Int)+(1:Int)))<(IntKind.wrap .i64 (v+(1:Int))) then (IntKind.wrap .i64 ((s.size:Int)+(1:Int))) else (IntKind.wrap .i64 (v+(1:Int))))),fun _=>(⟨#[]⟩:BA)⟩:Sq BA)).bind fun x_1=>lM x_1
    (fun a_2=>
    if 0≤a_2.2.1∧a_2.2.1<(a_2.2.2.n:Int) then
     if 0≤(IntKind.wrap .i64 (a_2.2.1+(1:Int)))∧(IntKind.wrap .i64 (a_2.2.1+(1:Int)))≤(a_2.2.2.n:Int) then
     k (⟨((Int.toNat (IntKind.wrap .i64 (a_2.2.1+(1:Int)))) - (Int.toNat (0:Int))),fun i=>(fun q=>if q=(Int.toNat a_2.2.1)∧q<a_2.2.2.n then a_2.1 else a_2.2.2.at' q) ((Int.toNat (0:Int))+i)⟩:Sq BA)
     else
     none
    else
     none)
    (fun _=>none)
    (fun _=>none)
   else
   none
  else
   none
  else
  if 0≤(if (IntKind.wrap .i64 ((s.size:Int)+(1:Int)))<n0 then (IntKind.wrap .i64 ((s.size:Int)+(1:Int))) else n0)∧(if (IntKind.wrap .i64 ((s.size:Int)+(1:Int)))<n0 then (IntKind.wrap .i64 ((s.size:Int)+(1:Int))) else n0)≤(if (IntKind.wrap .i64 ((s.size:Int)+(1:Int)))<n0 then (IntKind.wrap .i64 ((s.size:Int)+(1:Int))) else n0) then
   if Pd (Int.toNat (if (IntKind.wrap .i64 ((s.size:Int)+(1:Int)))<n0 then (IntKind.wrap .i64 ((s.size:Int)+(1:Int))) else n0)) 16=true then
   (tb n n s sep sepSave (IntKind.wrap .i64 ((if (IntKind.wrap .i64 ((s.size:Int)+(1:Int)))<n0 then (IntKind.wrap .i64 ((s.size:Int)+(1:Int))) else n0) - (1:Int))) (0:Int) (⟨(Int.toNat (if (IntKind.wrap .i64 ((s.size:Int)+(1:Int)))<n0 then (IntKind.wrap .i64 ((s.size:Int)+(1:Int))) else n0)),fun _=>(⟨#[]⟩:BA)⟩:Sq BA)).bind fun x_3=>lM x_3
    (fun a_4=>
    if 0≤a_4.2.1∧a_4.2.1<(a_4.2.2.n:Int) then
     if 0≤(IntKind.wrap .i64 (a_4.2.1+(1:Int)))∧(IntKind.wrap .i64 (a_4.2.1+(1:Int)))≤(a_4.2.2.n:Int) then
     k (⟨((Int.toNat (IntKind.wrap .i64 (a_4.2.1+(1:Int)))) - (Int.toNat (0:Int))),fun i=>(fun q=>if q=(Int.toNat a_4.2.1)∧q<a_4.2.2.n then a_4.1 else a_4.2.2.at' q) ((Int.toNat (0:Int))+i)⟩:Sq BA)
     else
     none
    else
     none)
    (fun _=>none)
    (fun _=>none)
   else
   none
  else
   none
def qm (n:Nat) (s sep:BA) (sepSave n0:Int):Option (Sq BA):=rm n s sep sepSave n0 some
theorem lB (n:Nat) {S:Type}:∀ s sep sepSave n0 (φ:_→Option S),(qm n s sep sepSave n0).bind φ=rm n s sep sepSave n0 φ:=by
 intros;unfold qm rm;first | (simp only [ia,da,iB,bB,oL,oX,nB,Option.bind_some]) | rfl
def Ke (n:Nat):Hint Out:={ live:=fun c=>(cond (Nat.beq c 0) [(0,none),(1,none),(2,none),(3,none),(9,some (.sl .str)),(10,none)] []),run:=fun c=>(cond (Nat.beq c 0) (some (XA Tg Sg fun σ ρ K=>(tb n n σ.1 σ.2.1 σ.2.2.1 σ.2.2.2.1 σ.2.2.2.2.1 ρ.1).bind (Db K))) none),xm:=fun c q=>(cond (Nat.beq c 0&&Nat.beq (q.getD 1000000) 0&&q.isSome) (some [(0,none),(9,some (.sl .str)),(10,none)]) (cond (Nat.beq c 1&&Nat.beq (q.getD 1000000) 0&&q.isSome) (some [(0,none),(9,some (.sl .str)),(10,none)]) none)) }
def Je (n:Nat) (K:XE→List AV→ea→Option Out) (m:Nat) (s1:BA) (sep1:BA) (sepSave1:Int) (n01:Int) (i:Int) (a:(Sq BA)):Option Out:=lq tys (fa Out (ij n)) (Ke n) n (La [1,1,1,1,1,1,1,1,0,0,0] (ba Tryz.f168)) 0 Tg Sg K m (s1,(sep1,(sepSave1,(n01,(i,()))))) (a,())
theorem Hm (n:Nat) (K:XE→List AV→ea→Option Out):∀ (m:Nat) s1 sep1 sepSave1 n01 i a,Je n K m s1 sep1 sepSave1 n01 i a=(tb n m s1 sep1 sepSave1 n01 i a).bind (Db K)
 | 0,_,_,_,_,_,_=>by kernel_rfl
 | m+1,s1,sep1,sepSave1,n01,i,a=>by
  have h1:Je n K (m+1) s1 sep1 sepSave1 n01 i a=Zg n s1 sep1 sepSave1 n01 i a (Je n K m) (fun a=>Db K (.out a)) (fun a=>Db K (.ret a)) (fun p=>Db K (.pan p)):=by kernel_rfl
  have h2:Je n K m=fun s1 sep1 sepSave1 n01 i a=>(tb n m s1 sep1 sepSave1 n01 i a).bind (Db K):=by
   repeat (refine funext fun _=>?_)
   exact Hm n K m _ _ _ _ _ _
  rw [h1,h2];exact (Hw n m _ _ _ _ _ _ (Db K)).symm
theorem yv (n:Nat):Im tys (fa Out (ij n)) (Ke n) n (La [1,1,1,1,1,1,1,1,0,0,0] (ba Tryz.f168)) 0:=Mc (sp:=Tg) (rp:=Sg) (by kernel_rfl) fun K σ ρ=>Hm n K n σ.1 σ.2.1 σ.2.2.1 σ.2.2.2.1 σ.2.2.2.2.1 ρ.1
theorem Iw (n:Nat):qa tys (fa Out (ij n)) (Ke n) n (ba Tryz.f168) 0:=⟨trivial,⟨⟨trivial,⟨⟨trivial,trivial⟩,trivial⟩⟩,⟨⟨trivial,⟨⟨trivial,trivial⟩,trivial⟩⟩,⟨⟨trivial,⟨trivial,trivial⟩⟩,⟨trivial,⟨trivial,⟨trivial,⟨trivial,⟨⟨yv n,⟨⟨trivial,⟨trivial,trivial⟩⟩,⟨trivial,⟨⟨trivial,⟨trivial,trivial⟩⟩,⟨trivial,⟨trivial,trivial⟩⟩⟩⟩⟩⟩,⟨trivial,⟨trivial,trivial⟩⟩⟩⟩⟩⟩⟩⟩⟩⟩⟩
theorem Dy (n:Nat):Enters Tryz.prog 168:=enters_of (c:=ba Tryz.f168) Tryz.func168 (by kernel_rfl) (by kernel_rfl)
def yr (n:Nat):Entry:=⟨168,qM K2 (.one (.sl .str)) (fun xs=>qm n xs.1 xs.2.1 xs.2.2.1 xs.2.2.2.1),none,none⟩
theorem Ez (n:Nat):EntryOk Tryz.prog gl (yr n):=
 Ma (Dy n) fun xs y h=>ra tys_ok (vr n) mixed (hint:=Ke n) (n:=n) Tryz.func168 (Ga (Iw n)) (pa (φ:=(fun y=>some (Out.ret (ch (.one (.sl .str)) y)))) (by kernel_rfl) (lB n xs.1 xs.2.1 xs.2.2.1 xs.2.2.2.1 _) h)
def Gk (n:Nat):List Entry:=yr n::ij n
theorem ul (n:Nat):AllOk Tryz.prog gl (Gk n):=.cons (Ez n) (vr n)
def wv (n:Nat) {R:Type} (s sep:BA) (k:(Sq BA)→Option R):Option R:=
 (qm n s sep (0:Int) (-1:Int)).bind fun v=>
 k v
def Qw (n:Nat) (s sep:BA):Option (Sq BA):=wv n s sep some
theorem NF (n:Nat) {S:Type}:∀ s sep (φ:_→Option S),(Qw n s sep).bind φ=wv n s sep φ:=by
 intros;unfold Qw wv;first | (simp only [ia,da,iB,bB,oL,oX,nB,Option.bind_some]) | rfl
def ou (n:Nat):Hint Out:={ live:=fun c=>[],run:=fun c=>none,xm:=fun c q=>none }
theorem kB (n:Nat):qa tys (fa Out (Gk n)) (ou n) n (ba Tryz.f151) 0:=ma (fun _=>rfl) _ _ (by kernel_rfl)
theorem MC (n:Nat):Enters Tryz.prog 151:=enters_of (c:=ba Tryz.f151) Tryz.func151 (by kernel_rfl) (by kernel_rfl)
def Ay (n:Nat):Entry:=⟨151,qM (.pair .str (.pair .str .unit)) (.one (.sl .str)) (fun xs=>Qw n xs.1 xs.2.1),none,none⟩
theorem XD (n:Nat):EntryOk Tryz.prog gl (Ay n):=
 Ma (MC n) fun xs y h=>ra tys_ok (ul n) mixed (hint:=ou n) (n:=n) Tryz.func151 (Ga (kB n)) (pa (φ:=(fun y=>some (Out.ret (ch (.one (.sl .str)) y)))) (by kernel_rfl) (NF n xs.1 xs.2.1 _) h)
def By (n:Nat):List Entry:=Ay n::Gk n
theorem Dz (n:Nat):AllOk Tryz.prog gl (By n):=.cons (XD n) (ul n)
def Td (n:Nat):List Entry:=⟨152,fun {R}=>SG (R:=R) 208,none,none⟩::By n
theorem Vj (n:Nat):AllOk Tryz.prog gl (Td n):=.cons vI (Dz n)
end
end Go.Proofs.YtddefjokgaajfaaGreatDoor.AM
