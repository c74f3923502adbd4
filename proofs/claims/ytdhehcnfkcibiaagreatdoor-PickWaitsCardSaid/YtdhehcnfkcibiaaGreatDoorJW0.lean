/- Typed functions that tell what the Go functions of this seat answer, and proofs of it, by program (gen.py). -/
import Derived.Test.YtdhehcnfkcibiaaGreatDoorJT
import Derived.Test.YtdhehcnfkcibiaaGreatDoorJB
import Derived.Test.YtdhehcnfkcibiaaGreatDoorJL
import Derived.Test.YtdhehcnfkcibiaaGreatDoorJM
import Derived.Test.YtdhehcnfkcibiaaGreatDoorJN
set_option linter.all false
set_option linter.unusedVariables false
set_option linter.unusedSimpArgs false
set_option maxRecDepth 1000000
set_option maxHeartbeats 0
namespace Go.Proofs.YtdhehcnfkcibiaaGreatDoor.AM
open Go Go.RowKit
noncomputable section
abbrev K0:CTy:=(.pair (.pair .str (.pair .str .unit)) (.pair (.int .i64) (.pair (.int .i64) (.pair (.int .i64) (.pair (.int .i64) .unit)))))
abbrev K1:CTy:=(.pair (.int .i64) (.pair (.int .i64) (.pair (.int .i64) (.pair (.pair (.flt .f64) (.pair (.int .i64) .unit)) .unit))))
abbrev K2:CTy:=(.pair .str (.pair K1 .unit))
abbrev K3:CTy:=(.pair (.int .i64) (.pair (.int .i64) (.pair .bool (.pair (.pair .str (.pair .str .unit)) (.pair (.sl K0) (.pair .str (.pair (.int .i64) (.pair .bool (.pair .bool .unit)))))))))
abbrev K4:CTy:=(.pair (.int .i64) (.pair (.int .i64) (.pair .str (.pair (.sl (.int .i64)) .unit))))
abbrev K5:CTy:=(.pair .str (.pair .str (.pair (.int .i64) (.pair (.int .i64) .unit))))
abbrev K6:CTy:=(.pair K0 .unit)
abbrev K7:CTy:=(.pair (.sl K0) .unit)
abbrev K8:CTy:=(.pair K3 .unit)
abbrev K9:CTy:=(.pair (.int .i64) (.pair (.sl K3) .unit))
abbrev GU:CTy:=(.pair K9 .unit)
abbrev HU:CTy:=(.pair K1 .unit)
abbrev IU:CTy:=(.pair (.sl K2) .unit)
abbrev JU:CTy:=(.pair K3 (.pair K0 (.pair (.int .i64) .unit)))
abbrev KU:CTy:=(.pair K2 (.pair .str .unit))
abbrev LU:CTy:=(.pair (.sl K2) (.pair .str .unit))
abbrev MU:CTy:=(.pair K1 (.pair (.int .i64) .unit))
abbrev NU:CTy:=(.pair (.sl K2) (.pair .str (.pair (.int .i64) .unit)))
abbrev OU:CTy:=(.pair K3 (.pair .str (.pair (.int .i64) .unit)))
abbrev PU:CTy:=(.pair (.sl K4) (.pair (.sl (.int .i64)) .unit))
abbrev QU:CTy:=(.pair K9 (.pair (.sl K2) (.pair (.sl .str) (.pair (.int .i64) .unit))))
abbrev RU:CTy:=(.pair (.sl K4) (.pair (.sl (.int .i64)) (.pair (.int .i64) .unit)))
abbrev SU:CTy:=(.pair (.int .i64) (.pair (.int .i64) (.pair (.int .i64) (.pair (.int .i64) (.pair (.int .i64) .unit)))))
abbrev TU:CTy:=(.pair .str (.pair (.int .i64) (.pair (.int .i64) (.pair (.int .i64) (.pair SU (.pair .bool .unit))))))
abbrev UU:CTy:=(.pair (.sl TU) (.pair .str (.pair (.int .i64) (.pair (.int .i64) (.pair (.sl (.int .i64)) (.pair (.int .i64) (.pair (.int .i64) (.pair (.flt .f64) .unit))))))))
abbrev VU:CTy:=(.pair K9 (.pair UU (.pair (.sl K2) (.pair (.sl .str) (.pair (.int .i64) (.pair K4 (.pair (.sl (.int .i64)) (.pair (.int .i64) .unit))))))))
abbrev WU:CTy:=(.pair VU .unit)
abbrev U0:Type:=(Int×(Int×(BA×((Sq Int)×Unit))))
abbrev U3:Type:=(Int×(Sq U0)×(Sq Int)×Unit)
abbrev U4:Type:=((Sq U0)×(Sq Int)×Unit)
abbrev U5:Type:=((Sq U0)×(Sq Int))
abbrev U6:Type:=(BA×(BA×Unit))
abbrev dV:Type:=((Sq Int)×Unit)
abbrev eV:Type:=(Int×Unit)
abbrev T0:Type:=(U6×(Int×(Int×(Int×eV))))
abbrev T1:Type:=(Int×(Int×(Bool×(U6×((Sq T0)×(BA×(Int×(Bool×(Bool×Unit)))))))))
abbrev T2:Type:=(BA×((Int×(Int×(Int×((Nat×eV)×Unit))))×Unit))
abbrev T3:Type:=(BA×(Int×(Int×(Int×((Int×(Int×(Int×(Int×eV))))×(Bool×Unit))))))
abbrev T4:Type:=((Sq T3)×(BA×(Int×(Int×((Sq Int)×(Int×(Int×(Nat×Unit))))))))
abbrev U1:Type:=(Int×Int×Int×(Sq T2)×(Sq U0)×(Sq Int)×(Sq BA)×(Sq Int)×(Sq T1))
abbrev U2:Type:=(Int×(Sq T2)×Int×(Sq U0)×(Sq Int)×(Sq BA)×(Sq T1))
abbrev U7:Type:=(Int×((Sq T1)×Unit))
abbrev T5:Type:=(U7×(T4×((Sq T2)×((Sq BA)×(Int×(U0×((Sq Int)×eV)))))))
abbrev U8:Type:=((Sq T2)×Int×(Sq T1)×Int×Int×(Sq U0)×(Sq Int)×(Sq BA)×(Sq Int))
abbrev U9:Type:=((Sq T2)×Int×Int×Int×(Sq U0)×(Sq Int)×(Sq BA)×(Sq Int)×(Sq T1))
abbrev ZU:Type:=(Int×Int×Bool×BA×BA×BA×Int×Bool×Bool×(Sq T0)×Unit)
abbrev aV:Type:=((Sq T2)×Int×Int×(Sq T1)×(Sq U0)×(Sq Int)×(Sq BA))
abbrev cV:Type:=((Sq T2)×Int×Int×(Sq U0)×(Sq Int)×(Sq BA)×(Sq T1))
def HS (n:Nat):List Entry:=[]
theorem cJ (n:Nat):AllOk Tryz.prog gl (HS n):=.nil
def lh (n:Nat) {R:Type} (k:ZU→Option R):Option R:=
 k ((1:Int),((0:Int),(false,((⟨#[97]⟩:BA),((⟨#[120]⟩:BA),((⟨#[]⟩:BA),((0:Int),(false,(false,((⟨1,fun q=>List.getD (α:=T0) [(((⟨#[97]⟩:BA),((⟨#[120]⟩:BA),())),((0:Int),((0:Int),((0:Int),((0:Int),())))))] q (ra K0)⟩:Sq T0),()))))))))))
def ed (n:Nat):Option ZU:=lh n some
theorem wz (n:Nat) {S:Type}:∀ (φ:_→Option S),(ed n).bind φ=lh n φ:=by
 intros;unfold ed lh;first | (simp only [ia,ba,iB,bB,oL,oX,nB,Option.bind_some]) | rfl
def Mi (n:Nat):Hint OutS:={ live:=fun c=>[],run:=fun c=>none,xm:=fun c q=>none,pr:=[(0,5,62)] }
theorem Kt (n:Nat):sa tys (ea OutS (HS n)).keep (Mi n) n (aa Tryz.f30) 0:=la (fun _=>rfl) _ _ (by kernel_rfl)
theorem Fv (n:Nat):Enters Tryz.prog 30:=enters_of (c:=aa Tryz.f30) Tryz.func30 (by kernel_rfl) (by kernel_rfl)
def Al:List RSp:=[]
def zl:List RS:=[]
def Gv:List Sl:=[]
def Hv:List RSp:=[.agg [.dat (.int .i64),.dat (.int .i64),.dat .bool,.dat .str,.dat .str,.row 0,.dat .str,.dat (.int .i64),.dat .bool,.dat .bool]]
def Ed:List RS:=[.row 62 6 K0 false false]
def mh (y:ZU):OutS:=⟨false,An (Ie Ed (y.2.2.2.2.2.2.2.2.2.1,())) Gv (),SD (FC (Ie Ed (y.2.2.2.2.2.2.2.2.2.1,())) Hv ((y.1,(y.2.1,(y.2.2.1,(y.2.2.2.1,(y.2.2.2.2.1,(y.2.2.2.2.2.1,(y.2.2.2.2.2.2.1,(y.2.2.2.2.2.2.2.1,(y.2.2.2.2.2.2.2.2.1,()))))))))),())),fu (Ie Ed (y.2.2.2.2.2.2.2.2.2.1,())) Ed (y.2.2.2.2.2.2.2.2.2.1,())⟩
theorem Px (n:Nat):EntryOk Tryz.prog gl ⟨30,Ae,none,some (lV Al zl (fun σ ρ=>ed n) mh)⟩:=
 Ki (Fv n) fun σ ρ y h=>SI tys_ok (cJ n) mixed (hint:=Mi n) (n:=n) Tryz.func30 (Ra (Kt n)) (oa (φ:=fun y=>some (mh y)) (by kernel_rfl) (wz n _) h)
def Zf (n:Nat):List Entry:=⟨30,Ae,none,some (lV Al zl (fun σ ρ=>ed n) mh)⟩::HS n
theorem di (n:Nat):AllOk Tryz.prog gl (Zf n):=.cons (Px n) (cJ n)
def Qo (n:Nat) {R:Type} (n0 least most:Int) (k:Bool→Option R):Option R:=
 if (decide (n0≥least))=true then
 k (decide (n0≤most))
 else
 k false
def Hc (n:Nat) (n0 least most:Int):Option Bool:=Qo n n0 least most some
theorem nG (n:Nat) {S:Type}:∀ n0 least most (φ:_→Option S),(Hc n n0 least most).bind φ=Qo n n0 least most φ:=by
 intros;unfold Hc Qo;first | (simp only [ia,ba,iB,bB,oL,oX,nB,Option.bind_some]) | rfl
def Lp (n:Nat):Hint Out:={ live:=fun c=>[],run:=fun c=>none,xm:=fun c q=>none }
theorem EA (n:Nat):sa tys (ea Out (Zf n)) (Lp n) n (aa Tryz.f127) 0:=la (fun _=>rfl) _ _ (by kernel_rfl)
theorem TC (n:Nat):Enters Tryz.prog 127:=enters_of (c:=aa Tryz.f127) Tryz.func127 (by kernel_rfl) (by kernel_rfl)
def lm (n:Nat):Entry:=⟨127,RV (.pair (.int .i64) (.pair (.int .i64) (.pair (.int .i64) .unit))) (.one .bool) (fun xs=>Hc n xs.1 xs.2.1 xs.2.2.1),none,none⟩
theorem mu (n:Nat):EntryOk Tryz.prog gl (lm n):=
 Ha (TC n) fun xs y h=>qa tys_ok (di n) mixed (hint:=Lp n) (n:=n) Tryz.func127 (Ra (EA n)) (oa (φ:=(fun y=>some (Out.ret (Od (.one .bool) y)))) (by kernel_rfl) (nG n xs.1 xs.2.1 xs.2.2.1 _) h)
def mm (n:Nat):List Entry:=lm n::Zf n
theorem Jn (n:Nat):AllOk Tryz.prog gl (mm n):=.cons (mu n) (di n)
def JF (n:Nat) {R:Type} (m0:U6) (k:BA→Option R):Option R:=
 if qn m0.1 (⟨#[64]⟩:BA)=true then
 if qn (m0.1++(⟨#[64]⟩:BA)) m0.2.1=true then
  k ((m0.1++(⟨#[64]⟩:BA))++m0.2.1)
 else
  none
 else
 none
def RJ (n:Nat) (m0:U6):Option BA:=JF n m0 some
theorem OM (n:Nat) {S:Type}:∀ m0 (φ:_→Option S),(RJ n m0).bind φ=JF n m0 φ:=by
 intros;unfold RJ JF;first | (simp only [ia,ba,iB,bB,oL,oX,nB,Option.bind_some]) | rfl
def dC (n:Nat):Hint Out:={ live:=fun c=>[],run:=fun c=>none,xm:=fun c q=>none }
theorem MI (n:Nat):sa tys (ea Out (mm n)) (dC n) n (aa Tryz.f175) 0:=la (fun _=>rfl) _ _ (by kernel_rfl)
theorem OK (n:Nat):Enters Tryz.prog 175:=enters_of (c:=aa Tryz.f175) Tryz.func175 (by kernel_rfl) (by kernel_rfl)
def bC (n:Nat):Entry:=⟨175,RV (.pair (.pair .str (.pair .str .unit)) .unit) (.one .str) (fun xs=>RJ n xs.1),none,none⟩
theorem jH (n:Nat):EntryOk Tryz.prog gl (bC n):=
 Ha (OK n) fun xs y h=>qa tys_ok (Jn n) mixed (hint:=dC n) (n:=n) Tryz.func175 (Ra (MI n)) (oa (φ:=(fun y=>some (Out.ret (Od (.one .str) y)))) (by kernel_rfl) (OM n xs.1 _) h)
def cC (n:Nat):List Entry:=bC n::mm n
theorem Tz (n:Nat):AllOk Tryz.prog gl (cC n):=.cons (jH n) (Jn n)
def fm (n:Nat) {R:Type} (s prefix0:BA) (k:Bool→Option R):Option R:=
 if (decide ((s.size:Int)≥(prefix0.size:Int)))=true then
 if 0≤(prefix0.size:Int)∧(prefix0.size:Int)≤(s.size:Int) then
  k ((s.extract (Int.toNat (0:Int)) (Int.toNat (prefix0.size:Int))).toList==prefix0.toList)
 else
  none
 else
 k false
def el (n:Nat) (s prefix0:BA):Option Bool:=fm n s prefix0 some
theorem nE (n:Nat) {S:Type}:∀ s prefix0 (φ:_→Option S),(el n s prefix0).bind φ=fm n s prefix0 φ:=by
 intros;unfold el fm;first | (simp only [ia,ba,iB,bB,oL,oX,nB,Option.bind_some]) | rfl
def En (n:Nat):Hint Out:={ live:=fun c=>[],run:=fun c=>none,xm:=fun c q=>none }
theorem Py (n:Nat):sa tys (ea Out (cC n)) (En n) n (aa Tryz.f226) 0:=la (fun _=>rfl) _ _ (by kernel_rfl)
theorem yA (n:Nat):Enters Tryz.prog 226:=enters_of (c:=aa Tryz.f226) Tryz.func226 (by kernel_rfl) (by kernel_rfl)
def Pj (n:Nat):Entry:=⟨226,RV (.pair .str (.pair .str .unit)) (.one .bool) (fun xs=>el n xs.1 xs.2.1),none,none⟩
theorem Lq (n:Nat):EntryOk Tryz.prog gl (Pj n):=
 Ha (yA n) fun xs y h=>qa tys_ok (Tz n) mixed (hint:=En n) (n:=n) Tryz.func226 (Ra (Py n)) (oa (φ:=(fun y=>some (Out.ret (Od (.one .bool) y)))) (by kernel_rfl) (nE n xs.1 xs.2.1 _) h)
def Qj (n:Nat):List Entry:=Pj n::cC n
theorem fl (n:Nat):AllOk Tryz.prog gl (Qj n):=.cons (Lq n) (Tz n)
def an (n:Nat) {R:Type} (s prefix0:BA) (k:Bool→Option R):Option R:=
 (el n s prefix0).bind fun v=>
 k v
def Lf (n:Nat) (s prefix0:BA):Option Bool:=an n s prefix0 some
theorem YE (n:Nat) {S:Type}:∀ s prefix0 (φ:_→Option S),(Lf n s prefix0).bind φ=an n s prefix0 φ:=by
 intros;unfold Lf an;first | (simp only [ia,ba,iB,bB,oL,oX,nB,Option.bind_some]) | rfl
def oo (n:Nat):Hint Out:={ live:=fun c=>[],run:=fun c=>none,xm:=fun c q=>none }
theorem Lz (n:Nat):sa tys (ea Out (Qj n)) (oo n) n (aa Tryz.f194) 0:=la (fun _=>rfl) _ _ (by kernel_rfl)
theorem CB (n:Nat):Enters Tryz.prog 194:=enters_of (c:=aa Tryz.f194) Tryz.func194 (by kernel_rfl) (by kernel_rfl)
def Mk (n:Nat):Entry:=⟨194,RV (.pair .str (.pair .str .unit)) (.one .bool) (fun xs=>Lf n xs.1 xs.2.1),none,none⟩
theorem Us (n:Nat):EntryOk Tryz.prog gl (Mk n):=
 Ha (CB n) fun xs y h=>qa tys_ok (fl n) mixed (hint:=oo n) (n:=n) Tryz.func194 (Ra (Lz n)) (oa (φ:=(fun y=>some (Out.ret (Od (.one .bool) y)))) (by kernel_rfl) (YE n xs.1 xs.2.1 _) h)
def Nk (n:Nat):List Entry:=Mk n::Qj n
theorem vg (n:Nat):AllOk Tryz.prog gl (Nk n):=.cons (Us n) (fl n)
def pC (n:Nat) {R:Type} (ok:Bool) (k:(Unit)→Option R) (kp:Int→Option R):Option R:=
 if (!ok)=true then
 kp (8:Int)
 else
 k ()
def Xc (n:Nat) (ok:Bool):Option (Except Int (Unit)):=pC n ok (fun y=>some (.ok y)) (fun p=>some (.error p))
theorem rH (n:Nat) {S:Type}:∀ ok (φ:_→Option S),(Xc n ok).bind φ=pC n ok (fun y=>φ (.ok y)) (fun p=>φ (.error p)):=by
 intros;unfold Xc pC;first | (simp only [ia,ba,iB,bB,oL,oX,nB,Option.bind_some]) | rfl
def vq (n:Nat):Hint Out:={ live:=fun c=>[],run:=fun c=>none,xm:=fun c q=>none }
theorem Xz (n:Nat):sa tys (ea Out (Nk n)) (vq n) n (aa Tryz.f241) 0:=la (fun _=>rfl) _ _ (by kernel_rfl)
theorem PI (n:Nat):Enters Tryz.prog 241:=enters_of (c:=aa Tryz.f241) Tryz.func241 (by kernel_rfl) (by kernel_rfl)
def By (n:Nat):Entry:=⟨241,SV 244 (.pair .bool .unit) (.many .unit) (fun xs=>Xc n xs.1),none,none⟩
theorem iF (n:Nat):EntryOk Tryz.prog gl (By n):=
 uK (PI n) (fun xs y h=>qa tys_ok (vg n) mixed (hint:=vq n) (n:=n) Tryz.func241 (Ra (Xz n)) (oa (φ:=(fun r=>MV r (fun p=>some (Out.pan (ct 244 p))) fun y=>some (Out.ret (Od (.many .unit) y)))) (by kernel_rfl) (rH n xs.1 _) h))
  (fun xs p h=>qa tys_ok (vg n) mixed (hint:=vq n) (n:=n) Tryz.func241 (Ra (Xz n)) (oa (φ:=(fun r=>MV r (fun p=>some (Out.pan (ct 244 p))) fun y=>some (Out.ret (Od (.many .unit) y)))) (by kernel_rfl) (rH n xs.1 _) h))
def Cy (n:Nat):List Entry:=By n::Nk n
theorem zw (n:Nat):AllOk Tryz.prog gl (Cy n):=.cons (iF n) (vg n)
def Wm (n:Nat) {R:Type} (k:(BA×Unit)→Option R):Option R:=
 if ((0:Nat):Int)=0 then
 k ((⟨#[]⟩:BA),())
 else
 none
def Kf (n:Nat):Option (BA×Unit):=Wm n some
theorem RE (n:Nat) {S:Type}:∀ (φ:_→Option S),(Kf n).bind φ=Wm n φ:=by
 intros;unfold Kf Wm;first | (simp only [ia,ba,iB,bB,oL,oX,nB,Option.bind_some]) | rfl
def go (n:Nat):Hint OutS:={ live:=fun c=>[],run:=fun c=>none,xm:=fun c q=>none,sch:=fun c=>(cond (Nat.beq c 1) (some [(0,0),(1,0),(2,0),(5,0),(6,0),(7,0),(3,1),(8,1),(9,0),(4,3),(10,2),(11,0)]) none) }
theorem Dz (n:Nat):sa tys (ea OutS (Cy n)) (go n) n (aa Tryz.f246) 0:=la (fun _=>rfl) _ _ (by kernel_rfl)
theorem wB (n:Nat):Enters Tryz.prog 246:=enters_of (c:=aa Tryz.f246) Tryz.func246 (by kernel_rfl) (by kernel_rfl)
def Dk:List RSp:=[.one (.ptr 0 0 0)]
def Ck:List RS:=[.box 252 2 true [.cn .nilp,.cn .nils]]
def xB:List Sl:=[.ptr 0 0 0]
def yB:List RSp:=[.one (.dat .str)]
def mf:List RS:=[.box 252 2 true [.cn .nilp,.cn .nils]]
def Qh (y:(BA×Unit)):OutS:=⟨false,An (Ie mf ((),())) xB (),SD (FC (Ie mf ((),())) yB ((y.1,()),())),fu (Ie mf ((),())) mf ((),())⟩
theorem Ls (n:Nat):EntryOk Tryz.prog gl ⟨246,Ae,none,some (lV Dk Ck (fun σ ρ=>Kf n) Qh)⟩:=
 Ki (wB n) fun σ ρ y h=>Ab tys_ok (zw n) mixed (hint:=go n) (n:=n) Tryz.func246 (Ra (Dz n)) (oa (φ:=fun y=>some (Qh y)) (by kernel_rfl) (RE n _) h)
def Ks (n:Nat):List Entry:=⟨246,Ae,none,some (lV Dk Ck (fun σ ρ=>Kf n) Qh)⟩::Cy n
theorem cy (n:Nat):AllOk Tryz.prog gl (Ks n):=.cons (Ls n) (zw n)
theorem Hn:Tryz.prog.funcs[290]?=some Tryz.f290:=by kernel_rfl
theorem If:EntryOk Tryz.prog gl ⟨290,Ae,some .ident,none⟩:=uE Hn (by kernel_rfl) (by kernel_rfl) (by kernel_rfl) (by kernel_rfl)
def bd (n:Nat):List Entry:=⟨290,Ae,some .ident,none⟩::Ks n
theorem ge (n:Nat):AllOk Tryz.prog gl (bd n):=.cons If (cy n)
def sh (n:Nat) {R:Type} (k:Unit→Option R):Option R:=
 k ()
def od (n:Nat):Option Unit:=sh n some
theorem Hz (n:Nat) {S:Type}:∀ (φ:_→Option S),(od n).bind φ=sh n φ:=by
 intros;unfold od sh;first | (simp only [ia,ba,iB,bB,oL,oX,nB,Option.bind_some]) | rfl
def Si (n:Nat):Hint OutS:={ live:=fun c=>[],run:=fun c=>none,xm:=fun c q=>none }
theorem Rt (n:Nat):sa tys (ea OutS (bd n)) (Si n) n (aa Tryz.f275) 0:=la (fun _=>rfl) _ _ (by kernel_rfl)
theorem Xv (n:Nat):Enters Tryz.prog 275:=enters_of (c:=aa Tryz.f275) Tryz.func275 (by kernel_rfl) (by kernel_rfl)
def rg:List RSp:=[.one (.ptr 0 0 0)]
def qg:List RS:=[.box 252 2 true [.cn .nilp,.cn .nils]]
def Yv:List Sl:=[.ptr 0 0 0]
def Zv:List RSp:=[]
def Hd:List RS:=[.box 252 2 false [.ptr 0 0 0,.cn .nils]]
def Fe (y:Unit):OutS:=⟨false,An (Ie Hd ((),())) Yv (),SD (FC (Ie Hd ((),())) Zv ()),fu (Ie Hd ((),())) Hd ((),())⟩
theorem Jl (n:Nat):EntryOk Tryz.prog gl ⟨275,Ae,none,some (lV rg qg (fun σ ρ=>od n) Fe)⟩:=
 Ki (Xv n) fun σ ρ y h=>Ab tys_ok (ge n) mixed (hint:=Si n) (n:=n) Tryz.func275 (Ra (Rt n)) (oa (φ:=fun y=>some (Fe y)) (by kernel_rfl) (Hz n _) h)
def pg (n:Nat):List Entry:=⟨275,Ae,none,some (lV rg qg (fun σ ρ=>od n) Fe)⟩::bd n
theorem ui (n:Nat):AllOk Tryz.prog gl (pg n):=.cons (Jl n) (ge n)
def qh (n:Nat) {R:Type} (c:Int) (k:dV→Option R):Option R:=
 (od n).bind fun v=>
 if ld (0+1) 1=true then
 k ((⟨(0+1),fun q=>if q<0 then (fun _=>ra (.int .u8)) q else (fun q=>List.getD (α:=Int) [c] q (ra (.int .u8))) (q - 0)⟩:Sq Int),())
 else
 none
def fb (n:Nat) (c:Int):Option dV:=qh n c some
theorem Fz (n:Nat) {S:Type}:∀ c (φ:_→Option S),(fb n c).bind φ=qh n c φ:=by
 intros;unfold fb qh;first | (simp only [ia,ba,iB,bB,oL,oX,nB,Option.bind_some]) | rfl
def Qi (n:Nat):Hint OutS:={ live:=fun c=>[],run:=fun c=>none,xm:=fun c q=>none }
theorem Pt (n:Nat):sa tys (ea OutS (pg n)) (Qi n) n (aa Tryz.f288) 0:=la (fun _=>rfl) _ _ (by kernel_rfl)
theorem Rv (n:Nat):Enters Tryz.prog 288:=enters_of (c:=aa Tryz.f288) Tryz.func288 (by kernel_rfl) (by kernel_rfl)
def mg:List RSp:=[.one (.ptr 0 0 0),.one (.dat (.int .u8))]
def lg:List RS:=[.box 252 2 true [.cn .nilp,.cn .nils]]
def Sv:List Sl:=[.ptr 0 0 0,.top]
def Tv:List RSp:=[.one (.cn .nili)]
def Fd:List RS:=[.box 252 2 false [.ptr 0 0 0,.row 1],.row 5 1 (.int .u8) true false]
def De (y:dV):OutS:=⟨false,An (Ie Fd ((),(y.1,()))) Sv (),SD (FC (Ie Fd ((),(y.1,()))) Tv ((),())),fu (Ie Fd ((),(y.1,()))) Fd ((),(y.1,()))⟩
theorem Hl (n:Nat):EntryOk Tryz.prog gl ⟨288,Ae,none,some (lV mg lg (fun σ ρ=>fb n σ.2.1.1) De)⟩:=
 Ki (Rv n) fun σ ρ y h=>Ab tys_ok (ui n) mixed (hint:=Qi n) (n:=n) Tryz.func288 (Ra (Pt n)) (oa (φ:=fun y=>some (De y)) (by kernel_rfl) (Fz n σ.2.1.1 _) h)
def kg (n:Nat):List Entry:=⟨288,Ae,none,some (lV mg lg (fun σ ρ=>fb n σ.2.1.1) De)⟩::pg n
theorem ti (n:Nat):AllOk Tryz.prog gl (kg n):=.cons (Hl n) (ui n)
def Xm (n:Nat) {R:Type} (r1:(Sq Int)) (k:(BA×Unit)→Option R):Option R:=
 if (r1.n:Int)=(r1.n:Int)∧(r1.n:Int)≤9223372036854775807 then
 k ((IB r1.n r1.at'),())
 else
 none
def se (n:Nat) (r1:(Sq Int)):Option (BA×Unit):=Xm n r1 some
theorem SE (n:Nat) {S:Type}:∀ r1 (φ:_→Option S),(se n r1).bind φ=Xm n r1 φ:=by
 intros;unfold se Xm;first | (simp only [ia,ba,iB,bB,oL,oX,nB,Option.bind_some]) | rfl
def io (n:Nat):Hint OutS:={ live:=fun c=>[],run:=fun c=>none,xm:=fun c q=>none,sch:=fun c=>(cond (Nat.beq c 1) (some [(0,0),(1,0),(2,0),(5,0),(6,0),(7,0),(3,1),(8,1),(9,0),(4,3),(10,2),(11,0)]) none) }
theorem Ez (n:Nat):sa tys (ea OutS (kg n)) (io n) n (aa Tryz.f246) 0:=la (fun _=>rfl) _ _ (by kernel_rfl)
theorem zB (n:Nat):Enters Tryz.prog 246:=enters_of (c:=aa Tryz.f246) Tryz.func246 (by kernel_rfl) (by kernel_rfl)
def Gk:List RSp:=[.one (.ptr 0 0 0)]
def Fk:List RS:=[.box 252 2 false [.ptr 0 0 0,.row 1],.row 5 1 (.int .u8) true false]
def AB:List Sl:=[.ptr 0 0 0]
def BB:List RSp:=[.one (.dat .str)]
def qf:List RS:=[.box 252 2 false [.ptr 0 0 0,.top]]
def Rh (y:(BA×Unit)):OutS:=⟨false,An (Ie qf ((),())) AB (),SD (FC (Ie qf ((),())) BB ((y.1,()),())),fu (Ie qf ((),())) qf ((),())⟩
theorem Ms (n:Nat):EntryOk Tryz.prog gl ⟨246,Ae,none,some (lV Gk Fk (fun σ ρ=>se n ρ.2.1) Rh)⟩:=
 Ki (zB n) fun σ ρ y h=>Ab tys_ok (ti n) mixed (hint:=io n) (n:=n) Tryz.func246 (Ra (Ez n)) (oa (φ:=fun y=>some (Rh y)) (by kernel_rfl) (SE n ρ.2.1 _) h)
def Ek (n:Nat):List Entry:=⟨246,Ae,none,some (lV Gk Fk (fun σ ρ=>se n ρ.2.1) Rh)⟩::kg n
theorem Gl (n:Nat):AllOk Tryz.prog gl (Ek n):=.cons (Ms n) (ti n)
def th (n:Nat) {R:Type} (r1:(Sq Int)) (k:dV→Option R):Option R:=
 k (r1,())
def pd (n:Nat) (r1:(Sq Int)):Option dV:=th n r1 some
theorem Iz (n:Nat) {S:Type}:∀ r1 (φ:_→Option S),(pd n r1).bind φ=th n r1 φ:=by
 intros;unfold pd th;first | (simp only [ia,ba,iB,bB,oL,oX,nB,Option.bind_some]) | rfl
def Ti (n:Nat):Hint OutS:={ live:=fun c=>[],run:=fun c=>none,xm:=fun c q=>none }
theorem Tt (n:Nat):sa tys (ea OutS (Ek n)) (Ti n) n (aa Tryz.f275) 0:=la (fun _=>rfl) _ _ (by kernel_rfl)
theorem aw (n:Nat):Enters Tryz.prog 275:=enters_of (c:=aa Tryz.f275) Tryz.func275 (by kernel_rfl) (by kernel_rfl)
def ug:List RSp:=[.one (.ptr 0 0 0)]
def tg:List RS:=[.box 252 2 false [.ptr 0 0 0,.row 1],.row 5 1 (.int .u8) true false]
def bw:List Sl:=[.ptr 0 0 0]
def cw:List RSp:=[]
def Id:List RS:=[.box 252 2 false [.ptr 0 0 0,.row 1],.row 5 1 (.int .u8) true false]
def Ge (y:dV):OutS:=⟨false,An (Ie Id ((),(y.1,()))) bw (),SD (FC (Ie Id ((),(y.1,()))) cw ()),fu (Ie Id ((),(y.1,()))) Id ((),(y.1,()))⟩
theorem Kl (n:Nat):EntryOk Tryz.prog gl ⟨275,Ae,none,some (lV ug tg (fun σ ρ=>pd n ρ.2.1) Ge)⟩:=
 Ki (aw n) fun σ ρ y h=>Ab tys_ok (Gl n) mixed (hint:=Ti n) (n:=n) Tryz.func275 (Ra (Tt n)) (oa (φ:=fun y=>some (Ge y)) (by kernel_rfl) (Iz n ρ.2.1 _) h)
def sg (n:Nat):List Entry:=⟨275,Ae,none,some (lV ug tg (fun σ ρ=>pd n ρ.2.1) Ge)⟩::Ek n
theorem vi (n:Nat):AllOk Tryz.prog gl (sg n):=.cons (Kl n) (Gl n)
def rh (n:Nat) {R:Type} (c:Int) (r1:(Sq Int)) (k:dV→Option R):Option R:=
 (pd n r1).bind fun v=>
 if ld (v.1.n+1) 1=true then
 k ((⟨(v.1.n+1),fun q=>if q<v.1.n then v.1.at' q else (fun q=>List.getD (α:=Int) [c] q (ra (.int .u8))) (q - v.1.n)⟩:Sq Int),())
 else
 none
def La (n:Nat) (c:Int) (r1:(Sq Int)):Option dV:=rh n c r1 some
theorem Gz (n:Nat) {S:Type}:∀ c r1 (φ:_→Option S),(La n c r1).bind φ=rh n c r1 φ:=by
 intros;unfold La rh;first | (simp only [ia,ba,iB,bB,oL,oX,nB,Option.bind_some]) | rfl
def Ri (n:Nat):Hint OutS:={ live:=fun c=>[],run:=fun c=>none,xm:=fun c q=>none }
theorem Qt (n:Nat):sa tys (ea OutS (sg n)) (Ri n) n (aa Tryz.f288) 0:=la (fun _=>rfl) _ _ (by kernel_rfl)
theorem Uv (n:Nat):Enters Tryz.prog 288:=enters_of (c:=aa Tryz.f288) Tryz.func288 (by kernel_rfl) (by kernel_rfl)
def og:List RSp:=[.one (.ptr 0 0 0),.one (.dat (.int .u8))]
def ng:List RS:=[.box 252 2 false [.ptr 0 0 0,.row 1],.row 5 1 (.int .u8) true false]
def Vv:List Sl:=[.ptr 0 0 0,.top]
def Wv:List RSp:=[.one (.cn .nili)]
def Gd:List RS:=[.box 252 2 false [.ptr 0 0 0,.row 1],.row 5 1 (.int .u8) true false]
def Ee (y:dV):OutS:=⟨false,An (Ie Gd ((),(y.1,()))) Vv (),SD (FC (Ie Gd ((),(y.1,()))) Wv ((),())),fu (Ie Gd ((),(y.1,()))) Gd ((),(y.1,()))⟩
theorem Il (n:Nat):EntryOk Tryz.prog gl ⟨288,Ae,none,some (lV og ng (fun σ ρ=>La n σ.2.1.1 ρ.2.1) Ee)⟩:=
 Ki (Uv n) fun σ ρ y h=>Ab tys_ok (vi n) mixed (hint:=Ri n) (n:=n) Tryz.func288 (Ra (Qt n)) (oa (φ:=fun y=>some (Ee y)) (by kernel_rfl) (Gz n σ.2.1.1 ρ.2.1 _) h)
def Wc (n:Nat):List Entry:=⟨288,Ae,none,some (lV og ng (fun σ ρ=>La n σ.2.1.1 ρ.2.1) Ee)⟩::sg n
theorem ue (n:Nat):AllOk Tryz.prog gl (Wc n):=.cons (Il n) (vi n)
def Yk (n:Nat) {R:Type} (s1:BA) (i:Int) (r1:(Sq Int)) (kn:BA→Int→(Sq Int)→Option R) (ko:Unit→Option R) (kr:(BA×BA)→Option R) (kp:Int→Option R):Option R:=
 (Xc n (decide (i<(s1.size:Int)))).bind fun x_1=>MV x_1 (fun p3=>
 kp p3) (fun v5=>
 if 0≤i∧i<(s1.size:Int) then
 if ((bt s1 i)==(34:Int))=true then
  if 0≤(IntKind.wrap .i64 (i+(1:Int)))∧(IntKind.wrap .i64 (i+(1:Int)))≤(s1.size:Int) then
  (se n r1).bind fun v6=>
  kr (v6.1,(s1.extract (Int.toNat (IntKind.wrap .i64 (i+(1:Int)))) (Int.toNat (s1.size:Int))))
  else
  none
 else
  if 0≤i∧i<(s1.size:Int) then
  if ((bt s1 i)==(92:Int))=true then
   (Xc n (decide ((IntKind.wrap .i64 (i+(1:Int)))<(s1.size:Int)))).bind fun x_2=>MV x_2 (fun p4=>
   kp p4) (fun v7=>
   if 0≤(IntKind.wrap .i64 (i+(1:Int)))∧(IntKind.wrap .i64 (i+(1:Int)))<(s1.size:Int) then
   if (decide ((bt s1 (IntKind.wrap .i64 (i+(1:Int))))≥(32:Int)))=true then
    if 0≤(IntKind.wrap .i64 (i+(1:Int)))∧(IntKind.wrap .i64 (i+(1:Int)))<(s1.size:Int) then
    (Xc n (decide ((bt s1 (IntKind.wrap .i64 (i+(1:Int))))≤(126:Int)))).bind fun x_3=>MV x_3 (fun p5=>
     kp p5) (fun v8=>
    if 0≤(IntKind.wrap .i64 (i+(1:Int)))∧(IntKind.wrap .i64 (i+(1:Int)))<(s1.size:Int) then
     (La n (bt s1 (IntKind.wrap .i64 (i+(1:Int)))) r1).bind fun v9=>
     kn s1 (IntKind.wrap .i64 ((IntKind.wrap .i64 (i+(1:Int)))+(1:Int))) v9.1
    else
     none)
    else
    none
   else
    (Xc n false).bind fun x_4=>MV x_4 (fun p6=>
    kp p6) (fun v10=>
    if 0≤(IntKind.wrap .i64 (i+(1:Int)))∧(IntKind.wrap .i64 (i+(1:Int)))<(s1.size:Int) then
    (La n (bt s1 (IntKind.wrap .i64 (i+(1:Int)))) r1).bind fun v11=>
    kn s1 (IntKind.wrap .i64 ((IntKind.wrap .i64 (i+(1:Int)))+(1:Int))) v11.1
    else
    none)
   else
   none)
  else
   if 0≤i∧i<(s1.size:Int) then
   if (decide ((bt s1 i)≥(32:Int)))=true then
    if 0≤i∧i<(s1.size:Int) then
    (Xc n (decide ((bt s1 i)≤(126:Int)))).bind fun x_5=>MV x_5 (fun p7=>
     kp p7) (fun v12=>
    if 0≤i∧i<(s1.size:Int) then
     (La n (bt s1 i) r1).bind fun v13=>
     kn s1 (IntKind.wrap .i64 (i+(1:Int))) v13.1
    else
     none)
    else
    none
   else
    (Xc n false).bind fun x_6=>MV x_6 (fun p8=>
    kp p8) (fun v14=>
    if 0≤i∧i<(s1.size:Int) then
    (La n (bt s1 i) r1).bind fun v15=>
    kn s1 (IntKind.wrap .i64 (i+(1:Int))) v15.1
    else
    none)
   else
   none
  else
  none
 else
 none)
def Gb (n:Nat):Nat→BA→Int→(Sq Int)→Option (Lx Unit (BA×BA))
 | 0,_,_,_=>none
 | m+1,s1,i,r1=>Yk n s1 i r1 (Gb n m) (fun a=>some (.out a)) (fun a=>some (.ret a)) (fun p=>some (.pan p))
theorem cE (n m:Nat) {S:Type}:∀ s1 i r1 (φ:_→Option S),(Gb n (m+1) s1 i r1).bind φ=Yk n s1 i r1 (fun s1 i r1=>(Gb n m s1 i r1).bind φ) (fun a=>φ (.out a)) (fun a=>φ (.ret a)) (fun p=>φ (.pan p)):=by
 intros;first | (simp only [Gb,Yk,ia,ba,iB,bB,oL,oX,nB,Option.bind_some]) | rfl
def Kj:List Sl:=.dat .str::.top::.top::.top::.ptr 0 0 0::.dat (.int .i64)::tp 42 []
def Jj:List RS:=[.box 252 2 false [.ptr 0 0 0,.row 1],.row 5 1 (.int .u8) true false]
def Wu:List Sl:=.top::.top::.dat .str::.dat .str::tp 44 []
def Vu:List RS:=[]
def Yc (K:XE→List AV→fa→Option Out):Lx Unit (BA×BA)→Option Out:=fun x=>LV x (fun _=>none) (fun a=>ql Wu Vu (a.1,(a.2,())) () (K .ret)) (fun p=>K (.panic (ct 244 p)) (List.replicate 48 .top) [])
def Uu (n:Nat) {R:Type} (s:BA) (k:(BA×BA×Unit)→Option R) (kp:Int→Option R):Option R:=
 (Xc n (decide ((1:Int)<(s.size:Int)))).bind fun x_1=>MV x_1 (fun p=>
 kp p) (fun v=>
 if 0≤(1:Int)∧(1:Int)<(s.size:Int) then
 if ((bt s (1:Int))==(34:Int))=true then
  if 0≤(IntKind.wrap .i64 ((1:Int)+(1:Int)))∧(IntKind.wrap .i64 ((1:Int)+(1:Int)))≤(s.size:Int) then
  (Kf n).bind fun v1=>
  k (v1.1,((s.extract (Int.toNat (IntKind.wrap .i64 ((1:Int)+(1:Int)))) (Int.toNat (s.size:Int))),()))
  else
  none
 else
  if 0≤(1:Int)∧(1:Int)<(s.size:Int) then
  if ((bt s (1:Int))==(92:Int))=true then
   (Xc n (decide ((IntKind.wrap .i64 ((1:Int)+(1:Int)))<(s.size:Int)))).bind fun x_2=>MV x_2 (fun p1=>
   kp p1) (fun v2=>
   if 0≤(IntKind.wrap .i64 ((1:Int)+(1:Int)))∧(IntKind.wrap .i64 ((1:Int)+(1:Int)))<(s.size:Int) then
   if (decide ((bt s (IntKind.wrap .i64 ((1:Int)+(1:Int))))≥(32:Int)))=true then
    if 0≤(IntKind.wrap .i64 ((1:Int)+(1:Int)))∧(IntKind.wrap .i64 ((1:Int)+(1:Int)))<(s.size:Int) then
    (Xc n (decide ((bt s (IntKind.wrap .i64 ((1:Int)+(1:Int))))≤(126:Int)))).bind fun x_3=>MV x_3 (fun p2=>
     kp p2) (fun v3=>
    if 0≤(IntKind.wrap .i64 ((1:Int)+(1:Int)))∧(IntKind.wrap .i64 ((1:Int)+(1:Int)))<(s.size:Int) then
     (fb n (bt s (IntKind.wrap .i64 ((1:Int)+(1:Int))))).bind fun v4=>
     (Gb n n s (IntKind.wrap .i64 ((IntKind.wrap .i64 ((1:Int)+(1:Int)))+(1:Int))) v4.1).bind fun x_4=>LV x_4
     (fun _=>none)
     (fun a_5=>
      k (a_5.1,(a_5.2,())))
     (fun p9=>
      kp p9)
    else
     none)
    else
    none
   else
    (Xc n false).bind fun x_6=>MV x_6 (fun p10=>
    kp p10) (fun v16=>
    if 0≤(IntKind.wrap .i64 ((1:Int)+(1:Int)))∧(IntKind.wrap .i64 ((1:Int)+(1:Int)))<(s.size:Int) then
    (fb n (bt s (IntKind.wrap .i64 ((1:Int)+(1:Int))))).bind fun v17=>
    (Gb n n s (IntKind.wrap .i64 ((IntKind.wrap .i64 ((1:Int)+(1:Int)))+(1:Int))) v17.1).bind fun x_7=>LV x_7
     (fun _=>none)
     (fun a_8=>
     k (a_8.1,(a_8.2,())))
     (fun p11=>
     kp p11)
    else
    none)
   else
   none)
  else
   if 0≤(1:Int)∧(1:Int)<(s.size:Int) then
   if (decide ((bt s (1:Int))≥(32:Int)))=true then
    if 0≤(1:Int)∧(1:Int)<(s.size:Int) then
    (Xc n (decide ((bt s (1:Int))≤(126:Int)))).bind fun x_9=>MV x_9 (fun p12=>
     kp p12) (fun v18=>
    if 0≤(1:Int)∧(1:Int)<(s.size:Int) then
     (fb n (bt s (1:Int))).bind fun v19=>
     (Gb n n s (IntKind.wrap .i64 ((1:Int)+(1:Int))) v19.1).bind fun x_10=>LV x_10
     (fun _=>none)
     (fun a_11=>
      k (a_11.1,(a_11.2,())))
     (fun p13=>
      kp p13)
    else
     none)
    else
    none
   else
    (Xc n false).bind fun x_12=>MV x_12 (fun p14=>
    kp p14) (fun v20=>
    if 0≤(1:Int)∧(1:Int)<(s.size:Int) then
    (fb n (bt s (1:Int))).bind fun v21=>
    (Gb n n s (IntKind.wrap .i64 ((1:Int)+(1:Int))) v21.1).bind fun x_13=>LV x_13
     (fun _=>none)
     (fun a_14=>
     k (a_14.1,(a_14.2,())))
     (fun p15=>
     kp p15)
    else
    none)
   else
   none
  else
  none
 else
 none)
def Jw (n:Nat) (s:BA):Option (Except Int (BA×BA×Unit)):=Uu n s (fun y=>some (.ok y)) (fun p=>some (.error p))
theorem tC (n:Nat) {S:Type}:∀ s (φ:_→Option S),(Jw n s).bind φ=Uu n s (fun y=>φ (.ok y)) (fun p=>φ (.error p)):=by
 intros;unfold Jw Uu;first | (simp only [ia,ba,iB,bB,oL,oX,nB,Option.bind_some]) | rfl
def Me (n:Nat):Hint Out:={ live:=fun c=>(cond (Nat.beq c 0) (lv [0,4,5]) []),run:=fun c=>(cond (Nat.beq c 0) (some (sq Kj Jj fun σ ρ K=>(Gb n n σ.1 σ.2.1 ρ.2.1).bind (Yc K))) none),xm:=fun c q=>(cond (Nat.beq c 1&&q.isNone) (some [(2,none),(3,none)]) none),sch:=fun c=>(cond (Nat.beq c 6) (some [(1,0),(2,0),(3,0),(4,0),(0,2),(5,0),(6,0)]) none),pl:=fun c=>Nat.beq c 0 }
def yh (n:Nat) (K:XE→List AV→fa→Option Out) (m:Nat) (s1:BA) (i:Int) (r1:(Sq Int)):Option Out:=ze tys (ea Out (Wc n)) (Me n) n (Ba [1,1,1,0,0] (aa Tryz.f271)) 0 Kj Jj K m (s1,(i,())) ((),(r1,()))
theorem Zt (n:Nat) (K:XE→List AV→fa→Option Out):∀ (m:Nat) s1 i r1,yh n K m s1 i r1=(Gb n m s1 i r1).bind (Yc K)
 | 0,_,_,_=>by kernel_rfl
 | m+1,s1,i,r1=>by
  have h1:yh n K (m+1) s1 i r1=Yk n s1 i r1 (yh n K m) (fun a=>Yc K (.out a)) (fun a=>Yc K (.ret a)) (fun p=>Yc K (.pan p)):=by kernel_rfl
  have h2:yh n K m=fun s1 i r1=>(Gb n m s1 i r1).bind (Yc K):=by
   repeat (refine funext fun _=>?_)
   exact Zt n K m _ _ _
  rw [h1,h2];exact (cE n m _ _ _ (Yc K)).symm
theorem sC (n:Nat):Wd tys (ea Out (Wc n)) (Me n) n (Ba [1,1,1,0,0] (aa Tryz.f271)) 0:=Qa (sp:=Kj) (rp:=Jj) (by kernel_rfl) fun K σ ρ=>Zt n K n σ.1 σ.2.1 ρ.2.1
theorem au (n:Nat):sa tys (ea Out (Wc n)) (Me n) n (aa Tryz.f271) 0:=⟨trivial,⟨trivial,⟨trivial,⟨sC n,⟨⟨trivial,⟨⟨trivial,⟨⟨trivial,trivial⟩,trivial⟩⟩,⟨⟨trivial,⟨⟨trivial,trivial⟩,trivial⟩⟩,⟨trivial,trivial⟩⟩⟩⟩,trivial⟩⟩⟩⟩⟩
theorem TF (n:Nat):Enters Tryz.prog 271:=enters_of (c:=aa Tryz.f271) Tryz.func271 (by kernel_rfl) (by kernel_rfl)
def wq (n:Nat):Entry:=⟨271,SV 244 (.pair .str .unit) (.many (.pair .str (.pair .str .unit))) (fun xs=>Jw n xs.1),none,none⟩
theorem Yz (n:Nat):EntryOk Tryz.prog gl (wq n):=
 uK (TF n) (fun xs y h=>qa tys_ok (ue n) mixed (hint:=Me n) (n:=n) Tryz.func271 (Ra (au n)) (oa (φ:=(fun r=>MV r (fun p=>some (Out.pan (ct 244 p))) fun y=>some (Out.ret (Od (.many (.pair .str (.pair .str .unit))) y)))) (by kernel_rfl) (tC n xs.1 _) h))
  (fun xs p h=>qa tys_ok (ue n) mixed (hint:=Me n) (n:=n) Tryz.func271 (Ra (au n)) (oa (φ:=(fun r=>MV r (fun p=>some (Out.pan (ct 244 p))) fun y=>some (Out.ret (Od (.many (.pair .str (.pair .str .unit))) y)))) (by kernel_rfl) (tC n xs.1 _) h))
def xq (n:Nat):List Entry:=wq n::Wc n
theorem yq (n:Nat):AllOk Tryz.prog gl (xq n):=.cons (Yz n) (ue n)
def wC (n:Nat) {R:Type} (c:Int) (k:Bool→Option R):Option R:=
 if (decide (c≥(97:Int)))=true then
 if (decide (c≤(122:Int)))=false then
  if (decide (c≥(48:Int)))=true then
  k (decide (c≤(57:Int)))
  else
  k false
 else
  k true
 else
 if (decide (c≥(48:Int)))=true then
  k (decide (c≤(57:Int)))
 else
  k false
def vC (n:Nat) (c:Int):Option Bool:=wC n c some
theorem KL (n:Nat) {S:Type}:∀ c (φ:_→Option S),(vC n c).bind φ=wC n c φ:=by
 intros;unfold vC wC;first | (simp only [ia,ba,iB,bB,oL,oX,nB,Option.bind_some]) | rfl
def aA (n:Nat):Hint Out:={ live:=fun c=>[],run:=fun c=>none,xm:=fun c q=>none }
theorem vH (n:Nat):sa tys (ea Out (xq n)) (aA n) n (aa Tryz.f198) 0:=la (fun _=>rfl) _ _ (by kernel_rfl)
theorem RI (n:Nat):Enters Tryz.prog 198:=enters_of (c:=aa Tryz.f198) Tryz.func198 (by kernel_rfl) (by kernel_rfl)
def Gy (n:Nat):Entry:=⟨198,RV (.pair (.int .u8) .unit) (.one .bool) (fun xs=>vC n xs.1),none,none⟩
theorem lF (n:Nat):EntryOk Tryz.prog gl (Gy n):=
 Ha (RI n) fun xs y h=>qa tys_ok (yq n) mixed (hint:=aA n) (n:=n) Tryz.func198 (Ra (vH n)) (oa (φ:=(fun y=>some (Out.ret (Od (.one .bool) y)))) (by kernel_rfl) (KL n xs.1 _) h)
def kF (n:Nat):List Entry:=Gy n::xq n
theorem VF (n:Nat):AllOk Tryz.prog gl (kF n):=.cons (lF n) (yq n)
theorem Kq:Tryz.prog.funcs[285]?=some Tryz.f285:=by kernel_rfl
theorem Xh:EntryOk Tryz.prog gl ⟨285,Ae,some (.flat vo),none⟩:=OC Kq (by kernel_rfl) (by kernel_rfl) (by kernel_rfl) (by kernel_rfl)
def ee (n:Nat):List Entry:=⟨285,Ae,some (.flat vo),none⟩::kF n
theorem Hf (n:Nat):AllOk Tryz.prog gl (ee n):=.cons Xh (VF n)
def im (n:Nat) {R:Type} (s:BA) (c:Int) (k:Int→Option R):Option R:=
 k (Lib.indexByte s.data.toList (Nat.toUInt8 (Int.toNat c)))
def ml (n:Nat) (s:BA) (c:Int):Option Int:=im n s c some
theorem pE (n:Nat) {S:Type}:∀ s c (φ:_→Option S),(ml n s c).bind φ=im n s c φ:=by
 intros;unfold ml im;first | (simp only [ia,ba,iB,bB,oL,oX,nB,Option.bind_some]) | rfl
def Gn (n:Nat):Hint Out:={ live:=fun c=>[],run:=fun c=>none,xm:=fun c q=>none }
theorem Ry (n:Nat):sa tys (ea Out (ee n)) (Gn n) n (aa Tryz.f263) 0:=la (fun _=>rfl) _ _ (by kernel_rfl)
theorem CA (n:Nat):Enters Tryz.prog 263:=enters_of (c:=aa Tryz.f263) Tryz.func263 (by kernel_rfl) (by kernel_rfl)
def Tj (n:Nat):Entry:=⟨263,RV (.pair .str (.pair (.int .u8) .unit)) (.one (.int .i64)) (fun xs=>ml n xs.1 xs.2.1),none,none⟩
theorem Nq (n:Nat):EntryOk Tryz.prog gl (Tj n):=
 Ha (CA n) fun xs y h=>qa tys_ok (Hf n) mixed (hint:=Gn n) (n:=n) Tryz.func263 (Ra (Ry n)) (oa (φ:=(fun y=>some (Out.ret (Od (.one (.int .i64)) y)))) (by kernel_rfl) (pE n xs.1 xs.2.1 _) h)
def Uj (n:Nat):List Entry:=Tj n::ee n
theorem nl (n:Nat):AllOk Tryz.prog gl (Uj n):=.cons (Nq n) (Hf n)
def dn (n:Nat) {R:Type} (s:BA) (c:Int) (k:Int→Option R):Option R:=
 (ml n s c).bind fun v=>
 k v
def Nf (n:Nat) (s:BA) (c:Int):Option Int:=dn n s c some
theorem aF (n:Nat) {S:Type}:∀ s c (φ:_→Option S),(Nf n s c).bind φ=dn n s c φ:=by
 intros;unfold Nf dn;first | (simp only [ia,ba,iB,bB,oL,oX,nB,Option.bind_some]) | rfl
def qo (n:Nat):Hint Out:={ live:=fun c=>[],run:=fun c=>none,xm:=fun c q=>none }
theorem Nz (n:Nat):sa tys (ea Out (Uj n)) (qo n) n (aa Tryz.f273) 0:=la (fun _=>rfl) _ _ (by kernel_rfl)
theorem EB (n:Nat):Enters Tryz.prog 273:=enters_of (c:=aa Tryz.f273) Tryz.func273 (by kernel_rfl) (by kernel_rfl)
def Qk (n:Nat):Entry:=⟨273,RV (.pair .str (.pair (.int .u8) .unit)) (.one (.int .i64)) (fun xs=>Nf n xs.1 xs.2.1),none,none⟩
theorem Ws (n:Nat):EntryOk Tryz.prog gl (Qk n):=
 Ha (EB n) fun xs y h=>qa tys_ok (nl n) mixed (hint:=qo n) (n:=n) Tryz.func273 (Ra (Nz n)) (oa (φ:=(fun y=>some (Out.ret (Od (.one (.int .i64)) y)))) (by kernel_rfl) (aF n xs.1 xs.2.1 _) h)
def Rk (n:Nat):List Entry:=Qk n::Uj n
theorem Nl (n:Nat):AllOk Tryz.prog gl (Rk n):=.cons (Ws n) (nl n)
def kC (n:Nat) {R:Type} (c:Int) (k:Bool→Option R):Option R:=
 (vC n c).bind fun v=>
 if v=false then
 if (decide (c≥(65:Int)))=true then
  if (decide (c≤(90:Int)))=false then
  (Nf n (⟨#[33,35,36,37,38,39,42,43,45,47,61,63,94,95,96,123,124,125,126]⟩:BA) c).bind fun v1=>
  k (decide (v1≥(0:Int)))
  else
  k true
 else
  (Nf n (⟨#[33,35,36,37,38,39,42,43,45,47,61,63,94,95,96,123,124,125,126]⟩:BA) c).bind fun v2=>
  k (decide (v2≥(0:Int)))
 else
 k true
def jC (n:Nat) (c:Int):Option Bool:=kC n c some
theorem JL (n:Nat) {S:Type}:∀ c (φ:_→Option S),(jC n c).bind φ=kC n c φ:=by
 intros;unfold jC kC;first | (simp only [ia,ba,iB,bB,oL,oX,nB,Option.bind_some]) | rfl
def Wz (n:Nat):Hint Out:={ live:=fun c=>[],run:=fun c=>none,xm:=fun c q=>none }
theorem nH (n:Nat):sa tys (ea Out (Rk n)) (Wz n) n (aa Tryz.f289) 0:=la (fun _=>rfl) _ _ (by kernel_rfl)
theorem OI (n:Nat):Enters Tryz.prog 289:=enters_of (c:=aa Tryz.f289) Tryz.func289 (by kernel_rfl) (by kernel_rfl)
def yy (n:Nat):Entry:=⟨289,RV (.pair (.int .u8) .unit) (.one .bool) (fun xs=>jC n xs.1),none,none⟩
theorem fF (n:Nat):EntryOk Tryz.prog gl (yy n):=
 Ha (OI n) fun xs y h=>qa tys_ok (Nl n) mixed (hint:=Wz n) (n:=n) Tryz.func289 (Ra (nH n)) (oa (φ:=(fun y=>some (Out.ret (Od (.one .bool) y)))) (by kernel_rfl) (JL n xs.1 _) h)
def vn (n:Nat):List Entry:=yy n::Rk n
theorem pw (n:Nat):AllOk Tryz.prog gl (vn n):=.cons (fF n) (Nl n)
def Eo (n:Nat) {R:Type} (s1:BA) (word t6 t7:Int) (kn:BA→Int→Int→Int→Option R) (ko:(Int)→Option R) (kr:(Bool)→Option R) (kp:Int→Option R):Option R:=
 if (decide (t7<t6))=true then
 if 0≤t7∧t7<(s1.size:Int) then
  if ((bt s1 t7)==(46:Int))=true then
  if (word==(0:Int))=false then
   if 0≤t7∧t7<(s1.size:Int) then
   if ((bt s1 t7) !=(46:Int))=true then
    if 0≤t7∧t7<(s1.size:Int) then
    (jC n (bt s1 t7)).bind fun v=>
    if (!v)=true then
     kr false
    else
     if 0≤t7∧t7<(s1.size:Int) then
     if ((bt s1 t7)==(46:Int))=true then
      kn s1 (0:Int) t6 (IntKind.wrap .i64 (t7+(1:Int)))
     else
      kn s1 (IntKind.wrap .i64 (word+(1:Int))) t6 (IntKind.wrap .i64 (t7+(1:Int)))
     else
     none
    else
    none
   else
    if 0≤t7∧t7<(s1.size:Int) then
    if ((bt s1 t7)==(46:Int))=true then
     kn s1 (0:Int) t6 (IntKind.wrap .i64 (t7+(1:Int)))
    else
     kn s1 (IntKind.wrap .i64 (word+(1:Int))) t6 (IntKind.wrap .i64 (t7+(1:Int)))
    else
    none
   else
   none
  else
   kr false
  else
  if 0≤t7∧t7<(s1.size:Int) then
   if ((bt s1 t7) !=(46:Int))=true then
   if 0≤t7∧t7<(s1.size:Int) then
    (jC n (bt s1 t7)).bind fun v1=>
    if (!v1)=true then
    kr false
    else
    if 0≤t7∧t7<(s1.size:Int) then
     if ((bt s1 t7)==(46:Int))=true then
     kn s1 (0:Int) t6 (IntKind.wrap .i64 (t7+(1:Int)))
     else
     kn s1 (IntKind.wrap .i64 (word+(1:Int))) t6 (IntKind.wrap .i64 (t7+(1:Int)))
    else
     none
   else
    none
   else
   if 0≤t7∧t7<(s1.size:Int) then
    if ((bt s1 t7)==(46:Int))=true then
    kn s1 (0:Int) t6 (IntKind.wrap .i64 (t7+(1:Int)))
    else
    kn s1 (IntKind.wrap .i64 (word+(1:Int))) t6 (IntKind.wrap .i64 (t7+(1:Int)))
   else
    none
  else
   none
 else
  none
 else
 ko word
def Zd (n:Nat):Nat→BA→Int→Int→Int→Option (Lx (Int) (Bool))
 | 0,_,_,_,_=>none
 | m+1,s1,word,t6,t7=>Eo n s1 word t6 t7 (Zd n m) (fun a=>some (.out a)) (fun a=>some (.ret a)) (fun p=>some (.pan p))
theorem PF (n m:Nat) {S:Type}:∀ s1 word t6 t7 (φ:_→Option S),(Zd n (m+1) s1 word t6 t7).bind φ=Eo n s1 word t6 t7 (fun s1 word t6 t7=>(Zd n m s1 word t6 t7).bind φ) (fun a=>φ (.out a)) (fun a=>φ (.ret a)) (fun p=>φ (.pan p)):=by
 intros;first | (simp only [Zd,Eo,ia,ba,iB,bB,oL,oX,nB,Option.bind_some]) | rfl
def Wl:List Sl:=.dat .str::.top::.top::.dat (.int .i64)::.top::.top::.dat (.int .i64)::.dat (.int .i64)::tp 32 []
def Vl:List RS:=[]
def Dw:List Sl:=.top::.top::.top::.dat (.int .i64)::tp 36 []
def Cw:List RS:=[]
def Fw:List Sl:=.top::.top::.dat .bool::tp 37 []
def Ew:List RS:=[]
def ud (K:XE→List AV→fa→Option Out):Lx (Int) (Bool)→Option Out:=fun x=>LV x (fun a=>ql Dw Cw (a,()) () (K (.exit 0))) (fun a=>ql Fw Ew (a,()) () (K .ret)) (fun _=>none)
def Dy (n:Nat) {R:Type} (s:BA) (k:Bool→Option R):Option R:=
 (Zd n n s (0:Int) (s.size:Int) (0:Int)).bind fun x_1=>LV x_1
 (fun a_2=>
  k (decide (a_2>(0:Int))))
 (fun a_3=>
  k a_3)
 (fun _=>none)
def Aw (n:Nat) (s:BA):Option Bool:=Dy n s some
theorem TK (n:Nat) {S:Type}:∀ s (φ:_→Option S),(Aw n s).bind φ=Dy n s φ:=by
 intros;unfold Aw Dy;first | (simp only [ia,ba,iB,bB,oL,oX,nB,Option.bind_some]) | rfl
def bj (n:Nat):Hint Out:={ live:=fun c=>(cond (Nat.beq c 0) (lv [0,3,6,7]) []),run:=fun c=>(cond (Nat.beq c 0) (some (sq Wl Vl fun σ ρ K=>(Zd n n σ.1 σ.2.1 σ.2.2.1 σ.2.2.2.1).bind (ud K))) none),xm:=fun c q=>(cond (Nat.beq c 0&&Nat.beq (q.getD 1000000) 0&&q.isSome) (some [(3,none)]) (cond (Nat.beq c 1&&q.isNone) (some [(2,none)]) none)) }
def aj (n:Nat) (K:XE→List AV→fa→Option Out) (m:Nat) (s1:BA) (word:Int) (t6:Int) (t7:Int):Option Out:=ze tys (ea Out (vn n)) (bj n) n (Ba [1,1,0,1,0,0] (aa Tryz.f274)) 0 Wl Vl K m (s1,(word,(t6,(t7,())))) ()
theorem Bw (n:Nat) (K:XE→List AV→fa→Option Out):∀ (m:Nat) s1 word t6 t7,aj n K m s1 word t6 t7=(Zd n m s1 word t6 t7).bind (ud K)
 | 0,_,_,_,_=>by kernel_rfl
 | m+1,s1,word,t6,t7=>by
  have h1:aj n K (m+1) s1 word t6 t7=Eo n s1 word t6 t7 (aj n K m) (fun a=>ud K (.out a)) (fun a=>ud K (.ret a)) (fun p=>ud K (.pan p)):=by kernel_rfl
  have h2:aj n K m=fun s1 word t6 t7=>(Zd n m s1 word t6 t7).bind (ud K):=by
   repeat (refine funext fun _=>?_)
   exact Bw n K m _ _ _ _
  rw [h1,h2];exact (PF n m _ _ _ _ (ud K)).symm
theorem aE (n:Nat):Wd tys (ea Out (vn n)) (bj n) n (Ba [1,1,0,1,0,0] (aa Tryz.f274)) 0:=Qa (sp:=Wl) (rp:=Vl) (by kernel_rfl) fun K σ ρ=>Bw n K n σ.1 σ.2.1 σ.2.2.1 σ.2.2.2.1
theorem QF (n:Nat):sa tys (ea Out (vn n)) (bj n) n (aa Tryz.f274) 0:=⟨trivial,⟨trivial,⟨⟨trivial,⟨aE n,⟨trivial,⟨⟨trivial,trivial⟩,⟨⟨trivial,⟨⟨trivial,⟨⟨trivial,trivial⟩,trivial⟩⟩,⟨trivial,⟨trivial,⟨trivial,trivial⟩⟩⟩⟩⟩,trivial⟩⟩⟩⟩⟩,⟨trivial,trivial⟩⟩⟩⟩
theorem sH (n:Nat):Enters Tryz.prog 274:=enters_of (c:=aa Tryz.f274) Tryz.func274 (by kernel_rfl) (by kernel_rfl)
def Ru (n:Nat):Entry:=⟨274,RV (.pair .str .unit) (.one .bool) (fun xs=>Aw n xs.1),none,none⟩
theorem qC (n:Nat):EntryOk Tryz.prog gl (Ru n):=
 Ha (sH n) fun xs y h=>qa tys_ok (pw n) mixed (hint:=bj n) (n:=n) Tryz.func274 (Ra (QF n)) (oa (φ:=(fun y=>some (Out.ret (Od (.one .bool) y)))) (by kernel_rfl) (TK n xs.1 _) h)
def Ij (n:Nat):List Entry:=Ru n::vn n
theorem Yt (n:Nat):AllOk Tryz.prog gl (Ij n):=.cons (qC n) (pw n)
def Fo (n:Nat) {R:Type} (s1:BA) (t10 t11:Int) (r1:(Sq Int)) (kn:BA→Int→Int→(Sq Int)→Option R) (ko:((Sq Int))→Option R) (kr:Unit→Option R) (kp:Int→Option R):Option R:=
 if (decide (t11<t10))=true then
 if 0≤t11∧t11<(s1.size:Int) then
  if ((bt s1 t11)==(34:Int))=false then
  if 0≤t11∧t11<(s1.size:Int) then
   if ((bt s1 t11)==(92:Int))=true then
   (La n (92:Int) r1).bind fun v2=>
   if 0≤t11∧t11<(s1.size:Int) then
    (La n (bt s1 t11) v2.1).bind fun v3=>
    kn s1 t10 (IntKind.wrap .i64 (t11+(1:Int))) v3.1
   else
    none
   else
   if 0≤t11∧t11<(s1.size:Int) then
    (La n (bt s1 t11) r1).bind fun v4=>
    kn s1 t10 (IntKind.wrap .i64 (t11+(1:Int))) v4.1
   else
    none
  else
   none
  else
  (La n (92:Int) r1).bind fun v5=>
  if 0≤t11∧t11<(s1.size:Int) then
   (La n (bt s1 t11) v5.1).bind fun v6=>
   kn s1 t10 (IntKind.wrap .i64 (t11+(1:Int))) v6.1
  else
   none
 else
  none
 else
 ko r1
def ae (n:Nat):Nat→BA→Int→Int→(Sq Int)→Option (Lx ((Sq Int)) Unit)
 | 0,_,_,_,_=>none
 | m+1,s1,t10,t11,r1=>Fo n s1 t10 t11 r1 (ae n m) (fun a=>some (.out a)) (fun a=>some (.ret a)) (fun p=>some (.pan p))
theorem RF (n m:Nat) {S:Type}:∀ s1 t10 t11 r1 (φ:_→Option S),(ae n (m+1) s1 t10 t11 r1).bind φ=Fo n s1 t10 t11 r1 (fun s1 t10 t11 r1=>(ae n m s1 t10 t11 r1).bind φ) (fun a=>φ (.out a)) (fun a=>φ (.ret a)) (fun p=>φ (.pan p)):=by
 intros;first | (simp only [ae,Fo,ia,ba,iB,bB,oL,oX,nB,Option.bind_some]) | rfl
def Yl:List Sl:=.dat .str::.top::.top::.ptr 0 0 0::tp 6 (.dat (.int .i64)::.dat (.int .i64)::tp 20 [])
def Xl:List RS:=[.box 252 2 false [.ptr 0 0 0,.row 1],.row 5 1 (.int .u8) true false]
def Iw:List Sl:=.top::.top::.top::.ptr 0 0 0::tp 28 []
def Hw:List RS:=[.box 252 2 false [.ptr 0 0 0,.row 1],.row 5 1 (.int .u8) true false]
def vd (K:XE→List AV→fa→Option Out):Lx ((Sq Int)) Unit→Option Out:=fun x=>LV x (fun a=>ql Iw Hw () ((),(a,())) (K (.exit 0))) (fun _=>none) (fun _=>none)
def Ey (n:Nat) {R:Type} (s:BA) (k:BA→Option R):Option R:=
 (Aw n s).bind fun v=>
 if v=true then
 k s
 else
 (fb n (34:Int)).bind fun v1=>
 (ae n n s (s.size:Int) (0:Int) v1.1).bind fun x_1=>LV x_1
  (fun a_2=>
  (se n a_2).bind fun v7=>
  if qn v7.1 (⟨#[34]⟩:BA)=true then
   k (v7.1++(⟨#[34]⟩:BA))
  else
   none)
  (fun _=>none)
  (fun _=>none)
def MB (n:Nat) (s:BA):Option BA:=Ey n s some
theorem UK (n:Nat) {S:Type}:∀ s (φ:_→Option S),(MB n s).bind φ=Ey n s φ:=by
 intros;unfold MB Ey;first | (simp only [ia,ba,iB,bB,oL,oX,nB,Option.bind_some]) | rfl
def dj (n:Nat):Hint Out:={ live:=fun c=>(cond (Nat.beq c 0) (lv [0,3,10,11]) []),run:=fun c=>(cond (Nat.beq c 0) (some (sq Yl Xl fun σ ρ K=>(ae n n σ.1 σ.2.1 σ.2.2.1 ρ.2.1).bind (vd K))) none),xm:=fun c q=>(cond (Nat.beq c 0&&Nat.beq (q.getD 1000000) 0&&q.isSome) (some [(3,none)]) none) }
def cj (n:Nat) (K:XE→List AV→fa→Option Out) (m:Nat) (s1:BA) (t10:Int) (t11:Int) (r1:(Sq Int)):Option Out:=ze tys (ea Out (Ij n)) (dj n) n (Ba [1,1,1,1,0,1,0,0] (aa Tryz.f272)) 0 Yl Xl K m (s1,(t10,(t11,()))) ((),(r1,()))
theorem Gw (n:Nat) (K:XE→List AV→fa→Option Out):∀ (m:Nat) s1 t10 t11 r1,cj n K m s1 t10 t11 r1=(ae n m s1 t10 t11 r1).bind (vd K)
 | 0,_,_,_,_=>by kernel_rfl
 | m+1,s1,t10,t11,r1=>by
  have h1:cj n K (m+1) s1 t10 t11 r1=Fo n s1 t10 t11 r1 (cj n K m) (fun a=>vd K (.out a)) (fun a=>vd K (.ret a)) (fun p=>vd K (.pan p)):=by kernel_rfl
  have h2:cj n K m=fun s1 t10 t11 r1=>(ae n m s1 t10 t11 r1).bind (vd K):=by
   repeat (refine funext fun _=>?_)
   exact Gw n K m _ _ _ _
  rw [h1,h2];exact (RF n m _ _ _ _ (vd K)).symm
theorem bE (n:Nat):Wd tys (ea Out (Ij n)) (dj n) n (Ba [1,1,1,1,0,1,0,0] (aa Tryz.f272)) 0:=Qa (sp:=Yl) (rp:=Xl) (by kernel_rfl) fun K σ ρ=>Gw n K n σ.1 σ.2.1 σ.2.2.1 ρ.2.1
theorem SF (n:Nat):sa tys (ea Out (Ij n)) (dj n) n (aa Tryz.f272) 0:=⟨trivial,⟨⟨trivial,⟨⟨trivial,trivial⟩,trivial⟩⟩,⟨trivial,⟨trivial,⟨⟨trivial,⟨bE n,⟨trivial,⟨⟨trivial,trivial⟩,⟨⟨trivial,⟨⟨trivial,⟨trivial,trivial⟩⟩,trivial⟩⟩,trivial⟩⟩⟩⟩⟩,⟨trivial,trivial⟩⟩⟩⟩⟩⟩
theorem tH (n:Nat):Enters Tryz.prog 272:=enters_of (c:=aa Tryz.f272) Tryz.func272 (by kernel_rfl) (by kernel_rfl)
def Su (n:Nat):Entry:=⟨272,RV (.pair .str .unit) (.one .str) (fun xs=>MB n xs.1),none,none⟩
theorem rC (n:Nat):EntryOk Tryz.prog gl (Su n):=
 Ha (tH n) fun xs y h=>qa tys_ok (Yt n) mixed (hint:=dj n) (n:=n) Tryz.func272 (Ra (SF n)) (oa (φ:=(fun y=>some (Out.ret (Od (.one .str) y)))) (by kernel_rfl) (UK n xs.1 _) h)
def Tu (n:Nat):List Entry:=Su n::Ij n
theorem Zl (n:Nat):AllOk Tryz.prog gl (Tu n):=.cons (rC n) (Yt n)
def Ay (n:Nat) {R:Type} (s:BA) (k:(BA×BA×Unit)→Option R) (kp:Int→Option R):Option R:=
 (Lf n s (⟨#[34]⟩:BA)).bind fun v=>
 if v=true then
 (Jw n s).bind fun x_1=>MV x_1 (fun p=>
  kp p) (fun v1=>
 (MB n v1.1).bind fun v2=>
 k (v2,(v1.2.1,())))
 else
 (Nf n s (64:Int)).bind fun v3=>
 if (decide (v3≥(0:Int)))=true then
  if 0≤v3∧v3≤(s.size:Int) then
  (Aw n (s.extract (Int.toNat (0:Int)) (Int.toNat v3))).bind fun v4=>
  (Xc n v4).bind fun x_2=>MV x_2 (fun p1=>
   kp p1) (fun v5=>
  if 0≤v3∧v3≤(s.size:Int) then
   if 0≤v3∧v3≤(s.size:Int) then
   k ((s.extract (Int.toNat (0:Int)) (Int.toNat v3)),((s.extract (Int.toNat v3) (Int.toNat (s.size:Int))),()))
   else
   none
  else
   none)
  else
  none
 else
  (Xc n false).bind fun x_3=>MV x_3 (fun p2=>
  kp p2) (fun v6=>
  if 0≤v3∧v3≤(s.size:Int) then
  if 0≤v3∧v3≤(s.size:Int) then
   k ((s.extract (Int.toNat (0:Int)) (Int.toNat v3)),((s.extract (Int.toNat v3) (Int.toNat (s.size:Int))),()))
  else
   none
  else
  none)
def KB (n:Nat) (s:BA):Option (Except Int (BA×BA×Unit)):=Ay n s (fun y=>some (.ok y)) (fun p=>some (.error p))
theorem gF (n:Nat) {S:Type}:∀ s (φ:_→Option S),(KB n s).bind φ=Ay n s (fun y=>φ (.ok y)) (fun p=>φ (.error p)):=by
 intros;unfold KB Ay;first | (simp only [ia,ba,iB,bB,oL,oX,nB,Option.bind_some]) | rfl
def Co (n:Nat):Hint Out:={ live:=fun c=>[],run:=fun c=>none,xm:=fun c q=>none }
theorem yw (n:Nat):sa tys (ea Out (Tu n)) (Co n) n (aa Tryz.f240) 0:=la (fun _=>rfl) _ _ (by kernel_rfl)
theorem qH (n:Nat):Enters Tryz.prog 240:=enters_of (c:=aa Tryz.f240) Tryz.func240 (by kernel_rfl) (by kernel_rfl)
def Qu (n:Nat):Entry:=⟨240,SV 244 (.pair .str .unit) (.many (.pair .str (.pair .str .unit))) (fun xs=>KB n xs.1),none,none⟩
theorem oC (n:Nat):EntryOk Tryz.prog gl (Qu n):=
 uK (qH n) (fun xs y h=>qa tys_ok (Zl n) mixed (hint:=Co n) (n:=n) Tryz.func240 (Ra (yw n)) (oa (φ:=(fun r=>MV r (fun p=>some (Out.pan (ct 244 p))) fun y=>some (Out.ret (Od (.many (.pair .str (.pair .str .unit))) y)))) (by kernel_rfl) (gF n xs.1 _) h))
  (fun xs p h=>qa tys_ok (Zl n) mixed (hint:=Co n) (n:=n) Tryz.func240 (Ra (yw n)) (oa (φ:=(fun r=>MV r (fun p=>some (Out.pan (ct 244 p))) fun y=>some (Out.ret (Od (.many (.pair .str (.pair .str .unit))) y)))) (by kernel_rfl) (gF n xs.1 _) h))
def Hj (n:Nat):List Entry:=Qu n::Tu n
theorem Xt (n:Nat):AllOk Tryz.prog gl (Hj n):=.cons (oC n) (Zl n)
def Ho (n:Nat) {R:Type} (t9 t10:Int) (b:(Sq Int)) (kn:Int→Int→(Sq Int)→Option R) (ko:((Sq Int))→Option R) (kr:Unit→Option R) (kp:Int→Option R):Option R:=
 if (decide (t10<t9))=true then
 if 0≤t10∧t10<(b.n:Int) then
  if (decide ((b.at' (Int.toNat t10))≥(65:Int)))=true then
  if (decide ((b.at' (Int.toNat t10))≤(90:Int)))=true then
   if 0≤t10∧t10<(b.n:Int) then
   kn t9 (IntKind.wrap .i64 (t10+(1:Int))) (⟨b.n,fun q=>if q=(Int.toNat t10)∧q<b.n then (IntKind.wrap .u8 ((IntKind.wrap .u8 ((b.at' (Int.toNat t10))+(97:Int))) - (65:Int))) else b.at' q⟩:Sq Int)
   else
   none
  else
   kn t9 (IntKind.wrap .i64 (t10+(1:Int))) b
  else
  kn t9 (IntKind.wrap .i64 (t10+(1:Int))) b
 else
  none
 else
 ko b
def be (n:Nat):Nat→Int→Int→(Sq Int)→Option (Lx ((Sq Int)) Unit)
 | 0,_,_,_=>none
 | m+1,t9,t10,b=>Ho n t9 t10 b (be n m) (fun a=>some (.out a)) (fun a=>some (.ret a)) (fun p=>some (.pan p))
theorem WF (n m:Nat) {S:Type}:∀ t9 t10 b (φ:_→Option S),(be n (m+1) t9 t10 b).bind φ=Ho n t9 t10 b (fun t9 t10 b=>(be n m t9 t10 b).bind φ) (fun a=>φ (.out a)) (fun a=>φ (.ret a)) (fun p=>φ (.pan p)):=by
 intros;first | (simp only [be,Ho,ia,ba,iB,bB,oL,oX,nB,Option.bind_some]) | rfl
def bm:List Sl:=.top::.top::.top::.row 0::tp 4 (.row 0::.dat (.int .i64)::.dat (.int .i64)::tp 19 [])
def am:List RS:=[.row 5 1 (.int .u8) false true]
def Ow:List Sl:=.top::.top::.top::.row 0::tp 26 []
def Nw:List RS:=[.row 5 1 (.int .u8) false true]
def wd (K:XE→List AV→fa→Option Out):Lx ((Sq Int)) Unit→Option Out:=fun x=>LV x (fun a=>ql Ow Nw () (a,()) (K (.exit 0))) (fun _=>none) (fun _=>none)
def Hy (n:Nat) {R:Type} (s:BA) (k:BA→Option R):Option R:=
 (be n n (s.size:Int) (0:Int) (⟨s.size,fun q=>bt s q⟩:Sq Int)).bind fun x_1=>LV x_1
 (fun a_2=>
  k (IB a_2.n a_2.at'))
 (fun _=>none)
 (fun _=>none)
def Lw (n:Nat) (s:BA):Option BA:=Hy n s some
theorem VK (n:Nat) {S:Type}:∀ s (φ:_→Option S),(Lw n s).bind φ=Hy n s φ:=by
 intros;unfold Lw Hy;first | (simp only [ia,ba,iB,bB,oL,oX,nB,Option.bind_some]) | rfl
def fj (n:Nat):Hint Out:={ live:=fun c=>(cond (Nat.beq c 0) [(3,some (.sl (.int .u8))),(8,some (.sl (.int .u8))),(9,none),(10,none)] []),run:=fun c=>(cond (Nat.beq c 0) (some (sq bm am fun σ ρ K=>(be n n σ.1 σ.2.1 ρ.1).bind (wd K))) none),xm:=fun c q=>(cond (Nat.beq c 0&&Nat.beq (q.getD 1000000) 0&&q.isSome) (some [(3,some (.sl (.int .u8)))]) none) }
def ej (n:Nat) (K:XE→List AV→fa→Option Out) (m:Nat) (t9:Int) (t10:Int) (b:(Sq Int)):Option Out:=ze tys (ea Out (Hj n)) (fj n) n (Ba [1,1,0,1,0,0] (aa Tryz.f242)) 0 bm am K m (t9,(t10,())) (b,())
theorem Mw (n:Nat) (K:XE→List AV→fa→Option Out):∀ (m:Nat) t9 t10 b,ej n K m t9 t10 b=(be n m t9 t10 b).bind (wd K)
 | 0,_,_,_=>by kernel_rfl
 | m+1,t9,t10,b=>by
  have h1:ej n K (m+1) t9 t10 b=Ho n t9 t10 b (ej n K m) (fun a=>wd K (.out a)) (fun a=>wd K (.ret a)) (fun p=>wd K (.pan p)):=by kernel_rfl
  have h2:ej n K m=fun t9 t10 b=>(be n m t9 t10 b).bind (wd K):=by
   repeat (refine funext fun _=>?_)
   exact Mw n K m _ _ _
  rw [h1,h2];exact (WF n m _ _ _ (wd K)).symm
theorem dE (n:Nat):Wd tys (ea Out (Hj n)) (fj n) n (Ba [1,1,0,1,0,0] (aa Tryz.f242)) 0:=Qa (sp:=bm) (rp:=am) (by kernel_rfl) fun K σ ρ=>Mw n K n σ.1 σ.2.1 ρ.1
theorem XF (n:Nat):sa tys (ea Out (Hj n)) (fj n) n (aa Tryz.f242) 0:=⟨trivial,⟨trivial,⟨⟨trivial,⟨dE n,⟨trivial,⟨⟨trivial,trivial⟩,⟨⟨trivial,⟨trivial,⟨trivial,trivial⟩⟩⟩,trivial⟩⟩⟩⟩⟩,⟨trivial,trivial⟩⟩⟩⟩
theorem wH (n:Nat):Enters Tryz.prog 242:=enters_of (c:=aa Tryz.f242) Tryz.func242 (by kernel_rfl) (by kernel_rfl)
def Xu (n:Nat):Entry:=⟨242,RV (.pair .str .unit) (.one .str) (fun xs=>Lw n xs.1),none,none⟩
theorem xC (n:Nat):EntryOk Tryz.prog gl (Xu n):=
 Ha (wH n) fun xs y h=>qa tys_ok (Xt n) mixed (hint:=fj n) (n:=n) Tryz.func242 (Ra (XF n)) (oa (φ:=(fun y=>some (Out.ret (Od (.one .str) y)))) (by kernel_rfl) (VK n xs.1 _) h)
def Yu (n:Nat):List Entry:=Xu n::Hj n
theorem bu (n:Nat):AllOk Tryz.prog gl (Yu n):=.cons (xC n) (Xt n)
def Rl (n:Nat) {R:Type} (s:BA) (k:Bool→Option R):Option R:=
 (Lf n s (⟨#[91]⟩:BA)).bind fun v=>
 k v
def Gf (n:Nat) (s:BA):Option Bool:=Rl n s some
theorem VD (n:Nat) {S:Type}:∀ s (φ:_→Option S),(Gf n s).bind φ=Rl n s φ:=by
 intros;unfold Gf Rl;first | (simp only [ia,ba,iB,bB,oL,oX,nB,Option.bind_some]) | rfl
def un (n:Nat):Hint Out:={ live:=fun c=>[],run:=fun c=>none,xm:=fun c q=>none }
theorem xy (n:Nat):sa tys (ea Out (Yu n)) (un n) n (aa Tryz.f150) 0:=la (fun _=>rfl) _ _ (by kernel_rfl)
theorem tA (n:Nat):Enters Tryz.prog 150:=enters_of (c:=aa Tryz.f150) Tryz.func150 (by kernel_rfl) (by kernel_rfl)
def Dj (n:Nat):Entry:=⟨150,RV (.pair .str .unit) (.one .bool) (fun xs=>Gf n xs.1),none,none⟩
theorem Fj (n:Nat):EntryOk Tryz.prog gl (Dj n):=
 Ha (tA n) fun xs y h=>qa tys_ok (bu n) mixed (hint:=un n) (n:=n) Tryz.func150 (Ra (xy n)) (oa (φ:=(fun y=>some (Out.ret (Od (.one .bool) y)))) (by kernel_rfl) (VD n xs.1 _) h)
def Ej (n:Nat):List Entry:=Dj n::Yu n
theorem Xk (n:Nat):AllOk Tryz.prog gl (Ej n):=.cons (Fj n) (bu n)
def gm (n:Nat) {R:Type} (s suffix:BA) (k:Bool→Option R):Option R:=
 if (decide ((s.size:Int)≥(suffix.size:Int)))=true then
 if 0≤(IntKind.wrap .i64 ((s.size:Int) - (suffix.size:Int)))∧(IntKind.wrap .i64 ((s.size:Int) - (suffix.size:Int)))≤(s.size:Int) then
  k ((s.extract (Int.toNat (IntKind.wrap .i64 ((s.size:Int) - (suffix.size:Int)))) (Int.toNat (s.size:Int))).toList==suffix.toList)
 else
  none
 else
 k false
def il (n:Nat) (s suffix:BA):Option Bool:=gm n s suffix some
theorem oE (n:Nat) {S:Type}:∀ s suffix (φ:_→Option S),(il n s suffix).bind φ=gm n s suffix φ:=by
 intros;unfold il gm;first | (simp only [ia,ba,iB,bB,oL,oX,nB,Option.bind_some]) | rfl
def Fn (n:Nat):Hint Out:={ live:=fun c=>[],run:=fun c=>none,xm:=fun c q=>none }
theorem Qy (n:Nat):sa tys (ea Out (Ej n)) (Fn n) n (aa Tryz.f195) 0:=la (fun _=>rfl) _ _ (by kernel_rfl)
theorem AA (n:Nat):Enters Tryz.prog 195:=enters_of (c:=aa Tryz.f195) Tryz.func195 (by kernel_rfl) (by kernel_rfl)
def Rj (n:Nat):Entry:=⟨195,RV (.pair .str (.pair .str .unit)) (.one .bool) (fun xs=>il n xs.1 xs.2.1),none,none⟩
theorem Mq (n:Nat):EntryOk Tryz.prog gl (Rj n):=
 Ha (AA n) fun xs y h=>qa tys_ok (Xk n) mixed (hint:=Fn n) (n:=n) Tryz.func195 (Ra (Qy n)) (oa (φ:=(fun y=>some (Out.ret (Od (.one .bool) y)))) (by kernel_rfl) (oE n xs.1 xs.2.1 _) h)
def Sj (n:Nat):List Entry:=Rj n::Ej n
theorem ll (n:Nat):AllOk Tryz.prog gl (Sj n):=.cons (Mq n) (Xk n)
def bn (n:Nat) {R:Type} (s suffix:BA) (k:Bool→Option R):Option R:=
 (il n s suffix).bind fun v=>
 k v
def Mf (n:Nat) (s suffix:BA):Option Bool:=bn n s suffix some
theorem ZE (n:Nat) {S:Type}:∀ s suffix (φ:_→Option S),(Mf n s suffix).bind φ=bn n s suffix φ:=by
 intros;unfold Mf bn;first | (simp only [ia,ba,iB,bB,oL,oX,nB,Option.bind_some]) | rfl
def po (n:Nat):Hint Out:={ live:=fun c=>[],run:=fun c=>none,xm:=fun c q=>none }
theorem Mz (n:Nat):sa tys (ea Out (Sj n)) (po n) n (aa Tryz.f151) 0:=la (fun _=>rfl) _ _ (by kernel_rfl)
theorem DB (n:Nat):Enters Tryz.prog 151:=enters_of (c:=aa Tryz.f151) Tryz.func151 (by kernel_rfl) (by kernel_rfl)
def Ok (n:Nat):Entry:=⟨151,RV (.pair .str (.pair .str .unit)) (.one .bool) (fun xs=>Mf n xs.1 xs.2.1),none,none⟩
theorem Pk (n:Nat):EntryOk Tryz.prog gl (Ok n):=
 Ha (DB n) fun xs y h=>qa tys_ok (ll n) mixed (hint:=po n) (n:=n) Tryz.func151 (Ra (Mz n)) (oa (φ:=(fun y=>some (Out.ret (Od (.one .bool) y)))) (by kernel_rfl) (ZE n xs.1 xs.2.1 _) h)
def Vs (n:Nat):List Entry:=Ok n::Sj n
theorem ny (n:Nat):AllOk Tryz.prog gl (Vs n):=.cons (Pk n) (ll n)
theorem Oy:Tryz.prog.funcs[250]?=some Tryz.f250:=by kernel_rfl
theorem Dn:EntryOk Tryz.prog gl ⟨250,Ae,some (.flat EI),none⟩:=XI Oy (by kernel_rfl) (by kernel_rfl) (by kernel_rfl) (by kernel_rfl)
def Bn (n:Nat):List Entry:=⟨250,Ae,some (.flat EI),none⟩::Vs n
theorem Ft (n:Nat):AllOk Tryz.prog gl (Bn n):=.cons Dn (ny n)
def qv (n:Nat):List Entry:=⟨238,RV (.pair .str (.pair .str .unit)) (.one (.int .i64)) (fun xs=>uF xs.1 xs.2.1),none,none⟩::Bn n
theorem ju (n:Nat):AllOk Tryz.prog gl (qv n):=.cons RH (Ft n)
def Oz (n:Nat) {R:Type} (s substr:BA) (k:Int→Option R):Option R:=
 (uF s substr).bind fun v=>
 k v
def Ep (n:Nat) (s substr:BA):Option Int:=Oz n s substr some
theorem xL (n:Nat) {S:Type}:∀ s substr (φ:_→Option S),(Ep n s substr).bind φ=Oz n s substr φ:=by
 intros;unfold Ep Oz;first | (simp only [ia,ba,iB,bB,oL,oX,nB,Option.bind_some]) | rfl
def oy (n:Nat):Hint Out:={ live:=fun c=>[],run:=fun c=>none,xm:=fun c q=>none }
theorem WG (n:Nat):sa tys (ea Out (qv n)) (oy n) n (aa Tryz.f225) 0:=la (fun _=>rfl) _ _ (by kernel_rfl)
theorem xI (n:Nat):Enters Tryz.prog 225:=enters_of (c:=aa Tryz.f225) Tryz.func225 (by kernel_rfl) (by kernel_rfl)
def lw (n:Nat):Entry:=⟨225,RV (.pair .str (.pair .str .unit)) (.one (.int .i64)) (fun xs=>Ep n xs.1 xs.2.1),none,none⟩
theorem mw (n:Nat):EntryOk Tryz.prog gl (lw n):=
 Ha (xI n) fun xs y h=>qa tys_ok (ju n) mixed (hint:=oy n) (n:=n) Tryz.func225 (Ra (WG n)) (oa (φ:=(fun y=>some (Out.ret (Od (.one (.int .i64)) y)))) (by kernel_rfl) (xL n xs.1 xs.2.1 _) h)
def Sk (n:Nat):List Entry:=lw n::qv n
theorem Ju (n:Nat):AllOk Tryz.prog gl (Sk n):=.cons (mw n) (ju n)
def Dp (n:Nat) {R:Type} (s1 substr1:BA) (n0:Int) (kn:BA→BA→Int→Option R) (ko:Unit→Option R) (kr:(Int)→Option R) (kp:Int→Option R):Option R:=
 (Ep n s1 substr1).bind fun v=>
 if (v==(-1:Int))=true then
 kr n0
 else
 if 0≤(IntKind.wrap .i64 (v+(substr1.size:Int)))∧(IntKind.wrap .i64 (v+(substr1.size:Int)))≤(s1.size:Int) then
  kn (s1.extract (Int.toNat (IntKind.wrap .i64 (v+(substr1.size:Int)))) (Int.toNat (s1.size:Int))) substr1 (IntKind.wrap .i64 (n0+(1:Int)))
 else
  none
def ve (n:Nat):Nat→BA→BA→Int→Option (Lx Unit (Int))
 | 0,_,_,_=>none
 | m+1,s1,substr1,n0=>Dp n s1 substr1 n0 (ve n m) (fun a=>some (.out a)) (fun a=>some (.ret a)) (fun p=>some (.pan p))
theorem TG (n m:Nat) {S:Type}:∀ s1 substr1 n0 (φ:_→Option S),(ve n (m+1) s1 substr1 n0).bind φ=Dp n s1 substr1 n0 (fun s1 substr1 n0=>(ve n m s1 substr1 n0).bind φ) (fun a=>φ (.out a)) (fun a=>φ (.ret a)) (fun p=>φ (.pan p)):=by
 intros;first | (simp only [ve,Dp,ia,ba,iB,bB,oL,oX,nB,Option.bind_some]) | rfl
def Zm:List Sl:=.dat .str::.dat .str::.top::.top::.top::.dat (.int .i64)::tp 28 []
def Ym:List RS:=[]
def my:List Sl:=tp 4 (.dat (.int .i64)::tp 29 [])
def jy:List RS:=[]
def Jd (K:XE→List AV→fa→Option Out):Lx Unit (Int)→Option Out:=fun x=>LV x (fun _=>none) (fun a=>ql my jy (a,()) () (K .ret)) (fun _=>none)
def Kz (n:Nat) {R:Type} (s substr:BA) (k:Int→Option R):Option R:=
 if ((substr.size:Int)==(0:Int))=true then
 none
 else
 if ((substr.size:Int)==(1:Int))=true then
  if 0≤(0:Int)∧(0:Int)<(substr.size:Int) then
  k ((Lib.countByte s.data.toList (Nat.toUInt8 (Int.toNat (bt substr (0:Int)))):Nat):Int)
  else
  none
 else
  (ve n n s substr (0:Int)).bind fun x_1=>LV x_1
  (fun _=>none)
  (fun a_2=>
   k a_2)
  (fun _=>none)
def WB (n:Nat) (s substr:BA):Option Int:=Kz n s substr some
theorem vL (n:Nat) {S:Type}:∀ s substr (φ:_→Option S),(WB n s substr).bind φ=Kz n s substr φ:=by
 intros;unfold WB Kz;first | (simp only [ia,ba,iB,bB,oL,oX,nB,Option.bind_some]) | rfl
def yj (n:Nat):Hint Out:={ live:=fun c=>(cond (Nat.beq c 0) (lv [0,1,5]) []),run:=fun c=>(cond (Nat.beq c 0) (some (sq Zm Ym fun σ ρ K=>(ve n n σ.1 σ.2.1 σ.2.2.1).bind (Jd K))) none),xm:=fun c q=>(cond (Nat.beq c 1&&q.isNone) (some [(4,none)]) none) }
def xj (n:Nat) (K:XE→List AV→fa→Option Out) (m:Nat) (s1:BA) (substr1:BA) (n0:Int):Option Out:=ze tys (ea Out (Sk n)) (yj n) n (Ba [1,1,1,1,0,0] (aa Tryz.f224)) 0 Zm Ym K m (s1,(substr1,(n0,()))) ()
theorem iy (n:Nat) (K:XE→List AV→fa→Option Out):∀ (m:Nat) s1 substr1 n0,xj n K m s1 substr1 n0=(ve n m s1 substr1 n0).bind (Jd K)
 | 0,_,_,_=>by kernel_rfl
 | m+1,s1,substr1,n0=>by
  have h1:xj n K (m+1) s1 substr1 n0=Dp n s1 substr1 n0 (xj n K m) (fun a=>Jd K (.out a)) (fun a=>Jd K (.ret a)) (fun p=>Jd K (.pan p)):=by kernel_rfl
  have h2:xj n K m=fun s1 substr1 n0=>(ve n m s1 substr1 n0).bind (Jd K):=by
   repeat (refine funext fun _=>?_)
   exact iy n K m _ _ _
  rw [h1,h2];exact (TG n m _ _ _ (Jd K)).symm
theorem WE (n:Nat):Wd tys (ea Out (Sk n)) (yj n) n (Ba [1,1,1,1,0,0] (aa Tryz.f224)) 0:=Qa (sp:=Zm) (rp:=Ym) (by kernel_rfl) fun K σ ρ=>iy n K n σ.1 σ.2.1 σ.2.2.1
theorem UG (n:Nat):sa tys (ea Out (Sk n)) (yj n) n (aa Tryz.f224) 0:=⟨trivial,⟨⟨trivial,⟨⟨trivial,trivial⟩,trivial⟩⟩,⟨⟨trivial,⟨⟨trivial,trivial⟩,trivial⟩⟩,⟨trivial,⟨WE n,⟨trivial,⟨⟨trivial,⟨⟨trivial,trivial⟩,trivial⟩⟩,⟨trivial,trivial⟩⟩⟩⟩⟩⟩⟩⟩
theorem tI (n:Nat):Enters Tryz.prog 224:=enters_of (c:=aa Tryz.f224) Tryz.func224 (by kernel_rfl) (by kernel_rfl)
def kw (n:Nat):Entry:=⟨224,RV (.pair .str (.pair .str .unit)) (.one (.int .i64)) (fun xs=>WB n xs.1 xs.2.1),none,none⟩
theorem ED (n:Nat):EntryOk Tryz.prog gl (kw n):=
 Ha (tI n) fun xs y h=>qa tys_ok (Ju n) mixed (hint:=yj n) (n:=n) Tryz.func224 (Ra (UG n)) (oa (φ:=(fun y=>some (Out.ret (Od (.one (.int .i64)) y)))) (by kernel_rfl) (vL n xs.1 xs.2.1 _) h)
def Lk (n:Nat):List Entry:=kw n::Sk n
theorem Iu (n:Nat):AllOk Tryz.prog gl (Lk n):=.cons (ED n) (Ju n)
def Uh (n:Nat) {R:Type} (s1 sep1:BA) (sepSave1 n01 i:Int) (a:(Sq BA)) (kn:BA→BA→Int→Int→Int→(Sq BA)→Option R) (ko:(BA×Int×(Sq BA))→Option R) (kr:Unit→Option R) (kp:Int→Option R):Option R:=
 if (decide (i<n01))=true then
 (Ep n s1 sep1).bind fun v1=>
 if (decide (v1<(0:Int)))=true then
  ko (s1,i,a)
 else
  if 0≤(IntKind.wrap .i64 (v1+sepSave1))∧(IntKind.wrap .i64 (v1+sepSave1))≤(s1.size:Int) then
  if 0≤i∧i<(a.n:Int) then
   if 0≤(IntKind.wrap .i64 (v1+(sep1.size:Int)))∧(IntKind.wrap .i64 (v1+(sep1.size:Int)))≤(s1.size:Int) then
   kn (s1.extract (Int.toNat (IntKind.wrap .i64 (v1+(sep1.size:Int)))) (Int.toNat (s1.size:Int))) sep1 sepSave1 n01 (IntKind.wrap .i64 (i+(1:Int))) (⟨a.n,fun q=>if q=(Int.toNat i)∧q<a.n then (s1.extract (Int.toNat (0:Int)) (Int.toNat (IntKind.wrap .i64 (v1+sepSave1)))) else a.at' q⟩:Sq BA)
   else
   none
  else
   none
  else
  none
 else
 ko (s1,i,a)
def Fb (n:Nat):Nat→BA→BA→Int→Int→Int→(Sq BA)→Option (Lx (BA×Int×(Sq BA)) Unit)
 | 0,_,_,_,_,_,_=>none
 | m+1,s1,sep1,sepSave1,n01,i,a=>Uh n s1 sep1 sepSave1 n01 i a (Fb n m) (fun a=>some (.out a)) (fun a=>some (.ret a)) (fun p=>some (.pan p))
theorem FB (n m:Nat) {S:Type}:∀ s1 sep1 sepSave1 n01 i a (φ:_→Option S),(Fb n (m+1) s1 sep1 sepSave1 n01 i a).bind φ=Uh n s1 sep1 sepSave1 n01 i a (fun s1 sep1 sepSave1 n01 i a=>(Fb n m s1 sep1 sepSave1 n01 i a).bind φ) (fun a=>φ (.out a)) (fun a=>φ (.ret a)) (fun p=>φ (.pan p)):=by
 intros;first | (simp only [Fb,Uh,ia,ba,iB,bB,oL,oX,nB,Option.bind_some]) | rfl
def wh:List Sl:=.dat .str::.dat .str::.dat (.int .i64)::.dat (.int .i64)::tp 5 (.row 0::.dat (.int .i64)::tp 55 [])
def vh:List RS:=[.row 9 1 .str false false]
def Ys:List Sl:=.dat .str::tp 8 (.row 0::.dat (.int .i64)::tp 55 [])
def Xs:List RS:=[.row 9 1 .str false false]
def bc (K:XE→List AV→fa→Option Out):Lx (BA×Int×(Sq BA)) Unit→Option Out:=fun x=>LV x (fun a=>ql Ys Xs (a.1,(a.2.1,())) (a.2.2,()) (K (.exit 0))) (fun _=>none) (fun _=>none)
def Gp (n:Nat) {R:Type} (s sep:BA) (sepSave n0:Int) (k:(Sq BA)→Option R):Option R:=
 if (n0==(0:Int))=true then
 k (⟨0,fun _=>ra .str⟩:Sq BA)
 else
 if (sep.toList==(⟨#[]⟩:BA).toList)=true then
  none
 else
  if (decide (n0<(0:Int)))=true then
  (WB n s sep).bind fun v=>
  if 0≤(if (IntKind.wrap .i64 ((s.size:Int)+(1:Int)))<(IntKind.wrap .i64 (v+(1:Int))) then (IntKind.wrap .i64 ((s.size:Int)+(1:Int))) else (IntKind.wrap .i64 (v+(1:Int))))∧(if (IntKind.wrap .i64 ((s.size:Int)+(1:Int)))<(IntKind.wrap .i64 (v+(1:Int))) then (IntKind.wrap .i64 ((s.size:Int)+(1:Int))) else (IntKind.wrap .i64 (v+(1:Int))))≤(if (IntKind.wrap .i64 ((s.size:Int)+(1:Int)))<(IntKind.wrap .i64 (v+(1:Int))) then (IntKind.wrap .i64 ((s.size:Int)+(1:Int))) else (IntKind.wrap .i64 (v+(1:Int)))) then
   if ld (Int.toNat (if (IntKind.wrap .i64 ((s.size:Int)+(1:Int)))<(IntKind.wrap .i64 (v+(1:Int))) then (IntKind.wrap .i64 ((s.size:Int)+(1:Int))) else (IntKind.wrap .i64 (v+(1:Int))))) 16=true then
   (Fb n n s sep sepSave (IntKind.wrap .i64 ((if (IntKind.wrap .i64 ((s.size:Int)+(1:Int)))<(IntKind.wrap .i64 (v+(1:Int))) then (IntKind.wrap .i64 ((s.size:Int)+(1:Int))) else (IntKind.wrap .i64 (v+(1:Int)))) - (1:Int))) (0:Int) (⟨(Int.toNat (if (IntKind.wrap .i64 ((s.size:Int)+(1:Int)))<(IntKind.wrap .i64 (v+(1:Int))) then (IntKind.wrap .i64 ((s.size:Int)+(1:Int))) else (IntKind.wrap .i64 (v+(1:Int))))),fun _=>(⟨#[]⟩:BA)⟩:Sq BA)).bind fun x_1=>LV x_1
    (fun a_2=>
    if 0≤a_2.2.1∧a_2.2.1<(a_2.2.2.n:Int) then
     if 0≤(IntKind.wrap .i64 (a_2.2.1+(1:Int)))∧(IntKind.wrap .i64 (a_2.2.1+(1:Int)))≤(a_2.2.2.n:Int) then
     k (⟨((Int.toNat (IntKind.wrap .i64 (a_2.2.1+(1:Int)))) - (Int.toNat (0:Int))),fun j_0=>(fun q=>if q=(Int.toNat a_2.2.1)∧q<a_2.2.2.n then a_2.1 else a_2.2.2.at' q) ((Int.toNat (0:Int))+j_0)⟩:Sq BA)
     else
     none
    else
     none)
    (fun _=>none)
    (fun _=>none)
   else
   none
  else
   none
  else
  if 0≤(if (IntKind.wrap .i64 ((s.size:Int)+(1:Int)))<n0 then (IntKind.wrap .i64 ((s.size:Int)+(1:Int))) else n0)∧(if (IntKind.wrap .i64 ((s.size:Int)+(1:Int)))<n0 then (IntKind.wrap .i64 ((s.size:Int)+(1:Int))) else n0)≤(if (IntKind.wrap .i64 ((s.size:Int)+(1:Int)))<n0 then (IntKind.wrap .i64 ((s.size:Int)+(1:Int))) else n0) then
   if ld (Int.toNat (if (IntKind.wrap .i64 ((s.size:Int)+(1:Int)))<n0 then (IntKind.wrap .i64 ((s.size:Int)+(1:Int))) else n0)) 16=true then
   (Fb n n s sep sepSave (IntKind.wrap .i64 ((if (IntKind.wrap .i64 ((s.size:Int)+(1:Int)))<n0 then (IntKind.wrap .i64 ((s.size:Int)+(1:Int))) else n0) - (1:Int))) (0:Int) (⟨(Int.toNat (if (IntKind.wrap .i64 ((s.size:Int)+(1:Int)))<n0 then (IntKind.wrap .i64 ((s.size:Int)+(1:Int))) else n0)),fun _=>(⟨#[]⟩:BA)⟩:Sq BA)).bind fun x_3=>LV x_3
    (fun a_4=>
    if 0≤a_4.2.1∧a_4.2.1<(a_4.2.2.n:Int) then
     if 0≤(IntKind.wrap .i64 (a_4.2.1+(1:Int)))∧(IntKind.wrap .i64 (a_4.2.1+(1:Int)))≤(a_4.2.2.n:Int) then
     k (⟨((Int.toNat (IntKind.wrap .i64 (a_4.2.1+(1:Int)))) - (Int.toNat (0:Int))),fun j_0=>(fun q=>if q=(Int.toNat a_4.2.1)∧q<a_4.2.2.n then a_4.1 else a_4.2.2.at' q) ((Int.toNat (0:Int))+j_0)⟩:Sq BA)
     else
     none
    else
     none)
    (fun _=>none)
    (fun _=>none)
   else
   none
  else
   none
def Fp (n:Nat) (s sep:BA) (sepSave n0:Int):Option (Sq BA):=Gp n s sep sepSave n0 some
theorem YG (n:Nat) {S:Type}:∀ s sep sepSave n0 (φ:_→Option S),(Fp n s sep sepSave n0).bind φ=Gp n s sep sepSave n0 φ:=by
 intros;unfold Fp Gp;first | (simp only [ia,ba,iB,bB,oL,oX,nB,Option.bind_some]) | rfl
def uf (n:Nat):Hint Out:={ live:=fun c=>(cond (Nat.beq c 0) [(0,none),(1,none),(2,none),(3,none),(9,some (.sl .str)),(10,none)] []),run:=fun c=>(cond (Nat.beq c 0) (some (sq wh vh fun σ ρ K=>(Fb n n σ.1 σ.2.1 σ.2.2.1 σ.2.2.2.1 σ.2.2.2.2.1 ρ.1).bind (bc K))) none),xm:=fun c q=>(cond (Nat.beq c 0&&Nat.beq (q.getD 1000000) 0&&q.isSome) (some [(0,none),(9,some (.sl .str)),(10,none)]) (cond (Nat.beq c 1&&Nat.beq (q.getD 1000000) 0&&q.isSome) (some [(0,none),(9,some (.sl .str)),(10,none)]) none)) }
def tf (n:Nat) (K:XE→List AV→fa→Option Out) (m:Nat) (s1:BA) (sep1:BA) (sepSave1:Int) (n01:Int) (i:Int) (a:(Sq BA)):Option Out:=ze tys (ea Out (Lk n)) (uf n) n (Ba [1,1,1,1,1,1,1,1,0,0,0] (aa Tryz.f193)) 0 wh vh K m (s1,(sep1,(sepSave1,(n01,(i,()))))) (a,())
theorem jq (n:Nat) (K:XE→List AV→fa→Option Out):∀ (m:Nat) s1 sep1 sepSave1 n01 i a,tf n K m s1 sep1 sepSave1 n01 i a=(Fb n m s1 sep1 sepSave1 n01 i a).bind (bc K)
 | 0,_,_,_,_,_,_=>by kernel_rfl
 | m+1,s1,sep1,sepSave1,n01,i,a=>by
  have h1:tf n K (m+1) s1 sep1 sepSave1 n01 i a=Uh n s1 sep1 sepSave1 n01 i a (tf n K m) (fun a=>bc K (.out a)) (fun a=>bc K (.ret a)) (fun p=>bc K (.pan p)):=by kernel_rfl
  have h2:tf n K m=fun s1 sep1 sepSave1 n01 i a=>(Fb n m s1 sep1 sepSave1 n01 i a).bind (bc K):=by
   repeat (refine funext fun _=>?_)
   exact jq n K m _ _ _ _ _ _
  rw [h1,h2];exact (FB n m _ _ _ _ _ _ (bc K)).symm
theorem Qz (n:Nat):Wd tys (ea Out (Lk n)) (uf n) n (Ba [1,1,1,1,1,1,1,1,0,0,0] (aa Tryz.f193)) 0:=Qa (sp:=wh) (rp:=vh) (by kernel_rfl) fun K σ ρ=>jq n K n σ.1 σ.2.1 σ.2.2.1 σ.2.2.2.1 σ.2.2.2.2.1 ρ.1
theorem GB (n:Nat):sa tys (ea Out (Lk n)) (uf n) n (aa Tryz.f193) 0:=⟨trivial,⟨⟨trivial,⟨⟨trivial,trivial⟩,trivial⟩⟩,⟨⟨trivial,⟨⟨trivial,trivial⟩,trivial⟩⟩,⟨⟨trivial,⟨trivial,trivial⟩⟩,⟨trivial,⟨trivial,⟨trivial,⟨trivial,⟨⟨Qz n,⟨⟨trivial,⟨trivial,trivial⟩⟩,⟨trivial,⟨⟨trivial,⟨trivial,trivial⟩⟩,⟨trivial,⟨trivial,trivial⟩⟩⟩⟩⟩⟩,⟨trivial,⟨trivial,trivial⟩⟩⟩⟩⟩⟩⟩⟩⟩⟩⟩
theorem LD (n:Nat):Enters Tryz.prog 193:=enters_of (c:=aa Tryz.f193) Tryz.func193 (by kernel_rfl) (by kernel_rfl)
def en (n:Nat):Entry:=⟨193,RV K5 (.one (.sl .str)) (fun xs=>Fp n xs.1 xs.2.1 xs.2.2.1 xs.2.2.2.1),none,none⟩
theorem Ku (n:Nat):EntryOk Tryz.prog gl (en n):=
 Ha (LD n) fun xs y h=>qa tys_ok (Iu n) mixed (hint:=uf n) (n:=n) Tryz.func193 (Ra (GB n)) (oa (φ:=(fun y=>some (Out.ret (Od (.one (.sl .str)) y)))) (by kernel_rfl) (YG n xs.1 xs.2.1 xs.2.2.1 xs.2.2.2.1 _) h)
def ln (n:Nat):List Entry:=en n::Lk n
theorem ro (n:Nat):AllOk Tryz.prog gl (ln n):=.cons (Ku n) (Iu n)
def Pz (n:Nat) {R:Type} (s sep:BA) (k:(Sq BA)→Option R):Option R:=
 (Fp n s sep (0:Int) (-1:Int)).bind fun v=>
 k v
def XB (n:Nat) (s sep:BA):Option (Sq BA):=Pz n s sep some
theorem yL (n:Nat) {S:Type}:∀ s sep (φ:_→Option S),(XB n s sep).bind φ=Pz n s sep φ:=by
 intros;unfold XB Pz;first | (simp only [ia,ba,iB,bB,oL,oX,nB,Option.bind_some]) | rfl
def qy (n:Nat):Hint Out:={ live:=fun c=>[],run:=fun c=>none,xm:=fun c q=>none }
theorem XG (n:Nat):sa tys (ea Out (ln n)) (qy n) n (aa Tryz.f149) 0:=la (fun _=>rfl) _ _ (by kernel_rfl)
theorem yI (n:Nat):Enters Tryz.prog 149:=enters_of (c:=aa Tryz.f149) Tryz.func149 (by kernel_rfl) (by kernel_rfl)
def nw (n:Nat):Entry:=⟨149,RV (.pair .str (.pair .str .unit)) (.one (.sl .str)) (fun xs=>XB n xs.1 xs.2.1),none,none⟩
theorem KD (n:Nat):EntryOk Tryz.prog gl (nw n):=
 Ha (yI n) fun xs y h=>qa tys_ok (ro n) mixed (hint:=qy n) (n:=n) Tryz.func149 (Ra (XG n)) (oa (φ:=(fun y=>some (Out.ret (Od (.one (.sl .str)) y)))) (by kernel_rfl) (yL n xs.1 xs.2.1 _) h)
def JD (n:Nat):List Entry:=nw n::ln n
theorem bF (n:Nat):AllOk Tryz.prog gl (JD n):=.cons (KD n) (ro n)
def Zs (n:Nat):List Entry:=⟨196,fun {R}=>tK (R:=R) 260,none,none⟩::JD n
theorem ry (n:Nat):AllOk Tryz.prog gl (Zs n):=.cons ML (bF n)
def we (n:Nat):List Entry:=⟨157,RV (.pair (.int .i64) .unit) (.one .str) (fun xs=>iL xs.1),none,none⟩::Zs n
theorem Ol (n:Nat):AllOk Tryz.prog gl (we n):=.cons gM (ry n)
def Zi (n:Nat) {R:Type} (l t10:(Sq BA)) (t11 t12:Int) (kn:(Sq BA)→(Sq BA)→Int→Int→Option R) (ko:((Sq BA))→Option R) (kr:(Bool)→Option R) (kp:Int→Option R):Option R:=
 if (decide (t12<t11))=true then
 if 0≤t12∧t12<(t10.n:Int) then
  (PO (t10.at' (Int.toNat t12))).bind fun v1=>
  if v1.2=true then
  if (decide (v1.1<(0:Int)))=false then
   if (decide (v1.1>(255:Int)))=false then
   (iL v1.1).bind fun v2=>
   if (!(v2.toList==(t10.at' (Int.toNat t12)).toList))=true then
    kr false
   else
    kn l t10 t11 (IntKind.wrap .i64 (t12+(1:Int)))
   else
   kr false
  else
   kr false
  else
  kr false
 else
  none
 else
 ko l
def Pc (n:Nat):Nat→(Sq BA)→(Sq BA)→Int→Int→Option (Lx ((Sq BA)) (Bool))
 | 0,_,_,_,_=>none
 | m+1,l,t10,t11,t12=>Zi n l t10 t11 t12 (Pc n m) (fun a=>some (.out a)) (fun a=>some (.ret a)) (fun p=>some (.pan p))
theorem mC (n m:Nat) {S:Type}:∀ l t10 t11 t12 (φ:_→Option S),(Pc n (m+1) l t10 t11 t12).bind φ=Zi n l t10 t11 t12 (fun l t10 t11 t12=>(Pc n m l t10 t11 t12).bind φ) (fun a=>φ (.out a)) (fun a=>φ (.ret a)) (fun p=>φ (.pan p)):=by
 intros;first | (simp only [Pc,Zi,ia,ba,iB,bB,oL,oX,nB,Option.bind_some]) | rfl
def yi:List Sl:=.top::.top::.top::.dat (.sl .str)::tp 6 (.dat (.sl .str)::.dat (.int .i64)::.dat (.int .i64)::tp 28 [])
def xi:List RS:=[]
def Bt:List Sl:=.top::.top::.top::.dat (.sl .str)::tp 37 []
def At:List RS:=[]
def Dt:List Sl:=.top::.top::.dat .bool::tp 38 []
def Ct:List RS:=[]
def Fc (K:XE→List AV→fa→Option Out):Lx ((Sq BA)) (Bool)→Option Out:=fun x=>LV x (fun a=>ql Bt At (a,()) () (K (.exit 0))) (fun a=>ql Dt Ct (a,()) () (K .ret)) (fun _=>none)
def tq (n:Nat) {R:Type} (s:BA) (k:Bool→Option R):Option R:=
 (XB n s (⟨#[46]⟩:BA)).bind fun v=>
 (Pc n n v v (v.n:Int) (0:Int)).bind fun x_1=>LV x_1
 (fun a_2=>
  k ((a_2.n:Int)==(4:Int)))
 (fun a_3=>
  k a_3)
 (fun _=>none)
def wn (n:Nat) (s:BA):Option Bool:=tq n s some
theorem pH (n:Nat) {S:Type}:∀ s (φ:_→Option S),(wn n s).bind φ=tq n s φ:=by
 intros;unfold wn tq;first | (simp only [ia,ba,iB,bB,oL,oX,nB,Option.bind_some]) | rfl
def Qf (n:Nat):Hint Out:={ live:=fun c=>(cond (Nat.beq c 0) [(3,some (.sl .str)),(10,some (.sl .str)),(11,none),(12,none)] []),run:=fun c=>(cond (Nat.beq c 0) (some (sq yi xi fun σ ρ K=>(Pc n n σ.1 σ.2.1 σ.2.2.1 σ.2.2.2.1).bind (Fc K))) none),xm:=fun c q=>(cond (Nat.beq c 0&&Nat.beq (q.getD 1000000) 0&&q.isSome) (some [(3,some (.sl .str))]) (cond (Nat.beq c 1&&q.isNone) (some [(2,none)]) none)) }
def Of (n:Nat) (K:XE→List AV→fa→Option Out) (m:Nat) (l:(Sq BA)) (t10:(Sq BA)) (t11:Int) (t12:Int):Option Out:=ze tys (ea Out (we n)) (Qf n) n (Ba [1,1,0,1,0,0] (aa Tryz.f152)) 0 yi xi K m (l,(t10,(t11,(t12,())))) ()
theorem uq (n:Nat) (K:XE→List AV→fa→Option Out):∀ (m:Nat) l t10 t11 t12,Of n K m l t10 t11 t12=(Pc n m l t10 t11 t12).bind (Fc K)
 | 0,_,_,_,_=>by kernel_rfl
 | m+1,l,t10,t11,t12=>by
  have h1:Of n K (m+1) l t10 t11 t12=Zi n l t10 t11 t12 (Of n K m) (fun a=>Fc K (.out a)) (fun a=>Fc K (.ret a)) (fun p=>Fc K (.pan p)):=by kernel_rfl
  have h2:Of n K m=fun l t10 t11 t12=>(Pc n m l t10 t11 t12).bind (Fc K):=by
   repeat (refine funext fun _=>?_)
   exact uq n K m _ _ _ _
  rw [h1,h2];exact (mC n m _ _ _ _ (Fc K)).symm
theorem uA (n:Nat):Wd tys (ea Out (we n)) (Qf n) n (Ba [1,1,0,1,0,0] (aa Tryz.f152)) 0:=Qa (sp:=yi) (rp:=xi) (by kernel_rfl) fun K σ ρ=>uq n K n σ.1 σ.2.1 σ.2.2.1 σ.2.2.2.1
theorem nC (n:Nat):sa tys (ea Out (we n)) (Qf n) n (aa Tryz.f152) 0:=⟨trivial,⟨trivial,⟨⟨trivial,⟨uA n,⟨trivial,⟨⟨trivial,trivial⟩,⟨⟨trivial,⟨trivial,⟨trivial,⟨⟨trivial,trivial⟩,trivial⟩⟩⟩⟩,trivial⟩⟩⟩⟩⟩,⟨trivial,trivial⟩⟩⟩⟩
theorem ZD (n:Nat):Enters Tryz.prog 152:=enters_of (c:=aa Tryz.f152) Tryz.func152 (by kernel_rfl) (by kernel_rfl)
def Ao (n:Nat):Entry:=⟨152,RV (.pair .str .unit) (.one .bool) (fun xs=>wn n xs.1),none,none⟩
theorem Bo (n:Nat):EntryOk Tryz.prog gl (Ao n):=
 Ha (ZD n) fun xs y h=>qa tys_ok (Ol n) mixed (hint:=Qf n) (n:=n) Tryz.func152 (Ra (nC n)) (oa (φ:=(fun y=>some (Out.ret (Od (.one .bool) y)))) (by kernel_rfl) (pH n xs.1 _) h)
def Pf (n:Nat):List Entry:=Ao n::we n
theorem Hp (n:Nat):AllOk Tryz.prog gl (Pf n):=.cons (Bo n) (Ol n)
def zo (n:Nat) {R:Type} (s1:BA) (t5 t6:Int) (kn:BA→Int→Int→Option R) (ko:(BA)→Option R) (kr:(Bool)→Option R) (kp:Int→Option R):Option R:=
 if (decide (t6<t5))=true then
 if 0≤t6∧t6<(s1.size:Int) then
  (vC n (bt s1 t6)).bind fun v=>
  if (!v)=true then
  if 0≤t6∧t6<(s1.size:Int) then
   if ((bt s1 t6) !=(45:Int))=false then
   if (t6==(0:Int))=false then
    if (t6==(IntKind.wrap .i64 ((s1.size:Int) - (1:Int))))=true then
    kr false
    else
    kn s1 t5 (IntKind.wrap .i64 (t6+(1:Int)))
   else
    kr false
   else
   kr false
  else
   none
  else
  kn s1 t5 (IntKind.wrap .i64 (t6+(1:Int)))
 else
  none
 else
 ko s1
def Yd (n:Nat):Nat→BA→Int→Int→Option (Lx (BA) (Bool))
 | 0,_,_,_=>none
 | m+1,s1,t5,t6=>zo n s1 t5 t6 (Yd n m) (fun a=>some (.out a)) (fun a=>some (.ret a)) (fun p=>some (.pan p))
theorem NF (n m:Nat) {S:Type}:∀ s1 t5 t6 (φ:_→Option S),(Yd n (m+1) s1 t5 t6).bind φ=zo n s1 t5 t6 (fun s1 t5 t6=>(Yd n m s1 t5 t6).bind φ) (fun a=>φ (.out a)) (fun a=>φ (.ret a)) (fun p=>φ (.pan p)):=by
 intros;first | (simp only [Yd,zo,ia,ba,iB,bB,oL,oX,nB,Option.bind_some]) | rfl
def Ul:List Sl:=.dat .str::tp 4 (.dat (.int .i64)::.dat (.int .i64)::tp 33 [])
def Tl:List RS:=[]
def uw:List Sl:=.dat .str::tp 39 []
def tw:List RS:=[]
def xw:List Sl:=.top::.top::.dat .bool::tp 37 []
def ww:List RS:=[]
def td (K:XE→List AV→fa→Option Out):Lx (BA) (Bool)→Option Out:=fun x=>LV x (fun a=>ql uw tw (a,()) () (K (.exit 0))) (fun a=>ql xw ww (a,()) () (K .ret)) (fun _=>none)
def zy (n:Nat) {R:Type} (s:BA) (k:Bool→Option R):Option R:=
 (Yd n n s (s.size:Int) (0:Int)).bind fun x_1=>LV x_1
 (fun a_2=>
  if (decide ((a_2.size:Int)≥(1:Int)))=true then
  k (decide ((a_2.size:Int)≤(63:Int)))
  else
  k false)
 (fun a_3=>
  k a_3)
 (fun _=>none)
def qw (n:Nat) (s:BA):Option Bool:=zy n s some
theorem SK (n:Nat) {S:Type}:∀ s (φ:_→Option S),(qw n s).bind φ=zy n s φ:=by
 intros;unfold qw zy;first | (simp only [ia,ba,iB,bB,oL,oX,nB,Option.bind_some]) | rfl
def Yi (n:Nat):Hint Out:={ live:=fun c=>(cond (Nat.beq c 0) (lv [0,5,6]) []),run:=fun c=>(cond (Nat.beq c 0) (some (sq Ul Tl fun σ ρ K=>(Yd n n σ.1 σ.2.1 σ.2.2.1).bind (td K))) none),xm:=fun c q=>(cond (Nat.beq c 0&&Nat.beq (q.getD 1000000) 0&&q.isSome) (some [(0,none)]) (cond (Nat.beq c 1&&q.isNone) (some [(2,none)]) none)) }
def Xi (n:Nat) (K:XE→List AV→fa→Option Out) (m:Nat) (s1:BA) (t5:Int) (t6:Int):Option Out:=ze tys (ea Out (Pf n)) (Yi n) n (Ba [1,0,1,0,0] (aa Tryz.f154)) 0 Ul Tl K m (s1,(t5,(t6,()))) ()
theorem sw (n:Nat) (K:XE→List AV→fa→Option Out):∀ (m:Nat) s1 t5 t6,Xi n K m s1 t5 t6=(Yd n m s1 t5 t6).bind (td K)
 | 0,_,_,_=>by kernel_rfl
 | m+1,s1,t5,t6=>by
  have h1:Xi n K (m+1) s1 t5 t6=zo n s1 t5 t6 (Xi n K m) (fun a=>td K (.out a)) (fun a=>td K (.ret a)) (fun p=>td K (.pan p)):=by kernel_rfl
  have h2:Xi n K m=fun s1 t5 t6=>(Yd n m s1 t5 t6).bind (td K):=by
   repeat (refine funext fun _=>?_)
   exact sw n K m _ _ _
  rw [h1,h2];exact (NF n m _ _ _ (td K)).symm
theorem XD (n:Nat):Wd tys (ea Out (Pf n)) (Yi n) n (Ba [1,0,1,0,0] (aa Tryz.f154)) 0:=Qa (sp:=Ul) (rp:=Tl) (by kernel_rfl) fun K σ ρ=>sw n K n σ.1 σ.2.1 σ.2.2.1
theorem OF (n:Nat):sa tys (ea Out (Pf n)) (Yi n) n (aa Tryz.f154) 0:=⟨trivial,⟨⟨trivial,⟨XD n,⟨trivial,⟨⟨trivial,trivial⟩,⟨⟨trivial,⟨trivial,⟨⟨trivial,trivial⟩,trivial⟩⟩⟩,trivial⟩⟩⟩⟩⟩,⟨trivial,trivial⟩⟩⟩
theorem oH (n:Nat):Enters Tryz.prog 154:=enters_of (c:=aa Tryz.f154) Tryz.func154 (by kernel_rfl) (by kernel_rfl)
def Ou (n:Nat):Entry:=⟨154,RV (.pair .str .unit) (.one .bool) (fun xs=>qw n xs.1),none,none⟩
theorem Pu (n:Nat):EntryOk Tryz.prog gl (Ou n):=
 Ha (oH n) fun xs y h=>qa tys_ok (Hp n) mixed (hint:=Yi n) (n:=n) Tryz.func154 (Ra (OF n)) (oa (φ:=(fun y=>some (Out.ret (Od (.one .bool) y)))) (by kernel_rfl) (SK n xs.1 _) h)
def lC (n:Nat):List Entry:=Ou n::Pf n
theorem YD (n:Nat):AllOk Tryz.prog gl (lC n):=.cons (Pu n) (Hp n)
def vf (n:Nat) (s:BA):Option Bool:=
 (Gf n s).bind fun b=>if b=true then (Mf n s ⟨#[93]⟩).bind fun c=>if c=true then (if 2≤(s.size:Int)∧(s.size:Int)≤9223372036854775807 then wn n (s.extract 1 (s.size - 1)) else none) else some false
 else Dom.domT (fun x=>Ep n x Dom.dot) (qw n) n s
theorem UD:Tryz.prog.funcs[103]?=some Tryz.f103:=by kernel_rfl
theorem Vt (n:Nat):EntryOk Tryz.prog gl ⟨103,RV (.pair .str .unit) (.one .bool) (fun xs=>vf n xs.1),none,none⟩:=Ha (enters_of (c:=aa Tryz.f103) UD (by kernel_rfl) (by kernel_rfl)) fun xs y h=>by
 refine Qw (args:=[.string xs.1]) (v:=.bool y) (fun w0 hg hn=>?_)
 have hlit:∀ b,Gf n xs.1=some b→∀ (w:World),Below w0.heap.size w0 w→Calls Tryz.prog 150 #[.string xs.1] w fun e w'=>e=.returned (.bool b)∧Below w.heap.size w w':=fun b hb' w hb=>
  dx (Fj n) (args:=[.string xs.1]) (v:=.bool b) (by show (Gf n xs.1).bind _=_;rw [hb'];rfl) hg hn hb
 have hsuf:∀ b,Mf n xs.1 ⟨#[93]⟩=some b→∀ (w:World),Below w0.heap.size w0 w→Calls Tryz.prog 151 #[.string xs.1,.string ⟨#[93]⟩] w fun e w'=>e=.returned (.bool b)∧Below w.heap.size w w':=fun b hb' w hb=>
  dx (Pk n) (args:=[.string xs.1,.string ⟨#[93]⟩]) (v:=.bool b) (by show (Mf n xs.1 ⟨#[93]⟩).bind _=_;rw [hb'];rfl) hg hn hb
 unfold vf at h
 obtain ⟨b,hb,h⟩:=Option.bind_eq_some_iff.1 h
 cases b with
 | true=>
  rw [if_pos rfl] at h
  obtain ⟨c,hc,h⟩:=Option.bind_eq_some_iff.1 h
  refine Dom.dom2 xs.1 c y w0 (hlit true hb) (hsuf c hc) (fun hc'=>?_) (fun hc'=>?_)
  · rw [if_pos hc'] at h
    split at h
    · rename_i hsz
      exact ⟨hsz,fun w hbw=>dx (Bo n) (args:=[.string (xs.1.extract 1 (xs.1.size - 1))]) (v:=.bool y) (by show (wn n (xs.1.extract 1 (xs.1.size - 1))).bind _=_;rw [h];rfl) hg hn hbw⟩
    · cases h
  · rw [if_neg (by rw [hc'];simp)] at h
    exact (Option.some.inj h).symm
 | false=>
  rw [if_neg (by simp)] at h
  exact Dom.dom1 _ _ n xs.1 y w0 (fun x i w hbw hx=>dx (mw n) (args:=[.string x,.string Dom.dot]) (v:=.int .i64 i) (by show (Ep n x Dom.dot).bind _=_;rw [hx];rfl) hg hn hbw)
   (fun x i w hbw hx=>dx (Pu n) (args:=[.string x]) (v:=.bool i) (by show (qw n x).bind _=_;rw [hx];rfl) hg hn hbw) (hlit false hb) h
def Ql (n:Nat):List Entry:=⟨103,RV (.pair .str .unit) (.one .bool) (fun xs=>vf n xs.1),none,none⟩::lC n
theorem zg (n:Nat):AllOk Tryz.prog gl (Ql n):=.cons (Vt n) (YD n)
def uC (n:Nat) {R:Type} (s:BA) (k:U6→Option R) (kp:Int→Option R):Option R:=
 (KB n s).bind fun x_1=>MV x_1 (fun p=>
 kp p) (fun v=>
 if (decide ((v.1.size:Int)≤(64:Int)))=true then
 (Lf n v.2.1 (⟨#[64]⟩:BA)).bind fun v1=>
 (Xc n v1).bind fun x_2=>MV x_2 (fun p1=>
  kp p1) (fun v2=>
 if 0≤(1:Int)∧(1:Int)≤(v.2.1.size:Int) then
  (Lw n (v.2.1.extract (Int.toNat (1:Int)) (Int.toNat (v.2.1.size:Int)))).bind fun v3=>
  (vf n v3).bind fun v4=>
  (Xc n v4).bind fun x_3=>MV x_3 (fun p2=>
  kp p2) (fun v5=>
  k (v.1,(v3,())))
 else
  none)
 else
 (Xc n false).bind fun x_4=>MV x_4 (fun p3=>
  kp p3) (fun v6=>
 if 0≤(1:Int)∧(1:Int)≤(v.2.1.size:Int) then
  (Lw n (v.2.1.extract (Int.toNat (1:Int)) (Int.toNat (v.2.1.size:Int)))).bind fun v7=>
  (vf n v7).bind fun v8=>
  (Xc n v8).bind fun x_5=>MV x_5 (fun p4=>
  kp p4) (fun v9=>
  k (v.1,(v7,())))
 else
  none))
def UF (n:Nat) (s:BA):Option (Except Int U6):=uC n s (fun y=>some (.ok y)) (fun p=>some (.error p))
theorem uH (n:Nat) {S:Type}:∀ s (φ:_→Option S),(UF n s).bind φ=uC n s (fun y=>φ (.ok y)) (fun p=>φ (.error p)):=by
 intros;unfold UF uC;first | (simp only [ia,ba,iB,bB,oL,oX,nB,Option.bind_some]) | rfl
def zq (n:Nat):Hint Out:={ live:=fun c=>[],run:=fun c=>none,xm:=fun c q=>none }
theorem Zz (n:Nat):sa tys (ea Out (Ql n)) (zq n) n (aa Tryz.f216) 0:=la (fun _=>rfl) _ _ (by kernel_rfl)
theorem QI (n:Nat):Enters Tryz.prog 216:=enters_of (c:=aa Tryz.f216) Tryz.func216 (by kernel_rfl) (by kernel_rfl)
def Fy (n:Nat):Entry:=⟨216,SV 244 (.pair .str .unit) (.one (.pair .str (.pair .str .unit))) (fun xs=>UF n xs.1),none,none⟩
theorem jF (n:Nat):EntryOk Tryz.prog gl (Fy n):=
 uK (QI n) (fun xs y h=>qa tys_ok (zg n) mixed (hint:=zq n) (n:=n) Tryz.func216 (Ra (Zz n)) (oa (φ:=(fun r=>MV r (fun p=>some (Out.pan (ct 244 p))) fun y=>some (Out.ret (Od (.one (.pair .str (.pair .str .unit))) y)))) (by kernel_rfl) (uH n xs.1 _) h))
  (fun xs p h=>qa tys_ok (zg n) mixed (hint:=zq n) (n:=n) Tryz.func216 (Ra (Zz n)) (oa (φ:=(fun r=>MV r (fun p=>some (Out.pan (ct 244 p))) fun y=>some (Out.ret (Od (.one (.pair .str (.pair .str .unit))) y)))) (by kernel_rfl) (uH n xs.1 _) h))
def Aj (n:Nat):List Entry:=Fy n::Ql n
theorem Kw (n:Nat):AllOk Tryz.prog gl (Aj n):=.cons (jF n) (zg n)
def ft (n:Nat) {R:Type} (s:BA) (k:(U6×Int×Unit)→Option R):Option R:=
 (UF n s).bind fun x_1=>MV x_1 (fun p=>
 k (((⟨#[]⟩:BA),((⟨#[]⟩:BA),())),(p,()))) (fun v=>
 k ((v.1,(v.2.1,())),((0:Int),())))
def JB (n:Nat) (s:BA):Option (U6×Int×Unit):=ft n s some
theorem RK (n:Nat) {S:Type}:∀ s (φ:_→Option S),(JB n s).bind φ=ft n s φ:=by
 intros;unfold JB ft;first | (simp only [ia,ba,iB,bB,oL,oX,nB,Option.bind_some]) | rfl
def Wi (n:Nat):Hint Out:={ live:=fun c=>[],run:=fun c=>none,xm:=fun c q=>none,pm:=some [(2,none),(3,none)] }
theorem MF (n:Nat):sa tys (ea Out (Aj n)) (Wi n) n (Ba [0] (aa Tryz.f174)) 0∧sa tys (ea Out (Aj n)) (Wi n) n (Ba [1,1] (aa Tryz.f174)) 0:=⟨trivial,⟨trivial,trivial⟩⟩
theorem mH (n:Nat):Enters Tryz.prog 174:=enters_of (c:=aa Tryz.f174) Tryz.func174 (by kernel_rfl) (by kernel_rfl)
theorem Vz:Tryz.prog.funcs[215]?=some Tryz.f215:=by kernel_rfl
theorem LF:Enters Tryz.prog 215:=enters_of (c:=aa Tryz.f215) Vz (by kernel_rfl) (by kernel_rfl)
theorem WD (n:Nat):sa tys (ea Out (Aj n)) PH n (Ba [1] (aa Tryz.f215)) 0:=⟨⟨trivial,⟨trivial,trivial⟩⟩,⟨trivial,⟨⟨trivial,⟨trivial,trivial⟩⟩,trivial⟩⟩⟩
theorem QK (n:Nat) (s:BA):sV tys (ea Out (Aj n)) (Wi n) n 215 Tryz.f215 Tryz.f174 (DL (.pair .str .unit) (s,())) (rI fun v=>some (.ret v))=ft n s (fun y=>some (.ret (Od (.many (.pair (.pair .str (.pair .str .unit)) (.pair (.int .i64) .unit))) y))):=by kernel_rfl
def Mu (n:Nat):Entry:=⟨174,RV (.pair .str .unit) (.many (.pair (.pair .str (.pair .str .unit)) (.pair (.int .i64) .unit))) (fun xs=>JB n xs.1),none,none⟩
theorem iC (n:Nat):EntryOk Tryz.prog gl (Mu n):=
 Ha (mH n) fun xs y h=>XK tys_ok (Kw n) mixed (hint:=Wi n) (n:=n) (fn:=Tryz.f174) (f2:=Tryz.f215) Tryz.func174 Vz LF (fT (MF n)) (gR (WD n)) (oa (φ:=(fun y=>some (Out.ret (Od (.many (.pair (.pair .str (.pair .str .unit)) (.pair (.int .i64) .unit))) y)))) (QK n xs.1) (RK n xs.1 _) h)
def Nu (n:Nat):List Entry:=Mu n::Aj n
theorem Wt (n:Nat):AllOk Tryz.prog gl (Nu n):=.cons (iC n) (Kw n)
def KF (n:Nat) {R:Type} (m0:U6) (k:Bool→Option R):Option R:=
 (RJ n (m0.1,(m0.2.1,()))).bind fun v=>
 (JB n v).bind fun v1=>
 if (v1.2.1==(0:Int))=true then
 k ((v1.1.1.toList==m0.1.toList)&&((v1.1.2.1.toList==m0.2.1.toList)&&true))
 else
 k false
def kH (n:Nat) (m0:U6):Option Bool:=KF n m0 some
theorem PM (n:Nat) {S:Type}:∀ m0 (φ:_→Option S),(kH n m0).bind φ=KF n m0 φ:=by
 intros;unfold kH KF;first | (simp only [ia,ba,iB,bB,oL,oX,nB,Option.bind_some]) | rfl
def gC (n:Nat):Hint Out:={ live:=fun c=>[],run:=fun c=>none,xm:=fun c q=>none }
theorem NI (n:Nat):sa tys (ea Out (Nu n)) (gC n) n (aa Tryz.f130) 0:=la (fun _=>rfl) _ _ (by kernel_rfl)
theorem PK (n:Nat):Enters Tryz.prog 130:=enters_of (c:=aa Tryz.f130) Tryz.func130 (by kernel_rfl) (by kernel_rfl)
def eC (n:Nat):Entry:=⟨130,RV (.pair (.pair .str (.pair .str .unit)) .unit) (.one .bool) (fun xs=>kH n xs.1),none,none⟩
theorem lH (n:Nat):EntryOk Tryz.prog gl (eC n):=
 Ha (PK n) fun xs y h=>qa tys_ok (Wt n) mixed (hint:=gC n) (n:=n) Tryz.func130 (Ra (NI n)) (oa (φ:=(fun y=>some (Out.ret (Od (.one .bool) y)))) (by kernel_rfl) (PM n xs.1 _) h)
def fC (n:Nat):List Entry:=eC n::Nu n
theorem Uz (n:Nat):AllOk Tryz.prog gl (fC n):=.cons (lH n) (Wt n)
def tv (n:Nat) {R:Type} (r:T0) (k:Bool→Option R):Option R:=
 (kH n (r.1.1,(r.1.2.1,()))).bind fun v=>
 if v=true then
 (Hc n r.2.1 (0:Int) (4:Int)).bind fun v1=>
 if v1=true then
  (Hc n r.2.2.1 (0:Int) (1048576:Int)).bind fun v2=>
  if v2=true then
  (Hc n r.2.2.2.1 (0:Int) (2199023255552:Int)).bind fun v3=>
  if v3=true then
   (Hc n r.2.2.2.2.1 (0:Int) (599:Int)).bind fun v4=>
   k v4
  else
   k false
  else
  k false
 else
  k false
 else
 k false
def sx (n:Nat) (r:T0):Option Bool:=tv n r some
theorem jJ (n:Nat) {S:Type}:∀ r (φ:_→Option S),(sx n r).bind φ=tv n r φ:=by
 intros;unfold sx tv;first | (simp only [ia,ba,iB,bB,oL,oX,nB,Option.bind_some]) | rfl
def lu (n:Nat):Hint Out:={ live:=fun c=>[],run:=fun c=>none,xm:=fun c q=>none }
theorem rE (n:Nat):sa tys (ea Out (fC n)) (lu n) n (aa Tryz.f171) 0:=la (fun _=>rfl) _ _ (by kernel_rfl)
theorem mG (n:Nat):Enters Tryz.prog 171:=enters_of (c:=aa Tryz.f171) Tryz.func171 (by kernel_rfl) (by kernel_rfl)
def Rq (n:Nat):Entry:=⟨171,RV K6 (.one .bool) (fun xs=>sx n xs.1),none,none⟩
theorem gA (n:Nat):EntryOk Tryz.prog gl (Rq n):=
 Ha (mG n) fun xs y h=>qa tys_ok (Uz n) mixed (hint:=lu n) (n:=n) Tryz.func171 (Ra (rE n)) (oa (φ:=(fun y=>some (Out.ret (Od (.one .bool) y)))) (by kernel_rfl) (jJ n xs.1 _) h)
def Yh (n:Nat):List Entry:=Rq n::fC n
theorem Tq (n:Nat):AllOk Tryz.prog gl (Yh n):=.cons (gA n) (Uz n)
def lj (n:Nat) {R:Type} (l1 t7:(Sq T0)) (t8 t9:Int) (seen:(Sq U6)) (kn:(Sq T0)→(Sq T0)→Int→Int→(Sq U6)→Option R) (ko:((Sq T0))→Option R) (kr:(Bool)→Option R) (kp:Int→Option R):Option R:=
 if (decide (t9<t8))=true then
 if 0≤t9∧t9<(t7.n:Int) then
  (sx n (((((t7.at' (Int.toNat t9))).1).1,(((((t7.at' (Int.toNat t9))).1).2).1,())),((((t7.at' (Int.toNat t9))).2).1,(((((t7.at' (Int.toNat t9))).2).2).1,((((((t7.at' (Int.toNat t9))).2).2).2).1,(((((((t7.at' (Int.toNat t9))).2).2).2).2).1,())))))).bind fun v=>
  if (!v)=false then
  if ib (.pair .str (.pair .str .unit)) ((((t7.at' (Int.toNat t9))).1).1,(((((t7.at' (Int.toNat t9))).1).2).1,()))=true then
   if (tF (.pair .str (.pair .str .unit)) seen ((((t7.at' (Int.toNat t9))).1).1,(((((t7.at' (Int.toNat t9))).1).2).1,())))=true then
   kr false
   else
   if ib (.pair .str (.pair .str .unit)) ((((t7.at' (Int.toNat t9))).1).1,(((((t7.at' (Int.toNat t9))).1).2).1,()))=true then
    kn l1 t7 t8 (IntKind.wrap .i64 (t9+(1:Int))) (UB (.pair .str (.pair .str .unit)) seen ((((t7.at' (Int.toNat t9))).1).1,(((((t7.at' (Int.toNat t9))).1).2).1,())))
   else
    none
  else
   none
  else
  kr false
 else
  none
 else
 ko l1
def Qc (n:Nat):Nat→(Sq T0)→(Sq T0)→Int→Int→(Sq U6)→Option (Lx ((Sq T0)) (Bool))
 | 0,_,_,_,_,_=>none
 | m+1,l1,t7,t8,t9,seen=>lj n l1 t7 t8 t9 seen (Qc n m) (fun a=>some (.out a)) (fun a=>some (.ret a)) (fun p=>some (.pan p))
theorem RC (n m:Nat) {S:Type}:∀ l1 t7 t8 t9 seen (φ:_→Option S),(Qc n (m+1) l1 t7 t8 t9 seen).bind φ=lj n l1 t7 t8 t9 seen (fun l1 t7 t8 t9 seen=>(Qc n m l1 t7 t8 t9 seen).bind φ) (fun a=>φ (.out a)) (fun a=>φ (.ret a)) (fun p=>φ (.pan p)):=by
 intros;first | (simp only [Qc,lj,ia,ba,iB,bB,oL,oX,nB,Option.bind_some]) | rfl
def Bi:List Sl:=.dat (.sl K0)::.top::.top::.mp 0::.top::.top::.top::.dat (.sl K0)::.dat (.int .i64)::.dat (.int .i64)::tp 19 []
def Ai:List RS:=[.set 195 (.pair .str (.pair .str .unit))]
def Ht:List Sl:=.dat (.sl K0)::tp 28 []
def Gt:List RS:=[]
def Jt:List Sl:=.top::.top::.dat .bool::tp 26 []
def It:List RS:=[]
def Gc (K:XE→List AV→fa→Option Out):Lx ((Sq T0)) (Bool)→Option Out:=fun x=>LV x (fun a=>ql Ht Gt (a,()) () (K (.exit 0))) (fun a=>ql Jt It (a,()) () (K .ret)) (fun _=>none)
def Uq (n:Nat) {R:Type} (l:(Sq T0)) (k:Bool→Option R):Option R:=
 (Qc n n l l (l.n:Int) (0:Int) (⟨0,fun _=>ra (.pair .str (.pair .str .unit))⟩:Sq U6)).bind fun x_1=>LV x_1
 (fun a_2=>
  (Hc n (a_2.n:Int) (1:Int) (8:Int)).bind fun v1=>
  k v1)
 (fun a_3=>
  k a_3)
 (fun _=>none)
def qt (n:Nat) (l:(Sq T0)):Option Bool:=Uq n l some
theorem aI (n:Nat) {S:Type}:∀ l (φ:_→Option S),(qt n l).bind φ=Uq n l φ:=by
 intros;unfold qt Uq;first | (simp only [ia,ba,iB,bB,oL,oX,nB,Option.bind_some]) | rfl
def Tf (n:Nat):Hint Out:={ live:=fun c=>(cond (Nat.beq c 0) [(0,some (.sl K0)),(3,none),(7,some (.sl K0)),(8,none),(9,none)] []),run:=fun c=>(cond (Nat.beq c 0) (some (sq Bi Ai fun σ ρ K=>(Qc n n σ.1 σ.2.1 σ.2.2.1 σ.2.2.2.1 ρ.1).bind (Gc K))) none),xm:=fun c q=>(cond (Nat.beq c 0&&Nat.beq (q.getD 1000000) 0&&q.isSome) (some [(0,some (.sl K0))]) (cond (Nat.beq c 1&&q.isNone) (some [(2,none)]) none)) }
def Sf (n:Nat) (K:XE→List AV→fa→Option Out) (m:Nat) (l1:(Sq T0)) (t7:(Sq T0)) (t8:Int) (t9:Int) (seen:(Sq U6)):Option Out:=ze tys (ea Out (Yh n)) (Tf n) n (Ba [1,1,0,1,0,0] (aa Tryz.f128)) 0 Bi Ai K m (l1,(t7,(t8,(t9,())))) (seen,())
theorem Vq (n:Nat) (K:XE→List AV→fa→Option Out):∀ (m:Nat) l1 t7 t8 t9 seen,Sf n K m l1 t7 t8 t9 seen=(Qc n m l1 t7 t8 t9 seen).bind (Gc K)
 | 0,_,_,_,_,_=>by kernel_rfl
 | m+1,l1,t7,t8,t9,seen=>by
  have h1:Sf n K (m+1) l1 t7 t8 t9 seen=lj n l1 t7 t8 t9 seen (Sf n K m) (fun a=>Gc K (.out a)) (fun a=>Gc K (.ret a)) (fun p=>Gc K (.pan p)):=by kernel_rfl
  have h2:Sf n K m=fun l1 t7 t8 t9 seen=>(Qc n m l1 t7 t8 t9 seen).bind (Gc K):=by
   repeat (refine funext fun _=>?_)
   exact Vq n K m _ _ _ _ _
  rw [h1,h2];exact (RC n m _ _ _ _ _ (Gc K)).symm
theorem DA (n:Nat):Wd tys (ea Out (Yh n)) (Tf n) n (Ba [1,1,0,1,0,0] (aa Tryz.f128)) 0:=Qa (sp:=Bi) (rp:=Ai) (by kernel_rfl) fun K σ ρ=>Vq n K n σ.1 σ.2.1 σ.2.2.1 σ.2.2.2.1 ρ.1
theorem SC (n:Nat):sa tys (ea Out (Yh n)) (Tf n) n (aa Tryz.f128) 0:=⟨trivial,⟨trivial,⟨⟨trivial,⟨DA n,⟨trivial,⟨⟨trivial,trivial⟩,⟨⟨trivial,⟨⟨trivial,⟨⟨trivial,trivial⟩,trivial⟩⟩,trivial⟩⟩,trivial⟩⟩⟩⟩⟩,⟨trivial,trivial⟩⟩⟩⟩
theorem sE (n:Nat):Enters Tryz.prog 128:=enters_of (c:=aa Tryz.f128) Tryz.func128 (by kernel_rfl) (by kernel_rfl)
def Oo (n:Nat):Entry:=⟨128,RV K7 (.one .bool) (fun xs=>qt n xs.1),none,none⟩
theorem tx (n:Nat):EntryOk Tryz.prog gl (Oo n):=
 Ha (sE n) fun xs y h=>qa tys_ok (Tq n) mixed (hint:=Tf n) (n:=n) Tryz.func128 (Ra (SC n)) (oa (φ:=(fun y=>some (Out.ret (Od (.one .bool) y)))) (by kernel_rfl) (aI n xs.1 _) h)
def Po (n:Nat):List Entry:=Oo n::Yh n
theorem Kp (n:Nat):AllOk Tryz.prog gl (Po n):=.cons (tx n) (Tq n)
def gG (n:Nat) {R:Type} (s sep:BA) (k:(BA×BA×Bool×Unit)→Option R):Option R:=
 (uF s sep).bind fun v=>
 if (decide (v≥(0:Int)))=true then
 if 0≤v∧v≤(s.size:Int) then
  if 0≤(IntKind.wrap .i64 (v+(sep.size:Int)))∧(IntKind.wrap .i64 (v+(sep.size:Int)))≤(s.size:Int) then
  k ((s.extract (Int.toNat (0:Int)) (Int.toNat v)),((s.extract (Int.toNat (IntKind.wrap .i64 (v+(sep.size:Int)))) (Int.toNat (s.size:Int))),(true,())))
  else
  none
 else
  none
 else
 k (s,((⟨#[]⟩:BA),(false,())))
def gK (n:Nat) (s sep:BA):Option (BA×BA×Bool×Unit):=gG n s sep some
theorem VM (n:Nat) {S:Type}:∀ s sep (φ:_→Option S),(gK n s sep).bind φ=gG n s sep φ:=by
 intros;unfold gK gG;first | (simp only [ia,ba,iB,bB,oL,oX,nB,Option.bind_some]) | rfl
def NC (n:Nat):Hint Out:={ live:=fun c=>[],run:=fun c=>none,xm:=fun c q=>none }
theorem gJ (n:Nat):sa tys (ea Out (Po n)) (NC n) n (aa Tryz.f213) 0:=la (fun _=>rfl) _ _ (by kernel_rfl)
theorem gL (n:Nat):Enters Tryz.prog 213:=enters_of (c:=aa Tryz.f213) Tryz.func213 (by kernel_rfl) (by kernel_rfl)
def LC (n:Nat):Entry:=⟨213,RV (.pair .str (.pair .str .unit)) (.many (.pair .str (.pair .str (.pair .bool .unit)))) (fun xs=>gK n xs.1 xs.2.1),none,none⟩
theorem QH (n:Nat):EntryOk Tryz.prog gl (LC n):=
 Ha (gL n) fun xs y h=>qa tys_ok (Kp n) mixed (hint:=NC n) (n:=n) Tryz.func213 (Ra (gJ n)) (oa (φ:=(fun y=>some (Out.ret (Od (.many (.pair .str (.pair .str (.pair .bool .unit)))) y)))) (by kernel_rfl) (VM n xs.1 xs.2.1 _) h)
def MC (n:Nat):List Entry:=LC n::Po n
theorem fA (n:Nat):AllOk Tryz.prog gl (MC n):=.cons (QH n) (Kp n)
def VG (n:Nat) {R:Type} (s sep:BA) (k:(BA×BA×Bool×Unit)→Option R):Option R:=
 (gK n s sep).bind fun v=>
 k (v.1,(v.2.1,(v.2.2.1,())))
def BK (n:Nat) (s sep:BA):Option (BA×BA×Bool×Unit):=VG n s sep some
theorem mN (n:Nat) {S:Type}:∀ s sep (φ:_→Option S),(BK n s sep).bind φ=VG n s sep φ:=by
 intros;unfold BK VG;first | (simp only [ia,ba,iB,bB,oL,oX,nB,Option.bind_some]) | rfl
def GD (n:Nat):Hint Out:={ live:=fun c=>[],run:=fun c=>none,xm:=fun c q=>none }
theorem EJ (n:Nat):sa tys (ea Out (MC n)) (GD n) n (aa Tryz.f172) 0:=la (fun _=>rfl) _ _ (by kernel_rfl)
theorem wL (n:Nat):Enters Tryz.prog 172:=enters_of (c:=aa Tryz.f172) Tryz.func172 (by kernel_rfl) (by kernel_rfl)
def FD (n:Nat):Entry:=⟨172,RV (.pair .str (.pair .str .unit)) (.many (.pair .str (.pair .str (.pair .bool .unit)))) (fun xs=>BK n xs.1 xs.2.1),none,none⟩
theorem wI (n:Nat):EntryOk Tryz.prog gl (FD n):=
 Ha (wL n) fun xs y h=>qa tys_ok (fA n) mixed (hint:=GD n) (n:=n) Tryz.func172 (Ra (EJ n)) (oa (φ:=(fun y=>some (Out.ret (Od (.many (.pair .str (.pair .str (.pair .bool .unit)))) y)))) (by kernel_rfl) (mN n xs.1 xs.2.1 _) h)
def uI (n:Nat):List Entry:=FD n::MC n
theorem vI (n:Nat):AllOk Tryz.prog gl (uI n):=.cons (wI n) (fA n)
def uh (n:Nat):List Entry:=⟨214,RV (.pair .str (.pair .str .unit)) (.one .bool) (fun xs=>RL xs.1 xs.2.1),none,none⟩::uI n
theorem Ui (n:Nat):AllOk Tryz.prog gl (uh n):=.cons cu (vI n)
def jv (n:Nat) {R:Type} (s:BA) (k:Bool→Option R):Option R:=
 if (decide ((s.size:Int)≤(509:Int)))=true then
 (RL s (⟨#[13,10]⟩:BA)).bind fun v=>
 k (!v)
 else
 k false
def Uw (n:Nat) (s:BA):Option Bool:=jv n s some
theorem aJ (n:Nat) {S:Type}:∀ s (φ:_→Option S),(Uw n s).bind φ=jv n s φ:=by
 intros;unfold Uw jv;first | (simp only [ia,ba,iB,bB,oL,oX,nB,Option.bind_some]) | rfl
def du (n:Nat):Hint Out:={ live:=fun c=>[],run:=fun c=>none,xm:=fun c q=>none }
theorem gE (n:Nat):sa tys (ea Out (uh n)) (du n) n (aa Tryz.f173) 0:=la (fun _=>rfl) _ _ (by kernel_rfl)
theorem bG (n:Nat):Enters Tryz.prog 173:=enters_of (c:=aa Tryz.f173) Tryz.func173 (by kernel_rfl) (by kernel_rfl)
def Fq (n:Nat):Entry:=⟨173,RV (.pair .str .unit) (.one .bool) (fun xs=>Uw n xs.1),none,none⟩
theorem bA (n:Nat):EntryOk Tryz.prog gl (Fq n):=
 Ha (bG n) fun xs y h=>qa tys_ok (Ui n) mixed (hint:=du n) (n:=n) Tryz.func173 (Ra (gE n)) (oa (φ:=(fun y=>some (Out.ret (Od (.one .bool) y)))) (by kernel_rfl) (aJ n xs.1 _) h)
def Wh (n:Nat):List Entry:=Fq n::uh n
theorem Gq (n:Nat):AllOk Tryz.prog gl (Wh n):=.cons (bA n) (Ui n)
def Jo (n:Nat) {R:Type} (s1:BA) (kn:BA→Option R) (ko:(Unit)→Option R) (kr:(Bool)→Option R) (kp:Int→Option R):Option R:=
 if (!(s1.toList==(⟨#[]⟩:BA).toList))=true then
 (BK n s1 (⟨#[13,10]⟩:BA)).bind fun v=>
 if (!v.2.2.1)=false then
  (Uw n v.1).bind fun v1=>
  if (!v1)=true then
  kr false
  else
  kn v.2.1
 else
  kr false
 else
 ko ()
def ce (n:Nat):Nat→BA→Option (Lx (Unit) (Bool))
 | 0,_=>none
 | m+1,s1=>Jo n s1 (ce n m) (fun a=>some (.out a)) (fun a=>some (.ret a)) (fun p=>some (.pan p))
theorem cG (n m:Nat) {S:Type}:∀ s1 (φ:_→Option S),(ce n (m+1) s1).bind φ=Jo n s1 (fun s1=>(ce n m s1).bind φ) (fun a=>φ (.out a)) (fun a=>φ (.ret a)) (fun p=>φ (.pan p)):=by
 intros;first | (simp only [ce,Jo,ia,ba,iB,bB,oL,oX,nB,Option.bind_some]) | rfl
def em:List Sl:=.dat .str::tp 24 []
def dm:List RS:=[]
def Yw:List Sl:=tp 25 []
def Xw:List RS:=[]
def cx:List Sl:=.top::.top::.dat .bool::tp 22 []
def Zw:List RS:=[]
def xd (K:XE→List AV→fa→Option Out):Lx (Unit) (Bool)→Option Out:=fun x=>LV x (fun a=>ql Yw Xw () () (K (.exit 0))) (fun a=>ql cx Zw (a,()) () (K .ret)) (fun _=>none)
def Ly (n:Nat) {R:Type} (s:BA) (k:Bool→Option R):Option R:=
 if (decide ((s.size:Int)>(8192:Int)))=true then
 k false
 else
 (ce n n s).bind fun x_1=>LV x_1
  (fun a_2=>
  k true)
  (fun a_3=>
  k a_3)
  (fun _=>none)
def Vw (n:Nat) (s:BA):Option Bool:=Ly n s some
theorem cL (n:Nat) {S:Type}:∀ s (φ:_→Option S),(Vw n s).bind φ=Ly n s φ:=by
 intros;unfold Vw Ly;first | (simp only [ia,ba,iB,bB,oL,oX,nB,Option.bind_some]) | rfl
def jj (n:Nat):Hint Out:={ live:=fun c=>(cond (Nat.beq c 0) [(0,none)] []),run:=fun c=>(cond (Nat.beq c 0) (some (sq em dm fun σ ρ K=>(ce n n σ.1).bind (xd K))) none),xm:=fun c q=>(cond (Nat.beq c 0&&Nat.beq (q.getD 1000000) 0&&q.isSome) (some []) (cond (Nat.beq c 1&&q.isNone) (some [(2,none)]) none)) }
def ij (n:Nat) (K:XE→List AV→fa→Option Out) (m:Nat) (s1:BA):Option Out:=ze tys (ea Out (Wh n)) (jj n) n (Ba [1,1,0,0,0] (aa Tryz.f129)) 0 em dm K m (s1,()) ()
theorem Ww (n:Nat) (K:XE→List AV→fa→Option Out):∀ (m:Nat) s1,ij n K m s1=(ce n m s1).bind (xd K)
 | 0,_=>by kernel_rfl
 | m+1,s1=>by
  have h1:ij n K (m+1) s1=Jo n s1 (ij n K m) (fun a=>xd K (.out a)) (fun a=>xd K (.ret a)) (fun p=>xd K (.pan p)):=by kernel_rfl
  have h2:ij n K m=fun s1=>(ce n m s1).bind (xd K):=by
   repeat (refine funext fun _=>?_)
   exact Ww n K m _
  rw [h1,h2];exact (cG n m _ (xd K)).symm
theorem iE (n:Nat):Wd tys (ea Out (Wh n)) (jj n) n (Ba [1,1,0,0,0] (aa Tryz.f129)) 0:=Qa (sp:=em) (rp:=dm) (by kernel_rfl) fun K σ ρ=>Ww n K n σ.1
theorem dG (n:Nat):sa tys (ea Out (Wh n)) (jj n) n (aa Tryz.f129) 0:=⟨trivial,⟨⟨trivial,⟨⟨trivial,trivial⟩,trivial⟩⟩,⟨⟨iE n,⟨⟨trivial,⟨trivial,trivial⟩⟩,⟨trivial,⟨⟨trivial,⟨⟨trivial,trivial⟩,trivial⟩⟩,trivial⟩⟩⟩⟩,⟨trivial,trivial⟩⟩⟩⟩
theorem EH (n:Nat):Enters Tryz.prog 129:=enters_of (c:=aa Tryz.f129) Tryz.func129 (by kernel_rfl) (by kernel_rfl)
def mv (n:Nat):Entry:=⟨129,RV (.pair .str .unit) (.one .bool) (fun xs=>Vw n xs.1),none,none⟩
theorem EC (n:Nat):EntryOk Tryz.prog gl (mv n):=
 Ha (EH n) fun xs y h=>qa tys_ok (Gq n) mixed (hint:=jj n) (n:=n) Tryz.func129 (Ra (dG n)) (oa (φ:=(fun y=>some (Out.ret (Od (.one .bool) y)))) (by kernel_rfl) (cL n xs.1 _) h)
def nv (n:Nat):List Entry:=mv n::Wh n
theorem eu (n:Nat):AllOk Tryz.prog gl (nv n):=.cons (EC n) (Gq n)
def Uy (n:Nat) {R:Type} (m0:T1) (k:Bool→Option R):Option R:=
 (Hc n m0.1 (1:Int) (1099511627776:Int)).bind fun v=>
 if (!v)=false then
 (Hc n m0.2.1 (0:Int) (3:Int)).bind fun v1=>
 if (!v1)=false then
  (Hc n m0.2.2.2.2.2.2.1 (0:Int) (1099511627776:Int)).bind fun v2=>
  if (!v2)=false then
  (qt n m0.2.2.2.2.1).bind fun v3=>
  if (!v3)=true then
   k false
  else
   if m0.2.2.1=true then
   if ((m0.2.2.2.1.1.toList==(⟨#[]⟩:BA).toList)&&((m0.2.2.2.1.2.1.toList==(⟨#[]⟩:BA).toList)&&true))=true then
    (Vw n m0.2.2.2.2.2.1).bind fun v4=>
    k v4
   else
    k false
   else
   (kH n (m0.2.2.2.1.1,(m0.2.2.2.1.2.1,()))).bind fun v5=>
   if v5=true then
    (Vw n m0.2.2.2.2.2.1).bind fun v6=>
    k v6
   else
    k false
  else
  k false
 else
  k false
 else
 k false
def QB (n:Nat) (m0:T1):Option Bool:=Uy n m0 some
theorem mL (n:Nat) {S:Type}:∀ m0 (φ:_→Option S),(QB n m0).bind φ=Uy n m0 φ:=by
 intros;unfold QB Uy;first | (simp only [ia,ba,iB,bB,oL,oX,nB,Option.bind_some]) | rfl
def qx (n:Nat):Hint Out:={ live:=fun c=>[],run:=fun c=>none,xm:=fun c q=>none }
theorem lG (n:Nat):sa tys (ea Out (nv n)) (qx n) n (aa Tryz.f91) 0:=la (fun _=>rfl) _ _ (by kernel_rfl)
theorem YH (n:Nat):Enters Tryz.prog 91:=enters_of (c:=aa Tryz.f91) Tryz.func91 (by kernel_rfl) (by kernel_rfl)
def sv (n:Nat):Entry:=⟨91,RV K8 (.one .bool) (fun xs=>QB n xs.1),none,none⟩
theorem PC (n:Nat):EntryOk Tryz.prog gl (sv n):=
 Ha (YH n) fun xs y h=>qa tys_ok (eu n) mixed (hint:=qx n) (n:=n) Tryz.func91 (Ra (lG n)) (oa (φ:=(fun y=>some (Out.ret (Od (.one .bool) y)))) (by kernel_rfl) (mL n xs.1 _) h)
def Wj (n:Nat):List Entry:=sv n::nv n
theorem ku (n:Nat):AllOk Tryz.prog gl (Wj n):=.cons (PC n) (eu n)
def sf (n:Nat) {R:Type} (n0:Int) (t6:(Sq T1)) (t7 t8:Int) (kn:Int→(Sq T1)→Int→Int→Option R) (ko:(Int)→Option R) (kr:Unit→Option R) (kp:Int→Option R):Option R:=
 if (decide (t8<t7))=true then
 if 0≤t8∧t8<(t6.n:Int) then
  if (!(((((t6.at' (Int.toNat t8))).2).2).1))=true then
  kn (IntKind.wrap .i64 (n0+(1:Int))) t6 t7 (IntKind.wrap .i64 (t8+(1:Int)))
  else
  kn n0 t6 t7 (IntKind.wrap .i64 (t8+(1:Int)))
 else
  none
 else
 ko n0
def ub (n:Nat):Nat→Int→(Sq T1)→Int→Int→Option (Lx (Int) Unit)
 | 0,_,_,_,_=>none
 | m+1,n0,t6,t7,t8=>sf n n0 t6 t7 t8 (ub n m) (fun a=>some (.out a)) (fun a=>some (.ret a)) (fun p=>some (.pan p))
theorem ey (n m:Nat) {S:Type}:∀ n0 t6 t7 t8 (φ:_→Option S),(ub n (m+1) n0 t6 t7 t8).bind φ=sf n n0 t6 t7 t8 (fun n0 t6 t7 t8=>(ub n m n0 t6 t7 t8).bind φ) (fun a=>φ (.out a)) (fun a=>φ (.ret a)) (fun p=>φ (.pan p)):=by
 intros;first | (simp only [ub,sf,ia,ba,iB,bB,oL,oX,nB,Option.bind_some]) | rfl
def Ff:List Sl:=.top::.top::.dat (.int .i64)::.top::.top::.top::.dat (.sl K3)::.dat (.int .i64)::.dat (.int .i64)::tp 10 []
def Ef:List RS:=[]
def Ap:List Sl:=.top::.top::.dat (.int .i64)::tp 16 []
def zp:List RS:=[]
def mb (K:XE→List AV→fa→Option Out):Lx (Int) Unit→Option Out:=fun x=>LV x (fun a=>ql Ap zp (a,()) () (K (.exit 0))) (fun _=>none) (fun _=>none)
def Jk (n:Nat) {R:Type} (s:U7) (k:Int→Option R):Option R:=
 (ub n n (0:Int) s.2.1 (s.2.1.n:Int) (0:Int)).bind fun x_1=>LV x_1
 (fun a_2=>
  k a_2)
 (fun _=>none)
 (fun _=>none)
def wj (n:Nat) (s:U7):Option Int:=Jk n s some
theorem CD (n:Nat) {S:Type}:∀ s (φ:_→Option S),(wj n s).bind φ=Jk n s φ:=by
 intros;unfold wj Jk;first | (simp only [ia,ba,iB,bB,oL,oX,nB,Option.bind_some]) | rfl
def Vd (n:Nat):Hint Out:={ live:=fun c=>(cond (Nat.beq c 0) [(2,none),(6,some (.sl K3)),(7,none),(8,none)] []),run:=fun c=>(cond (Nat.beq c 0) (some (sq Ff Ef fun σ ρ K=>(ub n n σ.1 σ.2.1 σ.2.2.1 σ.2.2.2.1).bind (mb K))) none),xm:=fun c q=>(cond (Nat.beq c 0&&Nat.beq (q.getD 1000000) 0&&q.isSome) (some [(2,none)]) none) }
def Ud (n:Nat) (K:XE→List AV→fa→Option Out) (m:Nat) (n0:Int) (t6:(Sq T1)) (t7:Int) (t8:Int):Option Out:=ze tys (ea Out (Wj n)) (Vd n) n (Ba [1,0,1,0,0] (aa Tryz.f102)) 0 Ff Ef K m (n0,(t6,(t7,(t8,())))) ()
theorem Ml (n:Nat) (K:XE→List AV→fa→Option Out):∀ (m:Nat) n0 t6 t7 t8,Ud n K m n0 t6 t7 t8=(ub n m n0 t6 t7 t8).bind (mb K)
 | 0,_,_,_,_=>by kernel_rfl
 | m+1,n0,t6,t7,t8=>by
  have h1:Ud n K (m+1) n0 t6 t7 t8=sf n n0 t6 t7 t8 (Ud n K m) (fun a=>mb K (.out a)) (fun a=>mb K (.ret a)) (fun p=>mb K (.pan p)):=by kernel_rfl
  have h2:Ud n K m=fun n0 t6 t7 t8=>(ub n m n0 t6 t7 t8).bind (mb K):=by
   repeat (refine funext fun _=>?_)
   exact Ml n K m _ _ _ _
  rw [h1,h2];exact (ey n m _ _ _ _ (mb K)).symm
theorem jw (n:Nat):Wd tys (ea Out (Wj n)) (Vd n) n (Ba [1,0,1,0,0] (aa Tryz.f102)) 0:=Qa (sp:=Ff) (rp:=Ef) (by kernel_rfl) fun K σ ρ=>Ml n K n σ.1 σ.2.1 σ.2.2.1 σ.2.2.2.1
theorem fy (n:Nat):sa tys (ea Out (Wj n)) (Vd n) n (aa Tryz.f102) 0:=⟨trivial,⟨⟨trivial,⟨jw n,⟨trivial,⟨⟨trivial,trivial⟩,⟨⟨trivial,⟨trivial,⟨trivial,trivial⟩⟩⟩,trivial⟩⟩⟩⟩⟩,⟨trivial,trivial⟩⟩⟩
theorem Jz (n:Nat):Enters Tryz.prog 102:=enters_of (c:=aa Tryz.f102) Tryz.func102 (by kernel_rfl) (by kernel_rfl)
def Ii (n:Nat):Entry:=⟨102,RV GU (.one (.int .i64)) (fun xs=>wj n xs.1),none,none⟩
theorem gq (n:Nat):EntryOk Tryz.prog gl (Ii n):=
 Ha (Jz n) fun xs y h=>qa tys_ok (ku n) mixed (hint:=Vd n) (n:=n) Tryz.func102 (Ra (fy n)) (oa (φ:=(fun y=>some (Out.ret (Od (.one (.int .i64)) y)))) (by kernel_rfl) (CD n xs.1 _) h)
def Ld (n:Nat):List Entry:=Ii n::Wj n
theorem Kk (n:Nat):AllOk Tryz.prog gl (Ld n):=.cons (gq n) (ku n)
def Ll (n:Nat) {R:Type} (last:Int) (t7:(Sq T1)) (t8 t9 s1:Int) (s2:(Sq T1)) (kn:Int→(Sq T1)→Int→Int→Int→(Sq T1)→Option R) (ko:(Int×(Sq T1))→Option R) (kr:(Bool)→Option R) (kp:Int→Option R):Option R:=
 if (decide (t9<t8))=true then
 if 0≤t9∧t9<(t7.n:Int) then
  (QB n (((t7.at' (Int.toNat t9))).1,((((t7.at' (Int.toNat t9))).2).1,(((((t7.at' (Int.toNat t9))).2).2).1,((((((((t7.at' (Int.toNat t9))).2).2).2).1).1,((((((((t7.at' (Int.toNat t9))).2).2).2).1).2).1,())),((((((((t7.at' (Int.toNat t9))).2).2).2).2).1),((((((((t7.at' (Int.toNat t9))).2).2).2).2).2).1,(((((((((t7.at' (Int.toNat t9))).2).2).2).2).2).2).1,((((((((((t7.at' (Int.toNat t9))).2).2).2).2).2).2).2).1,(((((((((((t7.at' (Int.toNat t9))).2).2).2).2).2).2).2).2).1,())))))))))).bind fun v=>
  if (!v)=false then
  if (decide ((((t7.at' (Int.toNat t9))).1)≤last))=false then
   if (decide ((((t7.at' (Int.toNat t9))).1)≥s1))=true then
   kr false
   else
   kn (((t7.at' (Int.toNat t9))).1) t7 t8 (IntKind.wrap .i64 (t9+(1:Int))) s1 s2
  else
   kr false
  else
  kr false
 else
  none
 else
 ko (s1,s2)
def sd (n:Nat):Nat→Int→(Sq T1)→Int→Int→Int→(Sq T1)→Option (Lx (Int×(Sq T1)) (Bool))
 | 0,_,_,_,_,_,_=>none
 | m+1,last,t7,t8,t9,s1,s2=>Ll n last t7 t8 t9 s1 s2 (sd n m) (fun a=>some (.out a)) (fun a=>some (.ret a)) (fun p=>some (.pan p))
theorem TE (n m:Nat) {S:Type}:∀ last t7 t8 t9 s1 s2 (φ:_→Option S),(sd n (m+1) last t7 t8 t9 s1 s2).bind φ=Ll n last t7 t8 t9 s1 s2 (fun last t7 t8 t9 s1 s2=>(sd n m last t7 t8 t9 s1 s2).bind φ) (fun a=>φ (.out a)) (fun a=>φ (.ret a)) (fun p=>φ (.pan p)):=by
 intros;first | (simp only [sd,Ll,ia,ba,iB,bB,oL,oX,nB,Option.bind_some]) | rfl
def Ik:List Sl:=.top::.ptr 0 0 0::.top::.dat (.int .i64)::.top::.top::.top::.dat (.sl K3)::.dat (.int .i64)::.dat (.int .i64)::tp 41 []
def Hk:List RS:=[.box 24 2 true [.dat (.int .i64),.dat (.sl K3)]]
def fw:List Sl:=.top::.ptr 0 0 0::tp 49 []
def ew:List RS:=[.box 24 2 true [.dat (.int .i64),.dat (.sl K3)]]
def iw:List Sl:=.top::.top::.dat .bool::tp 48 []
def gw:List RS:=[]
def Zc (K:XE→List AV→fa→Option Out):Lx (Int×(Sq T1)) (Bool)→Option Out:=fun x=>LV x (fun a=>ql fw ew () ((a.1,(a.2,())),()) (K (.exit 0))) (fun a=>ql iw gw (a,()) () (K .ret)) (fun _=>none)
def dw (n:Nat) {R:Type} (s:U7) (k:Bool→Option R):Option R:=
 (sd n n (0:Int) s.2.1 (s.2.1.n:Int) (0:Int) s.1 s.2.1).bind fun x_1=>LV x_1
 (fun a_2=>
  if (decide (a_2.1≥(1:Int)))=true then
  if (decide (a_2.1≤(1099511627776:Int)))=true then
   if (decide ((a_2.2.n:Int)≤(128:Int)))=true then
   (wj n (a_2.1,(a_2.2,()))).bind fun v1=>
   k (decide (v1≤(64:Int)))
   else
   k false
  else
   k false
  else
  k false)
 (fun a_3=>
  k a_3)
 (fun _=>none)
def wi (n:Nat) (s:U7):Option Bool:=dw n s some
theorem DJ (n:Nat) {S:Type}:∀ s (φ:_→Option S),(wi n s).bind φ=dw n s φ:=by
 intros;unfold wi dw;first | (simp only [ia,ba,iB,bB,oL,oX,nB,Option.bind_some]) | rfl
def Th (n:Nat):Hint Out:={ live:=fun c=>(cond (Nat.beq c 0) [(1,none),(3,none),(7,some (.sl K3)),(8,none),(9,none)] []),run:=fun c=>(cond (Nat.beq c 0) (some (sq Ik Hk fun σ ρ K=>(sd n n σ.1 σ.2.1 σ.2.2.1 σ.2.2.2.1 ρ.1.1 ρ.1.2.1).bind (Zc K))) none),xm:=fun c q=>(cond (Nat.beq c 0&&Nat.beq (q.getD 1000000) 0&&q.isSome) (some [(1,none)]) (cond (Nat.beq c 1&&q.isNone) (some [(2,none)]) none)) }
def Sh (n:Nat) (K:XE→List AV→fa→Option Out) (m:Nat) (last:Int) (t7:(Sq T1)) (t8:Int) (t9:Int) (s1:Int) (s2:(Sq T1)):Option Out:=ze tys (ea Out (Ld n)) (Th n) n (Ba [1,1,0,1,0,0] (aa Tryz.f61)) 0 Ik Hk K m (last,(t7,(t8,(t9,())))) ((s1,(s2,())),())
theorem Hu (n:Nat) (K:XE→List AV→fa→Option Out):∀ (m:Nat) last t7 t8 t9 s1 s2,Sh n K m last t7 t8 t9 s1 s2=(sd n m last t7 t8 t9 s1 s2).bind (Zc K)
 | 0,_,_,_,_,_,_=>by kernel_rfl
 | m+1,last,t7,t8,t9,s1,s2=>by
  have h1:Sh n K (m+1) last t7 t8 t9 s1 s2=Ll n last t7 t8 t9 s1 s2 (Sh n K m) (fun a=>Zc K (.out a)) (fun a=>Zc K (.ret a)) (fun p=>Zc K (.pan p)):=by kernel_rfl
  have h2:Sh n K m=fun last t7 t8 t9 s1 s2=>(sd n m last t7 t8 t9 s1 s2).bind (Zc K):=by
   repeat (refine funext fun _=>?_)
   exact Hu n K m _ _ _ _ _ _
  rw [h1,h2];exact (TE n m _ _ _ _ _ _ (Zc K)).symm
theorem BD (n:Nat):Wd tys (ea Out (Ld n)) (Th n) n (Ba [1,1,0,1,0,0] (aa Tryz.f61)) 0:=Qa (sp:=Ik) (rp:=Hk) (by kernel_rfl) fun K σ ρ=>Hu n K n σ.1 σ.2.1 σ.2.2.1 σ.2.2.2.1 ρ.1.1 ρ.1.2.1
theorem UE (n:Nat):sa tys (ea Out (Ld n)) (Th n) n (aa Tryz.f61) 0:=⟨trivial,⟨trivial,⟨⟨trivial,⟨BD n,⟨trivial,⟨⟨trivial,trivial⟩,⟨⟨trivial,⟨⟨trivial,⟨⟨trivial,trivial⟩,trivial⟩⟩,trivial⟩⟩,trivial⟩⟩⟩⟩⟩,⟨trivial,trivial⟩⟩⟩⟩
theorem SG (n:Nat):Enters Tryz.prog 61:=enters_of (c:=aa Tryz.f61) Tryz.func61 (by kernel_rfl) (by kernel_rfl)
def Ps (n:Nat):Entry:=⟨61,RV GU (.one .bool) (fun xs=>wi n xs.1),none,none⟩
theorem sA (n:Nat):EntryOk Tryz.prog gl (Ps n):=
 Ha (SG n) fun xs y h=>qa tys_ok (Kk n) mixed (hint:=Th n) (n:=n) Tryz.func61 (Ra (UE n)) (oa (φ:=(fun y=>some (Out.ret (Od (.one .bool) y)))) (by kernel_rfl) (DJ n xs.1 _) h)
def Qs (n:Nat):List Entry:=Ps n::Ld n
theorem Rs (n:Nat):AllOk Tryz.prog gl (Qs n):=.cons (sA n) (Kk n)
def zi (n:Nat) {R:Type} (n0 least most:Int) (k:Bool→Option R):Option R:=
 if (decide (n0≥least))=true then
 k (decide (n0≤most))
 else
 k false
def Md (n:Nat) (n0 least most:Int):Option Bool:=zi n n0 least most some
theorem wA (n:Nat) {S:Type}:∀ n0 least most (φ:_→Option S),(Md n n0 least most).bind φ=zi n n0 least most φ:=by
 intros;unfold Md zi;first | (simp only [ia,ba,iB,bB,oL,oX,nB,Option.bind_some]) | rfl
def Nj (n:Nat):Hint Out:={ live:=fun c=>[],run:=fun c=>none,xm:=fun c q=>none }
theorem fv (n:Nat):sa tys (ea Out (Qs n)) (Nj n) n (aa Tryz.f155) 0:=la (fun _=>rfl) _ _ (by kernel_rfl)
theorem Sw (n:Nat):Enters Tryz.prog 155:=enters_of (c:=aa Tryz.f155) Tryz.func155 (by kernel_rfl) (by kernel_rfl)
def Bg (n:Nat):Entry:=⟨155,RV (.pair (.int .i64) (.pair (.int .i64) (.pair (.int .i64) .unit))) (.one .bool) (fun xs=>Md n xs.1 xs.2.1 xs.2.2.1),none,none⟩
theorem zn (n:Nat):EntryOk Tryz.prog gl (Bg n):=
 Ha (Sw n) fun xs y h=>qa tys_ok (Rs n) mixed (hint:=Nj n) (n:=n) Tryz.func155 (Ra (fv n)) (oa (φ:=(fun y=>some (Out.ret (Od (.one .bool) y)))) (by kernel_rfl) (wA n xs.1 xs.2.1 xs.2.2.1 _) h)
def yn (n:Nat):List Entry:=Bg n::Qs n
theorem Et (n:Nat):AllOk Tryz.prog gl (yn n):=.cons (zn n) (Rs n)
theorem Ro:Tryz.prog.funcs[116]?=some Tryz.f116:=by kernel_rfl
theorem Uf:EntryOk Tryz.prog gl ⟨116,Ae,some (.flat dt),none⟩:=lE Ro (by kernel_rfl) (by kernel_rfl) (by kernel_rfl) (by kernel_rfl)
def Ad (n:Nat):List Entry:=⟨116,Ae,some (.flat dt),none⟩::yn n
theorem He (n:Nat):AllOk Tryz.prog gl (Ad n):=.cons Uf (Et n)
def Vy (n:Nat) {R:Type} (k:Nat→Option R):Option R:=
 k (Int.toNat (9221120237041090561:Int))
def So (n:Nat):Option Nat:=Vy n some
theorem nL (n:Nat) {S:Type}:∀ (φ:_→Option S),(So n).bind φ=Vy n φ:=by
 intros;unfold So Vy;first | (simp only [ia,ba,iB,bB,oL,oX,nB,Option.bind_some]) | rfl
def yx (n:Nat):Hint Out:={ live:=fun c=>[],run:=fun c=>none,xm:=fun c q=>none }
theorem pG (n:Nat):sa tys (ea Out (Ad n)) (yx n) n (aa Tryz.f78) 0:=la (fun _=>rfl) _ _ (by kernel_rfl)
theorem cI (n:Nat):Enters Tryz.prog 78:=enters_of (c:=aa Tryz.f78) Tryz.func78 (by kernel_rfl) (by kernel_rfl)
def vv (n:Nat):Entry:=⟨78,RV .unit (.one (.flt .f64)) (fun xs=>So n),none,none⟩
theorem VC (n:Nat):EntryOk Tryz.prog gl (vv n):=
 Ha (cI n) fun xs y h=>qa tys_ok (He n) mixed (hint:=yx n) (n:=n) Tryz.func78 (Ra (pG n)) (oa (φ:=(fun y=>some (Out.ret (Od (.one (.flt .f64)) y)))) (by kernel_rfl) (nL n  _) h)
def UC (n:Nat):List Entry:=vv n::Ad n
theorem tE (n:Nat):AllOk Tryz.prog gl (UC n):=.cons (VC n) (He n)
theorem uv:Tryz.prog.funcs[219]?=some Tryz.f219:=by kernel_rfl
theorem Xj:EntryOk Tryz.prog gl ⟨219,Ae,some (.flat HM),none⟩:=ZK uv (by kernel_rfl) (by kernel_rfl) (by kernel_rfl) (by kernel_rfl)
def Af (n:Nat):List Entry:=⟨219,Ae,some (.flat HM),none⟩::UC n
theorem yg (n:Nat):AllOk Tryz.prog gl (Af n):=.cons Xj (tE n)
def Nv (n:Nat) {R:Type} (x:Nat) (k:Int→Option R):Option R:=
 if ((FloatKind.format .f64).order x x !=some .eq)=true then
 k (18446744073709551615:Int)
 else
 if (decide ((nI x)<(9223372036854775808:Int)))=true then
  k (bits .or .u64 (nI x) (9223372036854775808:Int))
 else
  k (bits .xor .u64 (IntKind.max .u64) (nI x))
def ws (n:Nat) (x:Nat):Option Int:=Nv n x some
theorem xJ (n:Nat) {S:Type}:∀ x (φ:_→Option S),(ws n x).bind φ=Nv n x φ:=by
 intros;unfold ws Nv;first | (simp only [ia,ba,iB,bB,oL,oX,nB,Option.bind_some]) | rfl
def Cu (n:Nat):Hint Out:={ live:=fun c=>[],run:=fun c=>none,xm:=fun c q=>none }
theorem LE (n:Nat):sa tys (ea Out (Af n)) (Cu n) n (aa Tryz.f257) 0:=la (fun _=>rfl) _ _ (by kernel_rfl)
theorem NG (n:Nat):Enters Tryz.prog 257:=enters_of (c:=aa Tryz.f257) Tryz.func257 (by kernel_rfl) (by kernel_rfl)
def As (n:Nat):Entry:=⟨257,RV (.pair (.flt .f64) .unit) (.one (.int .u64)) (fun xs=>ws n xs.1),none,none⟩
theorem oA (n:Nat):EntryOk Tryz.prog gl (As n):=
 Ha (NG n) fun xs y h=>qa tys_ok (yg n) mixed (hint:=Cu n) (n:=n) Tryz.func257 (Ra (LE n)) (oa (φ:=(fun y=>some (Out.ret (Od (.one (.int .u64)) y)))) (by kernel_rfl) (xJ n xs.1 _) h)
def Bs (n:Nat):List Entry:=As n::Af n
theorem Cs (n:Nat):AllOk Tryz.prog gl (Bs n):=.cons (oA n) (yg n)
def Az (n:Nat) {R:Type} (a b:Nat) (k:Int→Option R):Option R:=
 (ws n a).bind fun v=>
 (ws n b).bind fun v1=>
 if (decide (v<v1))=true then
 k (-1:Int)
 else
 if (decide (v>v1))=true then
  k (1:Int)
 else
  k (0:Int)
def xp (n:Nat) (a b:Nat):Option Int:=Az n a b some
theorem sL (n:Nat) {S:Type}:∀ a b (φ:_→Option S),(xp n a b).bind φ=Az n a b φ:=by
 intros;unfold xp Az;first | (simp only [ia,ba,iB,bB,oL,oX,nB,Option.bind_some]) | rfl
def Xx (n:Nat):Hint Out:={ live:=fun c=>[],run:=fun c=>none,xm:=fun c q=>none }
theorem OG (n:Nat):sa tys (ea Out (Bs n)) (Xx n) n (aa Tryz.f231) 0:=la (fun _=>rfl) _ _ (by kernel_rfl)
theorem oI (n:Nat):Enters Tryz.prog 231:=enters_of (c:=aa Tryz.f231) Tryz.func231 (by kernel_rfl) (by kernel_rfl)
def Ov (n:Nat):Entry:=⟨231,RV (.pair (.flt .f64) (.pair (.flt .f64) .unit)) (.one (.int .i64)) (fun xs=>xp n xs.1 xs.2.1),none,none⟩
theorem zD (n:Nat):EntryOk Tryz.prog gl (Ov n):=
 Ha (oI n) fun xs y h=>qa tys_ok (Cs n) mixed (hint:=Xx n) (n:=n) Tryz.func231 (Ra (OG n)) (oa (φ:=(fun y=>some (Out.ret (Od (.one (.int .i64)) y)))) (by kernel_rfl) (sL n xs.1 xs.2.1 _) h)
def Pv (n:Nat):List Entry:=Ov n::Bs n
theorem Du (n:Nat):AllOk Tryz.prog gl (Pv n):=.cons (zD n) (Cs n)
def Ds (n:Nat) {R:Type} (x low high:Nat) (k:Nat→Option R):Option R:=
 if ((FloatKind.format .f64).order x x !=some .eq)=false then
 if ((FloatKind.format .f64).order low low !=some .eq)=false then
  if ((FloatKind.format .f64).order high high !=some .eq)=true then
  (So n).bind fun v=>
  k v
  else
  (xp n x low).bind fun v1=>
  if (decide (v1<(0:Int)))=false then
   (xp n low high).bind fun v2=>
   if (decide (v2>(0:Int)))=true then
   k low
   else
   (xp n x high).bind fun v3=>
   if (decide (v3>(0:Int)))=true then
    k high
   else
    k x
  else
   k low
 else
  (So n).bind fun v4=>
  k v4
 else
 (So n).bind fun v5=>
 k v5
def vt (n:Nat) (x low high:Nat):Option Nat:=Ds n x low high some
theorem mI (n:Nat) {S:Type}:∀ x low high (φ:_→Option S),(vt n x low high).bind φ=Ds n x low high φ:=by
 intros;unfold vt Ds;first | (simp only [ia,ba,iB,bB,oL,oX,nB,Option.bind_some]) | rfl
def Es (n:Nat):Hint Out:={ live:=fun c=>[],run:=fun c=>none,xm:=fun c q=>none }
theorem yD (n:Nat):sa tys (ea Out (Pv n)) (Es n) n (aa Tryz.f200) 0:=la (fun _=>rfl) _ _ (by kernel_rfl)
theorem ME (n:Nat):Enters Tryz.prog 200:=enters_of (c:=aa Tryz.f200) Tryz.func200 (by kernel_rfl) (by kernel_rfl)
def qp (n:Nat):Entry:=⟨200,RV (.pair (.flt .f64) (.pair (.flt .f64) (.pair (.flt .f64) .unit))) (.one (.flt .f64)) (fun xs=>vt n xs.1 xs.2.1 xs.2.2.1),none,none⟩
theorem Wx (n:Nat):EntryOk Tryz.prog gl (qp n):=
 Ha (ME n) fun xs y h=>qa tys_ok (Du n) mixed (hint:=Es n) (n:=n) Tryz.func200 (Ra (yD n)) (oa (φ:=(fun y=>some (Out.ret (Od (.one (.flt .f64)) y)))) (by kernel_rfl) (mI n xs.1 xs.2.1 xs.2.2.1 _) h)
def vp (n:Nat):List Entry:=qp n::Pv n
theorem fq (n:Nat):AllOk Tryz.prog gl (vp n):=.cons (Wx n) (Du n)
def Qv (n:Nat) {R:Type} (a b:Nat) (k:Bool→Option R):Option R:=
 (xp n a b).bind fun v=>
 k (v==(0:Int))
def Yx (n:Nat) (a b:Nat):Option Bool:=Qv n a b some
theorem yJ (n:Nat) {S:Type}:∀ a b (φ:_→Option S),(Yx n a b).bind φ=Qv n a b φ:=by
 intros;unfold Yx Qv;first | (simp only [ia,ba,iB,bB,oL,oX,nB,Option.bind_some]) | rfl
def Eu (n:Nat):Hint Out:={ live:=fun c=>[],run:=fun c=>none,xm:=fun c q=>none }
theorem NE (n:Nat):sa tys (ea Out (vp n)) (Eu n) n (aa Tryz.f199) 0:=la (fun _=>rfl) _ _ (by kernel_rfl)
theorem PG (n:Nat):Enters Tryz.prog 199:=enters_of (c:=aa Tryz.f199) Tryz.func199 (by kernel_rfl) (by kernel_rfl)
def Fs (n:Nat):Entry:=⟨199,RV (.pair (.flt .f64) (.pair (.flt .f64) .unit)) (.one .bool) (fun xs=>Yx n xs.1 xs.2.1),none,none⟩
theorem pA (n:Nat):EntryOk Tryz.prog gl (Fs n):=
 Ha (PG n) fun xs y h=>qa tys_ok (fq n) mixed (hint:=Eu n) (n:=n) Tryz.func199 (Ra (NE n)) (oa (φ:=(fun y=>some (Out.ret (Od (.one .bool) y)))) (by kernel_rfl) (yJ n xs.1 xs.2.1 _) h)
def Gs (n:Nat):List Entry:=Fs n::vp n
theorem Hs (n:Nat):AllOk Tryz.prog gl (Gs n):=.cons (pA n) (fq n)
def Iq (n:Nat) {R:Type} (h:(Nat×eV)) (k:Bool→Option R):Option R:=
 if (h.2.1==(0:Int))=true then
 k ((FloatKind.format .f64).order h.1 h.1 !=some .eq)
 else
 if (decide (h.2.1>(0:Int)))=true then
  if (decide (h.2.1≤(1099511627776:Int)))=true then
  (vt n h.1 0 4607182418800017408).bind fun v=>
  (Yx n h.1 v).bind fun v1=>
  if v1=true then
   k ((FloatKind.format .f64).order h.1 h.1==some .eq)
  else
   k false
  else
  k false
 else
  k false
def ot (n:Nat) (h:(Nat×eV)):Option Bool:=Iq n h some
theorem OH (n:Nat) {S:Type}:∀ h (φ:_→Option S),(ot n h).bind φ=Iq n h φ:=by
 intros;unfold ot Iq;first | (simp only [ia,ba,iB,bB,oL,oX,nB,Option.bind_some]) | rfl
def Jq (n:Nat):Hint Out:={ live:=fun c=>[],run:=fun c=>none,xm:=fun c q=>none }
theorem KC (n:Nat):sa tys (ea Out (Gs n)) (Jq n) n (aa Tryz.f156) 0:=la (fun _=>rfl) _ _ (by kernel_rfl)
theorem mE (n:Nat):Enters Tryz.prog 156:=enters_of (c:=aa Tryz.f156) Tryz.func156 (by kernel_rfl) (by kernel_rfl)
def Lo (n:Nat):Entry:=⟨156,RV (.pair (.pair (.flt .f64) (.pair (.int .i64) .unit)) .unit) (.one .bool) (fun xs=>ot n xs.1),none,none⟩
theorem kx (n:Nat):EntryOk Tryz.prog gl (Lo n):=
 Ha (mE n) fun xs y h=>qa tys_ok (Hs n) mixed (hint:=Jq n) (n:=n) Tryz.func156 (Ra (KC n)) (oa (φ:=(fun y=>some (Out.ret (Od (.one .bool) y)))) (by kernel_rfl) (OH n xs.1 _) h)
def Mo (n:Nat):List Entry:=Lo n::Gs n
theorem Ip (n:Nat):AllOk Tryz.prog gl (Mo n):=.cons (kx n) (Hs n)
def xf (n:Nat) {R:Type} (b:(Int×(Int×(Int×((Nat×eV)×Unit))))) (k:Bool→Option R):Option R:=
 (Md n b.1 (0:Int) (2:Int)).bind fun v=>
 if (!v)=false then
 (Md n b.2.1 (0:Int) (1048576:Int)).bind fun v1=>
 if (!v1)=false then
  (ot n (b.2.2.2.1.1,(b.2.2.2.1.2.1,()))).bind fun v2=>
  if (!v2)=true then
  k false
  else
  if (b.2.2.1==(0:Int))=false then
   if (b.1==(1:Int))=true then
   (Md n b.2.2.1 (0:Int) (2199023255552:Int)).bind fun v3=>
   k v3
   else
   k false
  else
   k true
 else
  k false
 else
 k false
def xe (n:Nat) (b:(Int×(Int×(Int×((Nat×eV)×Unit))))):Option Bool:=xf n b some
theorem Zu (n:Nat) {S:Type}:∀ b (φ:_→Option S),(xe n b).bind φ=xf n b φ:=by
 intros;unfold xe xf;first | (simp only [ia,ba,iB,bB,oL,oX,nB,Option.bind_some]) | rfl
def wg (n:Nat):Hint Out:={ live:=fun c=>[],run:=fun c=>none,xm:=fun c q=>none }
theorem kq (n:Nat):sa tys (ea Out (Mo n)) (wg n) n (aa Tryz.f104) 0:=la (fun _=>rfl) _ _ (by kernel_rfl)
theorem Bq (n:Nat):Enters Tryz.prog 104:=enters_of (c:=aa Tryz.f104) Tryz.func104 (by kernel_rfl) (by kernel_rfl)
def Le (n:Nat):Entry:=⟨104,RV HU (.one .bool) (fun xs=>xe n xs.1),none,none⟩
theorem Ji (n:Nat):EntryOk Tryz.prog gl (Le n):=
 Ha (Bq n) fun xs y h=>qa tys_ok (Ip n) mixed (hint:=wg n) (n:=n) Tryz.func104 (Ra (kq n)) (oa (φ:=(fun y=>some (Out.ret (Od (.one .bool) y)))) (by kernel_rfl) (Zu n xs.1 _) h)
def cc (n:Nat):List Entry:=Le n::Mo n
theorem Rf (n:Nat):AllOk Tryz.prog gl (cc n):=.cons (Ji n) (Ip n)
def gf (n:Nat) {R:Type} (l1 t5:(Sq T2)) (t6 t7:Int) (kn:(Sq T2)→(Sq T2)→Int→Int→Option R) (ko:((Sq T2))→Option R) (kr:(Bool)→Option R) (kp:Int→Option R):Option R:=
 if (decide (t7<t6))=true then
 if 0≤t7∧t7<(t5.n:Int) then
  (vf n (((t5.at' (Int.toNat t7))).1)).bind fun v=>
  if (!v)=false then
  (xe n (((((t5.at' (Int.toNat t7))).2).1).1,((((((t5.at' (Int.toNat t7))).2).1).2).1,(((((((t5.at' (Int.toNat t7))).2).1).2).2).1,((((((((((t5.at' (Int.toNat t7))).2).1).2).2).2).1).1,((((((((((t5.at' (Int.toNat t7))).2).1).2).2).2).1).2).1,())),()))))).bind fun v1=>
  if (!v1)=false then
   if (decide (t7>(0:Int)))=true then
   if 0≤(IntKind.wrap .i64 (t7 - (1:Int)))∧(IntKind.wrap .i64 (t7 - (1:Int)))<(l1.n:Int) then
    if (!(Op.bytesLess (((l1.at' (Int.toNat (IntKind.wrap .i64 (t7 - (1:Int)))))).1).toList (((t5.at' (Int.toNat t7))).1).toList))=true then
    kr false
    else
    kn l1 t5 t6 (IntKind.wrap .i64 (t7+(1:Int)))
   else
    none
   else
   kn l1 t5 t6 (IntKind.wrap .i64 (t7+(1:Int)))
  else
   kr false
  else
  kr false
 else
  none
 else
 ko l1
def tb (n:Nat):Nat→(Sq T2)→(Sq T2)→Int→Int→Option (Lx ((Sq T2)) (Bool))
 | 0,_,_,_,_=>none
 | m+1,l1,t5,t6,t7=>gf n l1 t5 t6 t7 (tb n m) (fun a=>some (.out a)) (fun a=>some (.ret a)) (fun p=>some (.pan p))
theorem Mx (n m:Nat) {S:Type}:∀ l1 t5 t6 t7 (φ:_→Option S),(tb n (m+1) l1 t5 t6 t7).bind φ=gf n l1 t5 t6 t7 (fun l1 t5 t6 t7=>(tb n m l1 t5 t6 t7).bind φ) (fun a=>φ (.out a)) (fun a=>φ (.ret a)) (fun p=>φ (.pan p)):=by
 intros;first | (simp only [tb,gf,ia,ba,iB,bB,oL,oX,nB,Option.bind_some]) | rfl
def Cf:List Sl:=.dat (.sl K2)::tp 4 (.dat (.sl K2)::.dat (.int .i64)::.dat (.int .i64)::tp 33 [])
def Bf:List RS:=[]
def dp:List Sl:=.dat (.sl K2)::tp 40 []
def bp:List RS:=[]
def fp:List Sl:=.top::.top::.dat .bool::tp 38 []
def ep:List RS:=[]
def lb (K:XE→List AV→fa→Option Out):Lx ((Sq T2)) (Bool)→Option Out:=fun x=>LV x (fun a=>ql dp bp (a,()) () (K (.exit 0))) (fun a=>ql fp ep (a,()) () (K .ret)) (fun _=>none)
def tk (n:Nat) {R:Type} (l:(Sq T2)) (k:Bool→Option R):Option R:=
 (tb n n l l (l.n:Int) (0:Int)).bind fun x_1=>LV x_1
 (fun a_2=>
  k (decide ((a_2.n:Int)≤(32:Int))))
 (fun a_3=>
  k a_3)
 (fun _=>none)
def Tc (n:Nat) (l:(Sq T2)):Option Bool:=tk n l some
theorem pD (n:Nat) {S:Type}:∀ l (φ:_→Option S),(Tc n l).bind φ=tk n l φ:=by
 intros;unfold Tc tk;first | (simp only [ia,ba,iB,bB,oL,oX,nB,Option.bind_some]) | rfl
def Sd (n:Nat):Hint Out:={ live:=fun c=>(cond (Nat.beq c 0) [(0,some (.sl K2)),(5,some (.sl K2)),(6,none),(7,none)] []),run:=fun c=>(cond (Nat.beq c 0) (some (sq Cf Bf fun σ ρ K=>(tb n n σ.1 σ.2.1 σ.2.2.1 σ.2.2.2.1).bind (lb K))) none),xm:=fun c q=>(cond (Nat.beq c 0&&Nat.beq (q.getD 1000000) 0&&q.isSome) (some [(0,some (.sl K2))]) (cond (Nat.beq c 1&&q.isNone) (some [(2,none)]) none)) }
def Rd (n:Nat) (K:XE→List AV→fa→Option Out) (m:Nat) (l1:(Sq T2)) (t5:(Sq T2)) (t6:Int) (t7:Int):Option Out:=ze tys (ea Out (cc n)) (Sd n) n (Ba [1,0,1,0,0] (aa Tryz.f62)) 0 Cf Bf K m (l1,(t5,(t6,(t7,())))) ()
theorem wl (n:Nat) (K:XE→List AV→fa→Option Out):∀ (m:Nat) l1 t5 t6 t7,Rd n K m l1 t5 t6 t7=(tb n m l1 t5 t6 t7).bind (lb K)
 | 0,_,_,_,_=>by kernel_rfl
 | m+1,l1,t5,t6,t7=>by
  have h1:Rd n K (m+1) l1 t5 t6 t7=gf n l1 t5 t6 t7 (Rd n K m) (fun a=>lb K (.out a)) (fun a=>lb K (.ret a)) (fun p=>lb K (.pan p)):=by kernel_rfl
  have h2:Rd n K m=fun l1 t5 t6 t7=>(tb n m l1 t5 t6 t7).bind (lb K):=by
   repeat (refine funext fun _=>?_)
   exact wl n K m _ _ _ _
  rw [h1,h2];exact (Mx n m _ _ _ _ (lb K)).symm
theorem Av (n:Nat):Wd tys (ea Out (cc n)) (Sd n) n (Ba [1,0,1,0,0] (aa Tryz.f62)) 0:=Qa (sp:=Cf) (rp:=Bf) (by kernel_rfl) fun K σ ρ=>wl n K n σ.1 σ.2.1 σ.2.2.1 σ.2.2.2.1
theorem Nx (n:Nat):sa tys (ea Out (cc n)) (Sd n) n (aa Tryz.f62) 0:=⟨trivial,⟨⟨trivial,⟨Av n,⟨trivial,⟨⟨trivial,trivial⟩,⟨⟨trivial,⟨trivial,⟨⟨trivial,trivial⟩,trivial⟩⟩⟩,trivial⟩⟩⟩⟩⟩,⟨trivial,trivial⟩⟩⟩
theorem rz (n:Nat):Enters Tryz.prog 62:=enters_of (c:=aa Tryz.f62) Tryz.func62 (by kernel_rfl) (by kernel_rfl)
def Ci (n:Nat):Entry:=⟨62,RV IU (.one .bool) (fun xs=>Tc n xs.1),none,none⟩
theorem aq (n:Nat):EntryOk Tryz.prog gl (Ci n):=
 Ha (rz n) fun xs y h=>qa tys_ok (Rf n) mixed (hint:=Sd n) (n:=n) Tryz.func62 (Ra (Nx n)) (oa (φ:=(fun y=>some (Out.ret (Od (.one .bool) y)))) (by kernel_rfl) (pD n xs.1 _) h)
def Di (n:Nat):List Entry:=Ci n::cc n
theorem uk (n:Nat):AllOk Tryz.prog gl (Di n):=.cons (aq n) (Rf n)
def jp (n:Nat) {R:Type} (n0 least most:Int) (k:Bool→Option R):Option R:=
 if (decide (n0≥least))=true then
 k (decide (n0≤most))
 else
 k false
def ip (n:Nat) (n0 least most:Int):Option Bool:=jp n n0 least most some
theorem KG (n:Nat) {S:Type}:∀ n0 least most (φ:_→Option S),(ip n n0 least most).bind φ=jp n n0 least most φ:=by
 intros;unfold ip jp;first | (simp only [ia,ba,iB,bB,oL,oX,nB,Option.bind_some]) | rfl
def cq (n:Nat):Hint Out:={ live:=fun c=>[],run:=fun c=>none,xm:=fun c q=>none }
theorem qB (n:Nat):sa tys (ea Out (Di n)) (cq n) n (aa Tryz.f99) 0:=la (fun _=>rfl) _ _ (by kernel_rfl)
theorem tD (n:Nat):Enters Tryz.prog 99:=enters_of (c:=aa Tryz.f99) Tryz.func99 (by kernel_rfl) (by kernel_rfl)
def Pm (n:Nat):Entry:=⟨99,RV (.pair (.int .i64) (.pair (.int .i64) (.pair (.int .i64) .unit))) (.one .bool) (fun xs=>ip n xs.1 xs.2.1 xs.2.2.1),none,none⟩
theorem Bu (n:Nat):EntryOk Tryz.prog gl (Pm n):=
 Ha (tD n) fun xs y h=>qa tys_ok (uk n) mixed (hint:=cq n) (n:=n) Tryz.func99 (Ra (qB n)) (oa (φ:=(fun y=>some (Out.ret (Od (.one .bool) y)))) (by kernel_rfl) (KG n xs.1 xs.2.1 xs.2.2.1 _) h)
def Qm (n:Nat):List Entry:=Pm n::Di n
theorem Vn (n:Nat):AllOk Tryz.prog gl (Qm n):=.cons (Bu n) (uk n)
def Ev (n:Nat) {R:Type} (n0:Int) (k:Bool→Option R):Option R:=
 (ip n n0 (0:Int) (1099511627776:Int)).bind fun v=>
 k v
def ci (n:Nat) (n0:Int):Option Bool:=Ev n n0 some
theorem wJ (n:Nat) {S:Type}:∀ n0 (φ:_→Option S),(ci n n0).bind φ=Ev n n0 φ:=by
 intros;unfold ci Ev;first | (simp only [ia,ba,iB,bB,oL,oX,nB,Option.bind_some]) | rfl
def Au (n:Nat):Hint Out:={ live:=fun c=>[],run:=fun c=>none,xm:=fun c q=>none }
theorem HE (n:Nat):sa tys (ea Out (Qm n)) (Au n) n (aa Tryz.f63) 0:=la (fun _=>rfl) _ _ (by kernel_rfl)
theorem JG (n:Nat):Enters Tryz.prog 63:=enters_of (c:=aa Tryz.f63) Tryz.func63 (by kernel_rfl) (by kernel_rfl)
def Vr (n:Nat):Entry:=⟨63,RV (.pair (.int .i64) .unit) (.one .bool) (fun xs=>ci n xs.1),none,none⟩
theorem nA (n:Nat):EntryOk Tryz.prog gl (Vr n):=
 Ha (JG n) fun xs y h=>qa tys_ok (Vn n) mixed (hint:=Au n) (n:=n) Tryz.func63 (Ra (HE n)) (oa (φ:=(fun y=>some (Out.ret (Od (.one .bool) y)))) (by kernel_rfl) (wJ n xs.1 _) h)
def Wr (n:Nat):List Entry:=Vr n::Qm n
theorem Xr (n:Nat):AllOk Tryz.prog gl (Wr n):=.cons (nA n) (Vn n)
def Bv (n:Nat) {R:Type} (tenant:Int) (domain:BA) (k:BA→Option R):Option R:=
 (iL tenant).bind fun v=>
 if qn v (⟨#[32]⟩:BA)=true then
 if qn (v++(⟨#[32]⟩:BA)) domain=true then
  k ((v++(⟨#[32]⟩:BA))++domain)
 else
  none
 else
 none
def Zh (n:Nat) (tenant:Int) (domain:BA):Option BA:=Bv n tenant domain some
theorem uJ (n:Nat) {S:Type}:∀ tenant domain (φ:_→Option S),(Zh n tenant domain).bind φ=Bv n tenant domain φ:=by
 intros;unfold Zh Bv;first | (simp only [ia,ba,iB,bB,oL,oX,nB,Option.bind_some]) | rfl
def wu (n:Nat):Hint Out:={ live:=fun c=>[],run:=fun c=>none,xm:=fun c q=>none }
theorem EE (n:Nat):sa tys (ea Out (Wr n)) (wu n) n (aa Tryz.f105) 0:=la (fun _=>rfl) _ _ (by kernel_rfl)
theorem FG (n:Nat):Enters Tryz.prog 105:=enters_of (c:=aa Tryz.f105) Tryz.func105 (by kernel_rfl) (by kernel_rfl)
def Mr (n:Nat):Entry:=⟨105,RV (.pair (.int .i64) (.pair .str .unit)) (.one .str) (fun xs=>Zh n xs.1 xs.2.1),none,none⟩
theorem lA (n:Nat):EntryOk Tryz.prog gl (Mr n):=
 Ha (FG n) fun xs y h=>qa tys_ok (Xr n) mixed (hint:=wu n) (n:=n) Tryz.func105 (Ra (EE n)) (oa (φ:=(fun y=>some (Out.ret (Od (.one .str) y)))) (by kernel_rfl) (uJ n xs.1 xs.2.1 _) h)
def Nr (n:Nat):List Entry:=Mr n::Wr n
theorem Pr (n:Nat):AllOk Tryz.prog gl (Nr n):=.cons (lA n) (Xr n)
def tz (n:Nat) {R:Type} (m0:T1) (r:T0) (now:Int) (k:Bool→Option R):Option R:=
 if (r.2.1==(0:Int))=true then
 if (decide (r.2.2.2.1≤now))=true then
  k (!m0.2.2.2.2.2.2.2.1)
 else
  k false
 else
 k false
def uj (n:Nat) (m0:T1) (r:T0) (now:Int):Option Bool:=tz n m0 r now some
theorem qL (n:Nat) {S:Type}:∀ m0 r now (φ:_→Option S),(uj n m0 r now).bind φ=tz n m0 r now φ:=by
 intros;unfold uj tz;first | (simp only [ia,ba,iB,bB,oL,oX,nB,Option.bind_some]) | rfl
def Ox (n:Nat):Hint Out:={ live:=fun c=>[],run:=fun c=>none,xm:=fun c q=>none }
theorem GG (n:Nat):sa tys (ea Out (Nr n)) (Ox n) n (aa Tryz.f98) 0:=la (fun _=>rfl) _ _ (by kernel_rfl)
theorem gI (n:Nat):Enters Tryz.prog 98:=enters_of (c:=aa Tryz.f98) Tryz.func98 (by kernel_rfl) (by kernel_rfl)
def Cv (n:Nat):Entry:=⟨98,RV JU (.one .bool) (fun xs=>uj n xs.1 xs.2.1 xs.2.2.1),none,none⟩
theorem rD (n:Nat):EntryOk Tryz.prog gl (Cv n):=
 Ha (gI n) fun xs y h=>qa tys_ok (Pr n) mixed (hint:=Ox n) (n:=n) Tryz.func98 (Ra (GG n)) (oa (φ:=(fun y=>some (Out.ret (Od (.one .bool) y)))) (by kernel_rfl) (qL n xs.1 xs.2.1 xs.2.2.1 _) h)
def qD (n:Nat):List Entry:=Cv n::Nr n
theorem FE (n:Nat):AllOk Tryz.prog gl (qD n):=.cons (rD n) (Pr n)
def zf (n:Nat):List Entry:=⟨233,RV (.pair .str (.pair .str .unit)) (.one (.int .i64)) (fun xs=>OB xs.1 xs.2.1),none,none⟩::qD n
theorem xg (n:Nat):AllOk Tryz.prog gl (zf n):=.cons BC (FE n)
def Ss (n:Nat) {R:Type} (a b:BA) (k:Int→Option R):Option R:=
 (OB a b).bind fun v=>
 k v
def zt (n:Nat) (a b:BA):Option Int:=Ss n a b some
theorem sI (n:Nat) {S:Type}:∀ a b (φ:_→Option S),(zt n a b).bind φ=Ss n a b φ:=by
 intros;unfold zt Ss;first | (simp only [ia,ba,iB,bB,oL,oX,nB,Option.bind_some]) | rfl
def Ts (n:Nat):Hint Out:={ live:=fun c=>[],run:=fun c=>none,xm:=fun c q=>none }
theorem DD (n:Nat):sa tys (ea Out (zf n)) (Ts n) n (aa Tryz.f204) 0:=la (fun _=>rfl) _ _ (by kernel_rfl)
theorem VE (n:Nat):Enters Tryz.prog 204:=enters_of (c:=aa Tryz.f204) Tryz.func204 (by kernel_rfl) (by kernel_rfl)
def Bp (n:Nat):Entry:=⟨204,RV (.pair .str (.pair .str .unit)) (.one (.int .i64)) (fun xs=>zt n xs.1 xs.2.1),none,none⟩
theorem gy (n:Nat):EntryOk Tryz.prog gl (Bp n):=
 Ha (VE n) fun xs y h=>qa tys_ok (xg n) mixed (hint:=Ts n) (n:=n) Tryz.func204 (Ra (DD n)) (oa (φ:=(fun y=>some (Out.ret (Od (.one (.int .i64)) y)))) (by kernel_rfl) (sI n xs.1 xs.2.1 _) h)
def Cp (n:Nat):List Entry:=Bp n::zf n
theorem iq (n:Nat):AllOk Tryz.prog gl (Cp n):=.cons (gy n) (xg n)
def ap (n:Nat) {R:Type} (h:T2) (d:BA) (k:Int→Option R):Option R:=
 (zt n h.1 d).bind fun v=>
 k v
def ak (n:Nat) (h:T2) (d:BA):Option Int:=ap n h d some
theorem CG (n:Nat) {S:Type}:∀ h d (φ:_→Option S),(ak n h d).bind φ=ap n h d φ:=by
 intros;unfold ak ap;first | (simp only [ia,ba,iB,bB,oL,oX,nB,Option.bind_some]) | rfl
def Zp (n:Nat):Hint Out:={ live:=fun c=>[],run:=fun c=>none,xm:=fun c q=>none }
theorem XA (n:Nat):sa tys (ea Out (Cp n)) (Zp n) n (aa Tryz.f203) 0:=la (fun _=>rfl) _ _ (by kernel_rfl)
theorem nD (n:Nat):Enters Tryz.prog 203:=enters_of (c:=aa Tryz.f203) Tryz.func203 (by kernel_rfl) (by kernel_rfl)
def Im (n:Nat):Entry:=⟨203,RV KU (.one (.int .i64)) (fun xs=>ak n xs.1 xs.2.1),none,none⟩
theorem tu (n:Nat):EntryOk Tryz.prog gl (Im n):=
 Ha (nD n) fun xs y h=>qa tys_ok (iq n) mixed (hint:=Zp n) (n:=n) Tryz.func203 (Ra (XA n)) (oa (φ:=(fun y=>some (Out.ret (Od (.one (.int .i64)) y)))) (by kernel_rfl) (CG n xs.1 xs.2.1 _) h)
def Ne (n:Nat):List Entry:=Im n::Cp n
theorem Pn (n:Nat):AllOk Tryz.prog gl (Ne n):=.cons (tu n) (iq n)
def za (n:Nat) {R:Type} (x1:(Sq T2)) (target1:BA) (n0 i j:Int) (kn:(Sq T2)→BA→Int→Int→Int→Option R) (ko:((Sq T2)×BA×Int×Int)→Option R) (kr:Unit→Option R) (kp:Int→Option R):Option R:=
 if (decide (i<j))=true then
 if 0≤(IntKind.wrap .i64 (Int.fdiv (IntKind.wrap .u64 (IntKind.wrap .i64 (i+j))) (2^(min (Int.toNat (1:Int)) (IntKind.bits .u64)))))∧(IntKind.wrap .i64 (Int.fdiv (IntKind.wrap .u64 (IntKind.wrap .i64 (i+j))) (2^(min (Int.toNat (1:Int)) (IntKind.bits .u64)))))<(x1.n:Int) then
  (ak n (((x1.at' (Int.toNat (IntKind.wrap .i64 (Int.fdiv (IntKind.wrap .u64 (IntKind.wrap .i64 (i+j))) (2^(min (Int.toNat (1:Int)) (IntKind.bits .u64)))))))).1,((((((x1.at' (Int.toNat (IntKind.wrap .i64 (Int.fdiv (IntKind.wrap .u64 (IntKind.wrap .i64 (i+j))) (2^(min (Int.toNat (1:Int)) (IntKind.bits .u64)))))))).2).1).1,((((((x1.at' (Int.toNat (IntKind.wrap .i64 (Int.fdiv (IntKind.wrap .u64 (IntKind.wrap .i64 (i+j))) (2^(min (Int.toNat (1:Int)) (IntKind.bits .u64)))))))).2).1).2).1,(((((((x1.at' (Int.toNat (IntKind.wrap .i64 (Int.fdiv (IntKind.wrap .u64 (IntKind.wrap .i64 (i+j))) (2^(min (Int.toNat (1:Int)) (IntKind.bits .u64)))))))).2).1).2).2).1,((((((((((x1.at' (Int.toNat (IntKind.wrap .i64 (Int.fdiv (IntKind.wrap .u64 (IntKind.wrap .i64 (i+j))) (2^(min (Int.toNat (1:Int)) (IntKind.bits .u64)))))))).2).1).2).2).2).1).1,((((((((((x1.at' (Int.toNat (IntKind.wrap .i64 (Int.fdiv (IntKind.wrap .u64 (IntKind.wrap .i64 (i+j))) (2^(min (Int.toNat (1:Int)) (IntKind.bits .u64)))))))).2).1).2).2).2).1).2).1,())),())))),())) target1).bind fun v=>
  if (decide (v<(0:Int)))=true then
  kn x1 target1 n0 (IntKind.wrap .i64 ((IntKind.wrap .i64 (Int.fdiv (IntKind.wrap .u64 (IntKind.wrap .i64 (i+j))) (2^(min (Int.toNat (1:Int)) (IntKind.bits .u64)))))+(1:Int))) j
  else
  kn x1 target1 n0 i (IntKind.wrap .i64 (Int.fdiv (IntKind.wrap .u64 (IntKind.wrap .i64 (i+j))) (2^(min (Int.toNat (1:Int)) (IntKind.bits .u64)))))
 else
  none
 else
 ko (x1,target1,n0,i)
def ma (n:Nat):Nat→(Sq T2)→BA→Int→Int→Int→Option (Lx ((Sq T2)×BA×Int×Int) Unit)
 | 0,_,_,_,_,_=>none
 | m+1,x1,target1,n0,i,j=>za n x1 target1 n0 i j (ma n m) (fun a=>some (.out a)) (fun a=>some (.ret a)) (fun p=>some (.pan p))
theorem Jb (n m:Nat) {S:Type}:∀ x1 target1 n0 i j (φ:_→Option S),(ma n (m+1) x1 target1 n0 i j).bind φ=za n x1 target1 n0 i j (fun x1 target1 n0 i j=>(ma n m x1 target1 n0 i j).bind φ) (fun a=>φ (.out a)) (fun a=>φ (.ret a)) (fun p=>φ (.pan p)):=by
 intros;first | (simp only [ma,za,ia,ba,iB,bB,oL,oX,nB,Option.bind_some]) | rfl
def Da:List Sl:=.dat (.sl K2)::.dat .str::.fnc 203::tp 5 (.dat (.int .i64)::.dat (.int .i64)::.dat (.int .i64)::tp 38 [])
def Ca:List RS:=[.ghost [.top,.top,.top]]
def yb:List Sl:=.dat (.sl K2)::.dat .str::.fnc 203::tp 5 (.dat (.int .i64)::.dat (.int .i64)::tp 39 [])
def wb:List RS:=[.ghost [.top,.top,.top]]
def pa (K:XE→List AV→fa→Option OutS):Lx ((Sq T2)×BA×Int×Int) Unit→Option OutS:=fun x=>LV x (fun a=>ql yb wb (a.1,(a.2.1,(a.2.2.1,(a.2.2.2,())))) ((),()) (K (.exit 0))) (fun _=>none) (fun _=>none)
def Ia (n:Nat) {R:Type} (x:(Sq T2)) (target:BA) (k:(Int×Bool×Unit)→Option R):Option R:=
 (ma n n x target (x.n:Int) (0:Int) (x.n:Int)).bind fun x_1=>LV x_1
 (fun a_2=>
  if (decide (a_2.2.2.2<a_2.2.2.1))=true then
  if 0≤a_2.2.2.2∧a_2.2.2.2<(a_2.1.n:Int) then
   (ak n (((a_2.1.at' (Int.toNat a_2.2.2.2))).1,((((((a_2.1.at' (Int.toNat a_2.2.2.2))).2).1).1,((((((a_2.1.at' (Int.toNat a_2.2.2.2))).2).1).2).1,(((((((a_2.1.at' (Int.toNat a_2.2.2.2))).2).1).2).2).1,((((((((((a_2.1.at' (Int.toNat a_2.2.2.2))).2).1).2).2).2).1).1,((((((((((a_2.1.at' (Int.toNat a_2.2.2.2))).2).1).2).2).2).1).2).1,())),())))),())) a_2.2.1).bind fun v1=>
   k (a_2.2.2.2,((v1==(0:Int)),()))
  else
   none
  else
  k (a_2.2.2.2,(false,())))
 (fun _=>none)
 (fun _=>none)
def ta (n:Nat) (x:(Sq T2)) (target:BA):Option (Int×Bool×Unit):=Ia n x target some
theorem lc (n:Nat) {S:Type}:∀ x target (φ:_→Option S),(ta n x target).bind φ=Ia n x target φ:=by
 intros;unfold ta Ia;first | (simp only [ia,ba,iB,bB,oL,oX,nB,Option.bind_some]) | rfl
def wa (n:Nat):Hint OutS:={ live:=fun c=>(cond (Nat.beq c 0) [(0,some (.sl K2)),(1,none),(2,none),(8,none),(9,none),(10,none)] []),run:=fun c=>(cond (Nat.beq c 0) (some (sq Da Ca fun σ ρ K=>(ma n n σ.1 σ.2.1 σ.2.2.1 σ.2.2.2.1 σ.2.2.2.2.1).bind (pa K))) none),xm:=fun c q=>(cond (Nat.beq c 0&&Nat.beq (q.getD 1000000) 0&&q.isSome) (some [(0,some (.sl K2)),(1,none),(2,none),(8,none),(9,none)]) none) }
def ua (n:Nat) (K:XE→List AV→fa→Option OutS) (m:Nat) (x1:(Sq T2)) (target1:BA) (n0:Int) (i:Int) (j:Int):Option OutS:=ze tys (ea OutS (Ne n)) (wa n) n (Ba [1,1,1,0,0,0] (aa Tryz.f202)) 0 Da Ca K m (x1,(target1,(n0,(i,(j,()))))) ((),())
theorem Ua (n:Nat) (K:XE→List AV→fa→Option OutS):∀ (m:Nat) x1 target1 n0 i j,ua n K m x1 target1 n0 i j=(ma n m x1 target1 n0 i j).bind (pa K)
 | 0,_,_,_,_,_=>by kernel_rfl
 | m+1,x1,target1,n0,i,j=>by
  have h1:ua n K (m+1) x1 target1 n0 i j=za n x1 target1 n0 i j (ua n K m) (fun a=>pa K (.out a)) (fun a=>pa K (.ret a)) (fun p=>pa K (.pan p)):=by kernel_rfl
  have h2:ua n K m=fun x1 target1 n0 i j=>(ma n m x1 target1 n0 i j).bind (pa K):=by
   repeat (refine funext fun _=>?_)
   exact Ua n K m _ _ _ _ _
  rw [h1,h2];exact (Jb n m _ _ _ _ _ (pa K)).symm
theorem Ib (n:Nat):Wd tys (ea OutS (Ne n)) (wa n) n (Ba [1,1,1,0,0,0] (aa Tryz.f202)) 0:=Qa (sp:=Da) (rp:=Ca) (by kernel_rfl) fun K σ ρ=>Ua n K n σ.1 σ.2.1 σ.2.2.1 σ.2.2.2.1 σ.2.2.2.2.1
theorem Kb (n:Nat):sa tys (ea OutS (Ne n)) (wa n) n (aa Tryz.f202) 0:=⟨trivial,⟨trivial,⟨trivial,⟨⟨Ib n,⟨⟨trivial,⟨trivial,trivial⟩⟩,⟨trivial,⟨trivial,⟨trivial,trivial⟩⟩⟩⟩⟩,⟨trivial,trivial⟩⟩⟩⟩⟩
theorem Yb (n:Nat):Enters Tryz.prog 202:=enters_of (c:=aa Tryz.f202) Tryz.func202 (by kernel_rfl) (by kernel_rfl)
def Ga:List RSp:=[.one (.dat (.sl K2)),.one (.dat .str),.one (.fnc 203)]
def Fa:List RS:=[]
def Zb:List Sl:=[.top,.top,.top]
def ac:List RSp:=[.one (.dat (.int .i64)),.one (.dat .bool)]
def ya:List RS:=[]
def Aa (y:(Int×Bool×Unit)):OutS:=⟨false,An (Ie ya ()) Zb (),SD (FC (Ie ya ()) ac ((y.1,()),((y.2.1,()),()))),fu (Ie ya ()) ya ()⟩
theorem Xa (n:Nat):EntryOk Tryz.prog gl ⟨202,Ae,none,some (lV Ga Fa (fun σ ρ=>ta n σ.1.1 σ.2.1.1) Aa)⟩:=
 Ki (Yb n) fun σ ρ y h=>Ab tys_ok (Pn n) mixed (hint:=wa n) (n:=n) Tryz.func202 (Ra (Kb n)) (oa (φ:=fun y=>some (Aa y)) (by kernel_rfl) (lc n σ.1.1 σ.2.1.1 _) h)
def Ea (n:Nat):List Entry:=⟨202,Ae,none,some (lV Ga Fa (fun σ ρ=>ta n σ.1.1 σ.2.1.1) Aa)⟩::Ne n
theorem Ta (n:Nat):AllOk Tryz.prog gl (Ea n):=.cons (Xa n) (Pn n)
def yv (n:Nat) {R:Type} (l:(Sq T2)) (domain:BA) (k:(Int×Bool×Unit)→Option R):Option R:=
 (ta n l domain).bind fun v=>
 k (v.1,(v.2.1,()))
def Kx (n:Nat) (l:(Sq T2)) (domain:BA):Option (Int×Bool×Unit):=yv n l domain some
theorem sJ (n:Nat) {S:Type}:∀ l domain (φ:_→Option S),(Kx n l domain).bind φ=yv n l domain φ:=by
 intros;unfold Kx yv;first | (simp only [ia,ba,iB,bB,oL,oX,nB,Option.bind_some]) | rfl
def uu (n:Nat):Hint Out:={ live:=fun c=>[],run:=fun c=>none,xm:=fun c q=>none }
theorem yE (n:Nat):sa tys (ea Out (Ea n)) (uu n) n (aa Tryz.f158) 0:=la (fun _=>rfl) _ _ (by kernel_rfl)
theorem DG (n:Nat):Enters Tryz.prog 158:=enters_of (c:=aa Tryz.f158) Tryz.func158 (by kernel_rfl) (by kernel_rfl)
def Dr (n:Nat):Entry:=⟨158,RV LU (.many (.pair (.int .i64) (.pair .bool .unit))) (fun xs=>Kx n xs.1 xs.2.1),none,none⟩
theorem jA (n:Nat):EntryOk Tryz.prog gl (Dr n):=
 Ha (DG n) fun xs y h=>qa tys_ok (Ta n) mixed (hint:=uu n) (n:=n) Tryz.func158 (Ra (yE n)) (oa (φ:=(fun y=>some (Out.ret (Od (.many (.pair (.int .i64) (.pair .bool .unit))) y)))) (by kernel_rfl) (sJ n xs.1 xs.2.1 _) h)
def Er (n:Nat):List Entry:=Dr n::Ea n
theorem Fr (n:Nat):AllOk Tryz.prog gl (Er n):=.cons (jA n) (Ta n)
def cm (n:Nat) {R:Type} (b:(Int×(Int×(Int×((Nat×eV)×Unit))))) (now:Int) (k:Bool→Option R):Option R:=
 if (b.1==(0:Int))=false then
 if (b.1==(1:Int))=true then
  k (decide (now≥b.2.2.1))
 else
  k false
 else
 k true
def Zk (n:Nat) (b:(Int×(Int×(Int×((Nat×eV)×Unit))))) (now:Int):Option Bool:=cm n b now some
theorem eE (n:Nat) {S:Type}:∀ b now (φ:_→Option S),(Zk n b now).bind φ=cm n b now φ:=by
 intros;unfold Zk cm;first | (simp only [ia,ba,iB,bB,oL,oX,nB,Option.bind_some]) | rfl
def xn (n:Nat):Hint Out:={ live:=fun c=>[],run:=fun c=>none,xm:=fun c q=>none }
theorem Jy (n:Nat):sa tys (ea Out (Er n)) (xn n) n (aa Tryz.f159) 0:=la (fun _=>rfl) _ _ (by kernel_rfl)
theorem vA (n:Nat):Enters Tryz.prog 159:=enters_of (c:=aa Tryz.f159) Tryz.func159 (by kernel_rfl) (by kernel_rfl)
def Lj (n:Nat):Entry:=⟨159,RV MU (.one .bool) (fun xs=>Zk n xs.1 xs.2.1),none,none⟩
theorem Cq (n:Nat):EntryOk Tryz.prog gl (Lj n):=
 Ha (vA n) fun xs y h=>qa tys_ok (Fr n) mixed (hint:=xn n) (n:=n) Tryz.func159 (Ra (Jy n)) (oa (φ:=(fun y=>some (Out.ret (Od (.one .bool) y)))) (by kernel_rfl) (eE n xs.1 xs.2.1 _) h)
def Mj (n:Nat):List Entry:=Lj n::Er n
theorem bl (n:Nat):AllOk Tryz.prog gl (Mj n):=.cons (Cq n) (Fr n)
def Dv (n:Nat) {R:Type} (l:(Sq T2)) (domain:BA) (now:Int) (k:Bool→Option R):Option R:=
 (Kx n l domain).bind fun v=>
 if (!v.2.1)=false then
 if 0≤v.1∧v.1<(l.n:Int) then
  (Zk n (((((l.at' (Int.toNat v.1))).2).1).1,((((((l.at' (Int.toNat v.1))).2).1).2).1,(((((((l.at' (Int.toNat v.1))).2).1).2).2).1,((((((((((l.at' (Int.toNat v.1))).2).1).2).2).2).1).1,((((((((((l.at' (Int.toNat v.1))).2).1).2).2).2).1).2).1,())),())))) now).bind fun v1=>
  k v1
 else
  none
 else
 k true
def ai (n:Nat) (l:(Sq T2)) (domain:BA) (now:Int):Option Bool:=Dv n l domain now some
theorem vJ (n:Nat) {S:Type}:∀ l domain now (φ:_→Option S),(ai n l domain now).bind φ=Dv n l domain now φ:=by
 intros;unfold ai Dv;first | (simp only [ia,ba,iB,bB,oL,oX,nB,Option.bind_some]) | rfl
def xu (n:Nat):Hint Out:={ live:=fun c=>[],run:=fun c=>none,xm:=fun c q=>none }
theorem GE (n:Nat):sa tys (ea Out (Mj n)) (xu n) n (aa Tryz.f106) 0:=la (fun _=>rfl) _ _ (by kernel_rfl)
theorem HG (n:Nat):Enters Tryz.prog 106:=enters_of (c:=aa Tryz.f106) Tryz.func106 (by kernel_rfl) (by kernel_rfl)
def Qr (n:Nat):Entry:=⟨106,RV NU (.one .bool) (fun xs=>ai n xs.1 xs.2.1 xs.2.2.1),none,none⟩
theorem mA (n:Nat):EntryOk Tryz.prog gl (Qr n):=
 Ha (HG n) fun xs y h=>qa tys_ok (bl n) mixed (hint:=xu n) (n:=n) Tryz.func106 (Ra (GE n)) (oa (φ:=(fun y=>some (Out.ret (Od (.one .bool) y)))) (by kernel_rfl) (vJ n xs.1 xs.2.1 xs.2.2.1 _) h)
def bi (n:Nat):List Entry:=Qr n::Mj n
theorem Sr (n:Nat):AllOk Tryz.prog gl (bi n):=.cons (mA n) (bl n)
end
end Go.Proofs.YtdhehcnfkcibiaaGreatDoor.AM
