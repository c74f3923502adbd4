/- Typed functions that tell what the Go functions of this seat answer, and proofs of it, by program (gen.py). -/
import Derived.Test.YtddefjokgaajfaaGreatDoorYF1
set_option linter.all false
set_option linter.unusedVariables false
set_option linter.unusedSimpArgs false
set_option maxRecDepth 1000000
set_option maxHeartbeats 0
namespace Go.Proofs.YtddefjokgaajfaaGreatDoor.AM
open Go Go.RowKit
noncomputable section
def vc (n:Nat) {R:Type} (l1:U8) (n0 i:Int) (kn:U8→Int→Int→Option R) (ko:(Int)→Option R) (kr:Unit→Option R) (kp:Int→Option R):Option R:=
 if (decide (i<(l1.n:Int)))=true then
 if (decide (n0<(1048576:Int)))=true then
  if 0≤i∧i<(l1.n:Int) then
  kn l1 (IntKind.wrap .i64 (n0+((((l1.at' (Int.toNat i))).n):Int))) (IntKind.wrap .i64 (i+(1:Int)))
  else
  none
 else
  ko n0
 else
 ko n0
def Na (n:Nat):Nat→U8→Int→Int→Option (Lx (Int) Unit)
 | 0,_,_,_=>none
 | m+1,l1,n0,i=>vc n l1 n0 i (Na n m) (fun a=>some (.out a)) (fun a=>some (.ret a)) (fun p=>some (.pan p))
theorem AG (n m:Nat) {S:Type}:∀ l1 n0 i (φ:_→Option S),(Na n (m+1) l1 n0 i).bind φ=vc n l1 n0 i (fun l1 n0 i=>(Na n m l1 n0 i).bind φ) (fun a=>φ (.out a)) (fun a=>φ (.ret a)) (fun p=>φ (.pan p)):=by
 intros;first | (simp only [Na,vc,fa,ba,iB,bB,oL,oX,nB,Option.bind_some]) | rfl
def yj:List Sl:=.dat (.sl (.sl (.int .u8)))::.top::.top::.dat (.int .i64)::.dat (.int .i64)::tp 20 []
def xj:List RS:=[]
def gx:List Sl:=.top::.top::.top::.dat (.int .i64)::tp 21 []
def fx:List RS:=[]
def qc (K:XE→List AV→ia→Option Out):Lx (Int) Unit→Option Out:=fun x=>onL x (fun a=>ak gx fx (a,()) () (K (.exit 0))) (fun _=>none) (fun _=>none)
def rh (n:Nat) {R:Type} (l:U8) (k:Int→Option R):Option R:=
 (Na n n l (l.n:Int) (0:Int)).bind fun x_1=>onL x_1
 (fun a_2=>
  k a_2)
 (fun _=>none)
 (fun _=>none)
def ae (n:Nat) (l:U8):Option Int:=rh n l some
theorem bM (n:Nat) {S:Type}:∀ l (φ:_→Option S),(ae n l).bind φ=rh n l φ:=by
 intros;unfold ae rh;first | (simp only [fa,ba,iB,bB,oL,oX,nB,Option.bind_some]) | rfl
def jh (n:Nat):Hint Out:={ live:=fun c=>(cond (Nat.beq c 0) [(0,some (.sl (.sl (.int .u8)))),(3,none),(4,none)] []),run:=fun c=>(cond (Nat.beq c 0) (some (aq yj xj fun σ ρ K=>(Na n n σ.1 σ.2.1 σ.2.2.1).bind (qc K))) none),xm:=fun c q=>(cond (Nat.beq c 0&&Nat.beq (q.getD 1000000) 0&&q.isSome) (some [(3,none)]) none) }
def fh (n:Nat) (K:XE→List AV→ia→Option Out) (m:Nat) (l1:U8) (n0:Int) (i:Int):Option Out:=Pe tys (da Out (Dc n)) (jh n) n (Da [1,1,0,1,0,0] (aa Tryz.f8)) 0 yj xj K m (l1,(n0,(i,()))) ()
theorem vt (n:Nat) (K:XE→List AV→ia→Option Out):∀ (m:Nat) l1 n0 i,fh n K m l1 n0 i=(Na n m l1 n0 i).bind (qc K)
 | 0,_,_,_=>by kernel_rfl
 | m+1,l1,n0,i=>by
  have h1:fh n K (m+1) l1 n0 i=vc n l1 n0 i (fh n K m) (fun a=>qc K (.out a)) (fun a=>qc K (.ret a)) (fun p=>qc K (.pan p)):=by kernel_rfl
  have h2:fh n K m=fun l1 n0 i=>(Na n m l1 n0 i).bind (qc K):=by
   repeat (refine funext fun _=>?_)
   exact vt n K m _ _ _
  rw [h1,h2];exact (AG n m _ _ _ (qc K)).symm
theorem pE (n:Nat):ie tys (da Out (Dc n)) (jh n) n (Da [1,1,0,1,0,0] (aa Tryz.f8)) 0:=Oa (sp:=yj) (rp:=xj) (by kernel_rfl) fun K σ ρ=>vt n K n σ.1 σ.2.1 σ.2.2.1
theorem BG (n:Nat):ta tys (da Out (Dc n)) (jh n) n (aa Tryz.f8) 0:=⟨trivial,⟨trivial,⟨⟨trivial,⟨pE n,⟨⟨trivial,⟨trivial,trivial⟩⟩,⟨trivial,trivial⟩⟩⟩⟩,⟨trivial,trivial⟩⟩⟩⟩
theorem eJ (n:Nat):Enters Tryz.prog 8:=enters_of (c:=aa Tryz.f8) Tryz.func8 (by kernel_rfl) (by kernel_rfl)
def jx (n:Nat):Entry:=⟨8,pcT (.pair (.sl (.sl (.int .u8))) .unit) (.one (.int .i64)) (fun xs=>ae n xs.1),none,none⟩
theorem tK (n:Nat):EntryOk Tryz.prog gl (jx n):=
 Qa (eJ n) fun xs y h=>ra tys_ok (Ji n) mixed (hint:=jh n) (n:=n) Tryz.func8 (Pa (BG n)) (la (φ:=(fun y=>some (Out.ret (Vf (.one (.int .i64)) y)))) (by kernel_rfl) (bM n xs.1 _) h)
def pg (n:Nat):List Entry:=jx n::Dc n
theorem mq (n:Nat):AllOk Tryz.prog gl (pg n):=.cons (tK n) (Ji n)
def xi (n:Nat) {R:Type} (l1:(Sq Int)) (i:Int) (m0:(Sq Int)) (kn:(Sq Int)→Int→(Sq Int)→Option R) (ko:((Sq Int))→Option R) (kr:Unit→Option R) (kp:Int→Option R):Option R:=
 if (decide (i<(l1.n:Int)))=true then
 if 0≤i∧i<(l1.n:Int) then
  if Ta (m0.n+1) 8=true then
  kn l1 (IntKind.wrap .i64 (i+(1:Int))) (⟨(m0.n+1),fun q=>if q<m0.n then m0.at' q else (fun q=>List.getD (α:=Int) [(l1.at' (Int.toNat i))] q (Ba (.int .i64))) (q - m0.n)⟩:Sq Int)
  else
  none
 else
  none
 else
 ko m0
def uc (n:Nat):Nat→(Sq Int)→Int→(Sq Int)→Option (Lx ((Sq Int)) Unit)
 | 0,_,_,_=>none
 | m+1,l1,i,m0=>xi n l1 i m0 (uc n m) (fun a=>some (.out a)) (fun a=>some (.ret a)) (fun p=>some (.pan p))
theorem SF (n m:Nat) {S:Type}:∀ l1 i m0 (φ:_→Option S),(uc n (m+1) l1 i m0).bind φ=xi n l1 i m0 (fun l1 i m0=>(uc n m l1 i m0).bind φ) (fun a=>φ (.out a)) (fun a=>φ (.ret a)) (fun p=>φ (.pan p)):=by
 intros;first | (simp only [uc,xi,fa,ba,iB,bB,oL,oX,nB,Option.bind_some]) | rfl
def tj:List Sl:=.dat (.sl (.int .i64))::.top::.top::.row 0::.dat (.int .i64)::tp 14 []
def sj:List RS:=[.row 3 1 (.int .i64) true false]
def Hw:List Sl:=.top::.top::.top::.row 0::tp 15 []
def Gw:List RS:=[.row 3 1 (.int .i64) true false]
def mc (K:XE→List AV→ia→Option Out):Lx ((Sq Int)) Unit→Option Out:=fun x=>onL x (fun a=>ak Hw Gw () (a,()) (K (.exit 0))) (fun _=>none) (fun _=>none)
def Zo (n:Nat) {R:Type} (l:(Sq Int)) (k:(Sq Int)→Option R):Option R:=
 (uc n n l (0:Int) (⟨0,fun _=>Ba (.int .i64)⟩:Sq Int)).bind fun x_1=>onL x_1
 (fun a_2=>
  k a_2)
 (fun _=>none)
 (fun _=>none)
def Jj (n:Nat) (l:(Sq Int)):Option (Sq Int):=Zo n l some
theorem BL (n:Nat) {S:Type}:∀ l (φ:_→Option S),(Jj n l).bind φ=Zo n l φ:=by
 intros;unfold Jj Zo;first | (simp only [fa,ba,iB,bB,oL,oX,nB,Option.bind_some]) | rfl
def Lg (n:Nat):Hint Out:={ live:=fun c=>(cond (Nat.beq c 0) [(0,some (.sl (.int .i64))),(3,some (.sl (.int .i64))),(4,none)] []),run:=fun c=>(cond (Nat.beq c 0) (some (aq tj sj fun σ ρ K=>(uc n n σ.1 σ.2.1 ρ.1).bind (mc K))) none),xm:=fun c q=>(cond (Nat.beq c 0&&Nat.beq (q.getD 1000000) 0&&q.isSome) (some [(3,some (.sl (.int .i64)))]) none) }
def Kg (n:Nat) (K:XE→List AV→ia→Option Out) (m:Nat) (l1:(Sq Int)) (i:Int) (m0:(Sq Int)):Option Out:=Pe tys (da Out (pg n)) (Lg n) n (Da [1,1,0,1,0,0] (aa Tryz.f10)) 0 tj sj K m (l1,(i,())) (m0,())
theorem Ls (n:Nat) (K:XE→List AV→ia→Option Out):∀ (m:Nat) l1 i m0,Kg n K m l1 i m0=(uc n m l1 i m0).bind (mc K)
 | 0,_,_,_=>by kernel_rfl
 | m+1,l1,i,m0=>by
  have h1:Kg n K (m+1) l1 i m0=xi n l1 i m0 (Kg n K m) (fun a=>mc K (.out a)) (fun a=>mc K (.ret a)) (fun p=>mc K (.pan p)):=by kernel_rfl
  have h2:Kg n K m=fun l1 i m0=>(uc n m l1 i m0).bind (mc K):=by
   repeat (refine funext fun _=>?_)
   exact Ls n K m _ _ _
  rw [h1,h2];exact (SF n m _ _ _ (mc K)).symm
theorem VD (n:Nat):ie tys (da Out (pg n)) (Lg n) n (Da [1,1,0,1,0,0] (aa Tryz.f10)) 0:=Oa (sp:=tj) (rp:=sj) (by kernel_rfl) fun K σ ρ=>Ls n K n σ.1 σ.2.1 ρ.1
theorem TF (n:Nat):ta tys (da Out (pg n)) (Lg n) n (aa Tryz.f10) 0:=⟨trivial,⟨trivial,⟨⟨trivial,⟨VD n,⟨⟨trivial,⟨trivial,trivial⟩⟩,⟨trivial,trivial⟩⟩⟩⟩,⟨trivial,trivial⟩⟩⟩⟩
theorem HH (n:Nat):Enters Tryz.prog 10:=enters_of (c:=aa Tryz.f10) Tryz.func10 (by kernel_rfl) (by kernel_rfl)
def Iw (n:Nat):Entry:=⟨10,pcT (.pair (.sl (.int .i64)) .unit) (.one (.sl (.int .i64))) (fun xs=>Jj n xs.1),none,none⟩
theorem IJ (n:Nat):EntryOk Tryz.prog gl (Iw n):=
 Qa (HH n) fun xs y h=>ra tys_ok (mq n) mixed (hint:=Lg n) (n:=n) Tryz.func10 (Pa (TF n)) (la (φ:=(fun y=>some (Out.ret (Vf (.one (.sl (.int .i64))) y)))) (by kernel_rfl) (BL n xs.1 _) h)
def Xm (n:Nat):List Entry:=Iw n::pg n
theorem Xp (n:Nat):AllOk Tryz.prog gl (Xm n):=.cons (IJ n) (mq n)
def xk (n:Nat) {R:Type} (lmtp:Bool) (refuse:(Sq Int)) (k:U9→Option R):Option R:=
 (Jj n refuse).bind fun v=>
 k (lmtp,(v,((0:Int),((⟨#[]⟩:BA),(false,((⟨#[]⟩:BA),(false,((⟨#[]⟩:BA),((⟨0,fun _=>Ba (.pair .str (.pair .str .unit))⟩:Sq U1),((⟨0,fun _=>Ba .str⟩:Sq BA),()))))))))))
def gg (n:Nat) (lmtp:Bool) (refuse:(Sq Int)):Option U9:=xk n lmtp refuse some
theorem OF (n:Nat) {S:Type}:∀ lmtp refuse (φ:_→Option S),(gg n lmtp refuse).bind φ=xk n lmtp refuse φ:=by
 intros;unfold gg xk;first | (simp only [fa,ba,iB,bB,oL,oX,nB,Option.bind_some]) | rfl
def Km (n:Nat):Hint OutS:={ live:=fun c=>[],run:=fun c=>none,xm:=fun c q=>none,nb:=[(74,1,.frz (.int .i64)),(74,6,.prm 47),(74,9,.prm 9)],na:=true }
theorem uz (n:Nat):ta tys (da OutS (Xm n)).keep (Km n) n (aa Tryz.f12) 0:=ma (fun _=>rfl) _ _ (by kernel_rfl)
theorem tB (n:Nat):Enters Tryz.prog 12:=enters_of (c:=aa Tryz.f12) Tryz.func12 (by kernel_rfl) (by kernel_rfl)
def Up:List RSp:=[.one (.dat .bool),.one (.dat (.sl (.int .i64)))]
def Tp:List RS:=[]
def uB:List Sl:=[.top,.top]
def vB:List RSp:=[.one (.ptr 0 0 0)]
def Af:List RS:=[.box 74 10 false [.dat .bool,.dat (.sl (.int .i64)),.dat (.int .i64),.dat .str,.dat .bool,.dat .str,.row 1,.dat .bool,.dat .str,.row 2],.row 47 2 (.pair .str (.pair .str .unit)) true true,.row 9 1 .str true true]
def yk (y:U9):OutS:=⟨false,dl (dc Af ((y.1,(y.2.1,(y.2.2.1,(y.2.2.2.1,(y.2.2.2.2.1,(y.2.2.2.2.2.1,(y.2.2.2.2.2.2.1,(y.2.2.2.2.2.2.2.1,())))))))),(y.2.2.2.2.2.2.2.2.1,(y.2.2.2.2.2.2.2.2.2.1,())))) uB (),aw (Xt (dc Af ((y.1,(y.2.1,(y.2.2.1,(y.2.2.2.1,(y.2.2.2.2.1,(y.2.2.2.2.2.1,(y.2.2.2.2.2.2.1,(y.2.2.2.2.2.2.2.1,())))))))),(y.2.2.2.2.2.2.2.2.1,(y.2.2.2.2.2.2.2.2.2.1,())))) vB ((),())),Qo (dc Af ((y.1,(y.2.1,(y.2.2.1,(y.2.2.2.1,(y.2.2.2.2.1,(y.2.2.2.2.2.1,(y.2.2.2.2.2.2.1,(y.2.2.2.2.2.2.2.1,())))))))),(y.2.2.2.2.2.2.2.2.1,(y.2.2.2.2.2.2.2.2.2.1,())))) Af ((y.1,(y.2.1,(y.2.2.1,(y.2.2.2.1,(y.2.2.2.2.1,(y.2.2.2.2.2.1,(y.2.2.2.2.2.2.1,(y.2.2.2.2.2.2.2.1,())))))))),(y.2.2.2.2.2.2.2.2.1,(y.2.2.2.2.2.2.2.2.2.1,())))⟩
theorem SD (n:Nat):EntryOk Tryz.prog gl ⟨12,gf,none,some (csT Up Tp (fun σ ρ=>gg n σ.1.1 σ.2.1.1) yk)⟩:=
 Sc (tB n) fun σ ρ y h=>db tys_ok (Xp n) mixed (hint:=Km n) (n:=n) Tryz.func12 (Pa (uz n)) (la (φ:=fun y=>some (yk y)) (by kernel_rfl) (OF n σ.1.1 σ.2.1.1 _) h)
def Sd (n:Nat):List Entry:=⟨12,gf,none,some (csT Up Tp (fun σ ρ=>gg n σ.1.1 σ.2.1.1) yk)⟩::Xm n
theorem Jl (n:Nat):AllOk Tryz.prog gl (Sd n):=.cons (SD n) (Xp n)
def Ql (n:Nat) {R:Type} (l1:(Sq Int)) (i:Int) (m0:(Sq Int)) (kn:(Sq Int)→Int→(Sq Int)→Option R) (ko:((Sq Int))→Option R) (kr:Unit→Option R) (kp:Int→Option R):Option R:=
 if (decide (i<(l1.n:Int)))=true then
 if 0≤i∧i<(l1.n:Int) then
  if Ta (m0.n+1) 1=true then
  kn l1 (IntKind.wrap .i64 (i+(1:Int))) (⟨(m0.n+1),fun q=>if q<m0.n then m0.at' q else (fun q=>List.getD (α:=Int) [(l1.at' (Int.toNat i))] q (Ba (.int .u8))) (q - m0.n)⟩:Sq Int)
  else
  none
 else
  none
 else
 ko m0
def Ed (n:Nat):Nat→(Sq Int)→Int→(Sq Int)→Option (Lx ((Sq Int)) Unit)
 | 0,_,_,_=>none
 | m+1,l1,i,m0=>Ql n l1 i m0 (Ed n m) (fun a=>some (.out a)) (fun a=>some (.ret a)) (fun p=>some (.pan p))
theorem GJ (n m:Nat) {S:Type}:∀ l1 i m0 (φ:_→Option S),(Ed n (m+1) l1 i m0).bind φ=Ql n l1 i m0 (fun l1 i m0=>(Ed n m l1 i m0).bind φ) (fun a=>φ (.out a)) (fun a=>φ (.ret a)) (fun p=>φ (.pan p)):=by
 intros;first | (simp only [Ed,Ql,fa,ba,iB,bB,oL,oX,nB,Option.bind_some]) | rfl
def Tl:List Sl:=.dat (.sl (.int .u8))::.top::.top::.row 0::.dat (.int .i64)::tp 14 []
def Rl:List RS:=[.row 5 1 (.int .u8) true false]
def xz:List Sl:=.top::.top::.top::.row 0::tp 15 []
def wz:List RS:=[.row 5 1 (.int .u8) true false]
def jd (K:XE→List AV→ia→Option Out):Lx ((Sq Int)) Unit→Option Out:=fun x=>onL x (fun a=>ak xz wz () (a,()) (K (.exit 0))) (fun _=>none) (fun _=>none)
def yv (n:Nat) {R:Type} (l:(Sq Int)) (k:(Sq Int)→Option R):Option R:=
 (Ed n n l (0:Int) (⟨0,fun _=>Ba (.int .u8)⟩:Sq Int)).bind fun x_1=>onL x_1
 (fun a_2=>
  k a_2)
 (fun _=>none)
 (fun _=>none)
def gu (n:Nat) (l:(Sq Int)):Option (Sq Int):=yv n l some
theorem mP (n:Nat) {S:Type}:∀ l (φ:_→Option S),(gu n l).bind φ=yv n l φ:=by
 intros;unfold gu yv;first | (simp only [fa,ba,iB,bB,oL,oX,nB,Option.bind_some]) | rfl
def wi (n:Nat):Hint Out:={ live:=fun c=>(cond (Nat.beq c 0) [(0,some (.sl (.int .u8))),(3,some (.sl (.int .u8))),(4,none)] []),run:=fun c=>(cond (Nat.beq c 0) (some (aq Tl Rl fun σ ρ K=>(Ed n n σ.1 σ.2.1 ρ.1).bind (jd K))) none),xm:=fun c q=>(cond (Nat.beq c 0&&Nat.beq (q.getD 1000000) 0&&q.isSome) (some [(3,some (.sl (.int .u8)))]) none) }
def vi (n:Nat) (K:XE→List AV→ia→Option Out) (m:Nat) (l1:(Sq Int)) (i:Int) (m0:(Sq Int)):Option Out:=Pe tys (da Out (Sd n)) (wi n) n (Da [1,1,0,1,0,0] (aa Tryz.f13)) 0 Tl Rl K m (l1,(i,())) (m0,())
theorem Fw (n:Nat) (K:XE→List AV→ia→Option Out):∀ (m:Nat) l1 i m0,vi n K m l1 i m0=(Ed n m l1 i m0).bind (jd K)
 | 0,_,_,_=>by kernel_rfl
 | m+1,l1,i,m0=>by
  have h1:vi n K (m+1) l1 i m0=Ql n l1 i m0 (vi n K m) (fun a=>jd K (.out a)) (fun a=>jd K (.ret a)) (fun p=>jd K (.pan p)):=by kernel_rfl
  have h2:vi n K m=fun l1 i m0=>(Ed n m l1 i m0).bind (jd K):=by
   repeat (refine funext fun _=>?_)
   exact Fw n K m _ _ _
  rw [h1,h2];exact (GJ n m _ _ _ (jd K)).symm
theorem GH (n:Nat):ie tys (da Out (Sd n)) (wi n) n (Da [1,1,0,1,0,0] (aa Tryz.f13)) 0:=Oa (sp:=Tl) (rp:=Rl) (by kernel_rfl) fun K σ ρ=>Fw n K n σ.1 σ.2.1 ρ.1
theorem HJ (n:Nat):ta tys (da Out (Sd n)) (wi n) n (aa Tryz.f13) 0:=⟨trivial,⟨trivial,⟨⟨trivial,⟨GH n,⟨⟨trivial,⟨trivial,trivial⟩⟩,⟨trivial,trivial⟩⟩⟩⟩,⟨trivial,trivial⟩⟩⟩⟩
theorem AL (n:Nat):Enters Tryz.prog 13:=enters_of (c:=aa Tryz.f13) Tryz.func13 (by kernel_rfl) (by kernel_rfl)
def xB (n:Nat):Entry:=⟨13,pcT (.pair (.sl (.int .u8)) .unit) (.one (.sl (.int .u8))) (fun xs=>gu n xs.1),none,none⟩
theorem uN (n:Nat):EntryOk Tryz.prog gl (xB n):=
 Qa (AL n) fun xs y h=>ra tys_ok (Jl n) mixed (hint:=wi n) (n:=n) Tryz.func13 (Pa (HJ n)) (la (φ:=(fun y=>some (Out.ret (Vf (.one (.sl (.int .u8))) y)))) (by kernel_rfl) (mP n xs.1 _) h)
def ci (n:Nat):List Entry:=xB n::Sd n
theorem iu (n:Nat):AllOk Tryz.prog gl (ci n):=.cons (uN n) (Jl n)
def Rc (n:Nat) {R:Type} (t25:(Sq U2)) (t26 t27:Int) (p:Bool) (p1:(Sq Int)) (p2:BA) (p3:Bool) (p4 p5:BA) (p6:Bool) (p7:BA) (r11 r21:(Sq BA)) (kn:(Sq U2)→Int→Int→Bool→(Sq Int)→BA→Bool→BA→BA→Bool→BA→(Sq BA)→(Sq BA)→Option R) (ko:U12→Option R) (kr:Unit→Option R) (kp:Int→Option R):Option R:=
 if (decide (t27<t26))=true then
 if 0≤t27∧t27<(t25.n:Int) then
  (Aa n (((t25.at' (Int.toNat t27))).1,((((t25.at' (Int.toNat t27))).2).1,())) p p1 p2 p3 p4 p5 p6 p7 r11 r21).bind fun v1=>
  kn t25 t26 (IntKind.wrap .i64 (t27+(1:Int))) v1.1 v1.2.1 v1.2.2.1 v1.2.2.2.1 v1.2.2.2.2.1 v1.2.2.2.2.2.1 v1.2.2.2.2.2.2.1 v1.2.2.2.2.2.2.2.1 v1.2.2.2.2.2.2.2.2.1 v1.2.2.2.2.2.2.2.2.2.1
 else
  none
 else
 ko (p,p1,p2,p3,p4,p5,p6,p7,r11,r21)
def Va (n:Nat):Nat→(Sq U2)→Int→Int→Bool→(Sq Int)→BA→Bool→BA→BA→Bool→BA→(Sq BA)→(Sq BA)→Option (Lx U12 Unit)
 | 0,_,_,_,_,_,_,_,_,_,_,_,_,_=>none
 | m+1,t25,t26,t27,p,p1,p2,p3,p4,p5,p6,p7,r11,r21=>Rc n t25 t26 t27 p p1 p2 p3 p4 p5 p6 p7 r11 r21 (Va n m) (fun a=>some (.out a)) (fun a=>some (.ret a)) (fun p=>some (.pan p))
theorem Wy (n m:Nat) {S:Type}:∀ t25 t26 t27 p p1 p2 p3 p4 p5 p6 p7 r11 r21 (φ:_→Option S),(Va n (m+1) t25 t26 t27 p p1 p2 p3 p4 p5 p6 p7 r11 r21).bind φ=Rc n t25 t26 t27 p p1 p2 p3 p4 p5 p6 p7 r11 r21 (fun t25 t26 t27 p p1 p2 p3 p4 p5 p6 p7 r11 r21=>(Va n m t25 t26 t27 p p1 p2 p3 p4 p5 p6 p7 r11 r21).bind φ) (fun a=>φ (.out a)) (fun a=>φ (.ret a)) (fun p=>φ (.pan p)):=by
 intros;first | (simp only [Va,Rc,fa,ba,iB,bB,oL,oX,nB,Option.bind_some]) | rfl
def Eg:List Sl:=.ptr 0 0 0::tp 24 (.dat (.sl (.pair .str (.pair .bool .unit)))::.dat (.int .i64)::.dat (.int .i64)::tp 11 [])
def Dg:List RS:=[.box 71 10 false [.dat .bool,.dat (.sl (.int .i64)),.dat .str,.dat .bool,.dat .str,.row 1,.dat .str,.dat .bool,.row 2,.dat .str],.row 9 1 .str true true,.row 9 1 .str true true,.ghost [.ptr 0 0 0,.top]]
def Pr:List Sl:=.ptr 0 0 0::tp 38 []
def Nr:List RS:=[.box 71 10 false [.dat .bool,.dat (.sl (.int .i64)),.dat .str,.dat .bool,.dat .str,.row 1,.dat .str,.dat .bool,.row 2,.dat .str],.row 9 1 .str true true,.row 9 1 .str true true,.ghost [.ptr 0 0 0,.top]]
def Mb (K:XE→List AV→ia→Option OutS):Lx U12 Unit→Option OutS:=fun x=>onL x (fun a=>ak Pr Nr () ((a.1,(a.2.1,(a.2.2.1,(a.2.2.2.1,(a.2.2.2.2.1,(a.2.2.2.2.2.1,(a.2.2.2.2.2.2.1,(a.2.2.2.2.2.2.2.1,())))))))),(a.2.2.2.2.2.2.2.2.1,(a.2.2.2.2.2.2.2.2.2,((),())))) (K (.exit 0))) (fun _=>none) (fun _=>none)
def Cg (n:Nat) {R:Type} (b:(Sq Int)) (b0:Bool) (b01:(Sq Int)) (b02:BA) (b03:Bool) (b04 b05:BA) (b06:Bool) (b07:BA) (r1 r2:(Sq BA)) (k:U4→Option R):Option R:=
 (bo n (b02,(b03,())) b).bind fun v=>
 (Va n n v.2.1 (v.2.1.n:Int) (0:Int) b0 b01 v.1.1 v.1.2.1 b04 b05 b06 (⟨#[]⟩:BA) r1 r2).bind fun x_1=>onL x_1
 (fun a_2=>
  k (a_2.2.2.2.2.2.2.2.1,(a_2.1,(a_2.2.1,(a_2.2.2.1,(a_2.2.2.2.1,(a_2.2.2.2.2.1,(a_2.2.2.2.2.2.1,(a_2.2.2.2.2.2.2.1,(a_2.2.2.2.2.2.2.2.1,(a_2.2.2.2.2.2.2.2.2.1,(a_2.2.2.2.2.2.2.2.2.2,()))))))))))))
 (fun _=>none)
 (fun _=>none)
def Hb (n:Nat) (b:(Sq Int)) (b0:Bool) (b01:(Sq Int)) (b02:BA) (b03:Bool) (b04 b05:BA) (b06:Bool) (b07:BA) (r1 r2:(Sq BA)):Option U4:=Cg n b b0 b01 b02 b03 b04 b05 b06 b07 r1 r2 some
theorem CF (n:Nat) {S:Type}:∀ b b0 b01 b02 b03 b04 b05 b06 b07 r1 r2 (φ:_→Option S),(Hb n b b0 b01 b02 b03 b04 b05 b06 b07 r1 r2).bind φ=Cg n b b0 b01 b02 b03 b04 b05 b06 b07 r1 r2 φ:=by
 intros;unfold Hb Cg;first | (simp only [fa,ba,iB,bB,oL,oX,nB,Option.bind_some]) | rfl
def Ge (n:Nat):Hint OutS:={ live:=fun c=>(cond (Nat.beq c 0) [(0,none),(25,some (.sl (.pair .str (.pair .bool .unit)))),(26,none),(27,none)] []),run:=fun c=>(cond (Nat.beq c 0) (some (aq Eg Dg fun σ ρ K=>(Va n n σ.1 σ.2.1 σ.2.2.1 ρ.1.1 ρ.1.2.1 ρ.1.2.2.1 ρ.1.2.2.2.1 ρ.1.2.2.2.2.1 ρ.1.2.2.2.2.2.1 ρ.1.2.2.2.2.2.2.1 ρ.1.2.2.2.2.2.2.2.1 ρ.2.1 ρ.2.2.1).bind (Mb K))) none),xm:=fun c q=>(cond (Nat.beq c 0&&Nat.beq (q.getD 1000000) 0&&q.isSome) (some [(0,none)]) none),nb:=[(71,1,.frz (.int .i64)),(71,5,.prm 9),(71,8,.prm 9)],na:=true }
def Fe (n:Nat) (K:XE→List AV→ia→Option OutS) (m:Nat) (t25:(Sq U2)) (t26:Int) (t27:Int) (p:Bool) (p1:(Sq Int)) (p2:BA) (p3:Bool) (p4:BA) (p5:BA) (p6:Bool) (p7:BA) (r11:(Sq BA)) (r21:(Sq BA)):Option OutS:=Pe tys (da OutS (ci n)).keep (Ge n) n (Da [1,1,1,0,1,0,0] (aa Tryz.f14)) 0 Eg Dg K m (t25,(t26,(t27,()))) ((p,(p1,(p2,(p3,(p4,(p5,(p6,(p7,())))))))),(r11,(r21,((),()))))
theorem ym (n:Nat) (K:XE→List AV→ia→Option OutS):∀ (m:Nat) t25 t26 t27 p p1 p2 p3 p4 p5 p6 p7 r11 r21,Fe n K m t25 t26 t27 p p1 p2 p3 p4 p5 p6 p7 r11 r21=(Va n m t25 t26 t27 p p1 p2 p3 p4 p5 p6 p7 r11 r21).bind (Mb K)
 | 0,_,_,_,_,_,_,_,_,_,_,_,_,_=>by kernel_rfl
 | m+1,t25,t26,t27,p,p1,p2,p3,p4,p5,p6,p7,r11,r21=>by
  have h1:Fe n K (m+1) t25 t26 t27 p p1 p2 p3 p4 p5 p6 p7 r11 r21=Rc n t25 t26 t27 p p1 p2 p3 p4 p5 p6 p7 r11 r21 (Fe n K m) (fun a=>Mb K (.out a)) (fun a=>Mb K (.ret a)) (fun p=>Mb K (.pan p)):=by kernel_rfl
  have h2:Fe n K m=fun t25 t26 t27 p p1 p2 p3 p4 p5 p6 p7 r11 r21=>(Va n m t25 t26 t27 p p1 p2 p3 p4 p5 p6 p7 r11 r21).bind (Mb K):=by
   repeat (refine funext fun _=>?_)
   exact ym n K m _ _ _ _ _ _ _ _ _ _ _ _ _
  rw [h1,h2];exact (Wy n m _ _ _ _ _ _ _ _ _ _ _ _ _ (Mb K)).symm
theorem Gx (n:Nat):ie tys (da OutS (ci n)).keep (Ge n) n (Da [1,1,1,0,1,0,0] (aa Tryz.f14)) 0:=Oa (sp:=Eg) (rp:=Dg) (by kernel_rfl) fun K σ ρ=>ym n K n σ.1 σ.2.1 σ.2.2.1 ρ.1.1 ρ.1.2.1 ρ.1.2.2.1 ρ.1.2.2.2.1 ρ.1.2.2.2.2.1 ρ.1.2.2.2.2.2.1 ρ.1.2.2.2.2.2.2.1 ρ.1.2.2.2.2.2.2.2.1 ρ.2.1 ρ.2.2.1
theorem Xy (n:Nat):ta tys (da OutS (ci n)).keep (Ge n) n (aa Tryz.f14) 0:=⟨trivial,⟨trivial,⟨trivial,⟨⟨trivial,⟨Gx n,⟨trivial,⟨⟨trivial,trivial⟩,⟨⟨trivial,trivial⟩,trivial⟩⟩⟩⟩⟩,⟨trivial,trivial⟩⟩⟩⟩⟩
theorem uA (n:Nat):Enters Tryz.prog 14:=enters_of (c:=aa Tryz.f14) Tryz.func14 (by kernel_rfl) (by kernel_rfl)
def Bp:List RSp:=[.one (.ptr 0 0 0),.one (.dat (.sl (.int .u8)))]
def Ap:List RS:=[.box 71 10 false [.dat .bool,.dat (.sl (.int .i64)),.dat .str,.dat .bool,.dat .str,.row 1,.dat .str,.dat .bool,.row 2,.dat .str],.row 9 1 .str true true,.row 9 1 .str true true]
def vA:List Sl:=[.ptr 0 0 0,.top]
def wA:List RSp:=[.one (.dat .str)]
def lf:List RS:=[.box 71 10 false [.dat .bool,.dat (.sl (.int .i64)),.dat .str,.dat .bool,.dat .str,.row 1,.dat .str,.dat .bool,.row 2,.dat .str],.row 9 1 .str true true,.row 9 1 .str true true]
def dk (y:U4):OutS:=⟨false,dl (dc lf ((y.2.1,(y.2.2.1,(y.2.2.2.1,(y.2.2.2.2.1,(y.2.2.2.2.2.1,(y.2.2.2.2.2.2.1,(y.2.2.2.2.2.2.2.1,(y.2.2.2.2.2.2.2.2.1,())))))))),(y.2.2.2.2.2.2.2.2.2.1,(y.2.2.2.2.2.2.2.2.2.2.1,())))) vA (),aw (Xt (dc lf ((y.2.1,(y.2.2.1,(y.2.2.2.1,(y.2.2.2.2.1,(y.2.2.2.2.2.1,(y.2.2.2.2.2.2.1,(y.2.2.2.2.2.2.2.1,(y.2.2.2.2.2.2.2.2.1,())))))))),(y.2.2.2.2.2.2.2.2.2.1,(y.2.2.2.2.2.2.2.2.2.2.1,())))) wA ((y.1,()),())),Qo (dc lf ((y.2.1,(y.2.2.1,(y.2.2.2.1,(y.2.2.2.2.1,(y.2.2.2.2.2.1,(y.2.2.2.2.2.2.1,(y.2.2.2.2.2.2.2.1,(y.2.2.2.2.2.2.2.2.1,())))))))),(y.2.2.2.2.2.2.2.2.2.1,(y.2.2.2.2.2.2.2.2.2.2.1,())))) lf ((y.2.1,(y.2.2.1,(y.2.2.2.1,(y.2.2.2.2.1,(y.2.2.2.2.2.1,(y.2.2.2.2.2.2.1,(y.2.2.2.2.2.2.2.1,(y.2.2.2.2.2.2.2.2.1,())))))))),(y.2.2.2.2.2.2.2.2.2.1,(y.2.2.2.2.2.2.2.2.2.2.1,())))⟩
theorem yD (n:Nat):EntryOk Tryz.prog gl ⟨14,gf,none,some (csT Bp Ap (fun σ ρ=>Hb n σ.2.1.1 ρ.1.1 ρ.1.2.1 ρ.1.2.2.1 ρ.1.2.2.2.1 ρ.1.2.2.2.2.1 ρ.1.2.2.2.2.2.1 ρ.1.2.2.2.2.2.2.1 ρ.1.2.2.2.2.2.2.2.1 ρ.2.1 ρ.2.2.1) dk)⟩:=
 Sc (uA n) fun σ ρ y h=>db tys_ok (iu n) mixed (hint:=Ge n) (n:=n) Tryz.func14 (Pa (Xy n)) (la (φ:=fun y=>some (dk y)) (by kernel_rfl) (CF n σ.2.1.1 ρ.1.1 ρ.1.2.1 ρ.1.2.2.1 ρ.1.2.2.2.1 ρ.1.2.2.2.2.1 ρ.1.2.2.2.2.2.1 ρ.1.2.2.2.2.2.2.1 ρ.1.2.2.2.2.2.2.2.1 ρ.2.1 ρ.2.2.1 _) h)
def Zi (n:Nat):List Entry:=⟨14,gf,none,some (csT Bp Ap (fun σ ρ=>Hb n σ.2.1.1 ρ.1.1 ρ.1.2.1 ρ.1.2.2.1 ρ.1.2.2.2.1 ρ.1.2.2.2.2.1 ρ.1.2.2.2.2.2.1 ρ.1.2.2.2.2.2.2.1 ρ.1.2.2.2.2.2.2.2.1 ρ.2.1 ρ.2.2.1) dk)⟩::ci n
theorem ql (n:Nat):AllOk Tryz.prog gl (Zi n):=.cons (yD n) (iu n)
def MN (n:Nat) {R:Type} (c:Int) (k:BA→Option R):Option R:=
 if (c==(13:Int))=true then
 k (⟨#[13]⟩:BA)
 else
 k (⟨#[]⟩:BA)
def QJ (n:Nat) (c:Int):Option BA:=MN n c some
theorem F2 (n:Nat) {S:Type}:∀ c (φ:_→Option S),(QJ n c).bind φ=MN n c φ:=by
 intros;unfold QJ MN;first | (simp only [fa,ba,iB,bB,oL,oX,nB,Option.bind_some]) | rfl
def VK (n:Nat):Hint Out:={ live:=fun c=>[],run:=fun c=>none,xm:=fun c q=>none }
theorem lU (n:Nat):ta tys (da Out (Zi n)) (VK n) n (aa Tryz.f63) 0:=ma (fun _=>rfl) _ _ (by kernel_rfl)
theorem kW (n:Nat):Enters Tryz.prog 63:=enters_of (c:=aa Tryz.f63) Tryz.func63 (by kernel_rfl) (by kernel_rfl)
def xQ (n:Nat):Entry:=⟨63,pcT (.pair (.int .u8) .unit) (.one .str) (fun xs=>QJ n xs.1),none,none⟩
theorem QY (n:Nat):EntryOk Tryz.prog gl (xQ n):=
 Qa (kW n) fun xs y h=>ra tys_ok (ql n) mixed (hint:=VK n) (n:=n) Tryz.func63 (Pa (lU n)) (la (φ:=(fun y=>some (Out.ret (Vf (.one .str) y)))) (by kernel_rfl) (F2 n xs.1 _) h)
def RJ (n:Nat):List Entry:=xQ n::Zi n
theorem fI (n:Nat):AllOk Tryz.prog gl (RJ n):=.cons (QY n) (ql n)
def LN (n:Nat) {R:Type} (s:BA) (k:Bool→Option R):Option R:=
 if (decide ((s.size:Int)≥(2:Int)))=true then
 if 0≤(IntKind.wrap .i64 ((s.size:Int) - (2:Int)))∧(IntKind.wrap .i64 ((s.size:Int) - (2:Int)))<(s.size:Int) then
  if ((bt s (IntKind.wrap .i64 ((s.size:Int) - (2:Int))))==(13:Int))=true then
  if 0≤(IntKind.wrap .i64 ((s.size:Int) - (1:Int)))∧(IntKind.wrap .i64 ((s.size:Int) - (1:Int)))<(s.size:Int) then
   k ((bt s (IntKind.wrap .i64 ((s.size:Int) - (1:Int))))==(10:Int))
  else
   none
  else
  k false
 else
  none
 else
 k false
def RR (n:Nat) (s:BA):Option Bool:=LN n s some
theorem D2 (n:Nat) {S:Type}:∀ s (φ:_→Option S),(RR n s).bind φ=LN n s φ:=by
 intros;unfold RR LN;first | (simp only [fa,ba,iB,bB,oL,oX,nB,Option.bind_some]) | rfl
def UK (n:Nat):Hint Out:={ live:=fun c=>[],run:=fun c=>none,xm:=fun c q=>none }
theorem kU (n:Nat):ta tys (da Out (RJ n)) (UK n) n (aa Tryz.f64) 0:=ma (fun _=>rfl) _ _ (by kernel_rfl)
theorem jW (n:Nat):Enters Tryz.prog 64:=enters_of (c:=aa Tryz.f64) Tryz.func64 (by kernel_rfl) (by kernel_rfl)
def wQ (n:Nat):Entry:=⟨64,pcT (.pair .str .unit) (.one .bool) (fun xs=>RR n xs.1),none,none⟩
theorem PY (n:Nat):EntryOk Tryz.prog gl (wQ n):=
 Qa (jW n) fun xs y h=>ra tys_ok (fI n) mixed (hint:=UK n) (n:=n) Tryz.func64 (Pa (kU n)) (la (φ:=(fun y=>some (Out.ret (Vf (.one .bool) y)))) (by kernel_rfl) (D2 n xs.1 _) h)
def Mw (n:Nat):List Entry:=wQ n::RJ n
theorem eI (n:Nat):AllOk Tryz.prog gl (Mw n):=.cons (PY n) (fI n)
def TC (n:Nat) {R:Type} (b1:(Sq Int)) (i:Int) (f1:BA) (f2:Bool) (t4:BA) (t41:Bool) (l:(Sq U2)) (kn:(Sq Int)→Int→BA→Bool→BA→Bool→(Sq U2)→Option R) (ko:(BA×Bool×BA×Bool×(Sq U2))→Option R) (kr:Unit→Option R) (kp:Int→Option R):Option R:=
 if (decide (i<(b1.n:Int)))=true then
 if 0≤i∧i<(b1.n:Int) then
  if f2=true then
  if (f1.toList==(⟨#[13]⟩:BA).toList)=true then
   if ((b1.at' (Int.toNat i))==(10:Int))=true then
   if Ta (l.n+1) 24=true then
    kn b1 (IntKind.wrap .i64 (i+(1:Int))) (⟨#[]⟩:BA) false t4 t41 (⟨(l.n+1),fun q=>if q<l.n then l.at' q else (fun q=>List.getD (α:=U2) [((⟨#[]⟩:BA),(true,()))] q (Ba (.pair .str (.pair .bool .unit)))) (q - l.n)⟩:Sq U2)
   else
    none
   else
   (QJ n (b1.at' (Int.toNat i))).bind fun v=>
   kn b1 (IntKind.wrap .i64 (i+(1:Int))) v f2 t4 t41 l
  else
   (QJ n (b1.at' (Int.toNat i))).bind fun v1=>
   kn b1 (IntKind.wrap .i64 (i+(1:Int))) v1 f2 t4 t41 l
  else
  if 0≤(IntKind.wrap .i64 (i+(1:Int)))∧(IntKind.wrap .i64 (i+(1:Int)))≤(b1.n:Int) then
   if 0≤i∧i≤(IntKind.wrap .i64 (i+(1:Int))) then
   if Ca f1 (Oh ((Int.toNat (IntKind.wrap .i64 (i+(1:Int)))) - (Int.toNat i)) (fun j_0=>b1.at' ((Int.toNat i)+j_0)))=true then
    (RR n (f1++(Oh ((Int.toNat (IntKind.wrap .i64 (i+(1:Int)))) - (Int.toNat i)) (fun j_0=>b1.at' ((Int.toNat i)+j_0))))).bind fun v2=>
    if v2=true then
    if 0≤(IntKind.wrap .i64 (((f1++(Oh ((Int.toNat (IntKind.wrap .i64 (i+(1:Int)))) - (Int.toNat i)) (fun j_0=>b1.at' ((Int.toNat i)+j_0)))).size:Int) - (2:Int)))∧(IntKind.wrap .i64 (((f1++(Oh ((Int.toNat (IntKind.wrap .i64 (i+(1:Int)))) - (Int.toNat i)) (fun j_0=>b1.at' ((Int.toNat i)+j_0)))).size:Int) - (2:Int)))≤((f1++(Oh ((Int.toNat (IntKind.wrap .i64 (i+(1:Int)))) - (Int.toNat i)) (fun j_0=>b1.at' ((Int.toNat i)+j_0)))).size:Int) then
     if Ta (l.n+1) 24=true then
     kn b1 (IntKind.wrap .i64 (i+(1:Int))) (⟨#[]⟩:BA) f2 t4 t41 (⟨(l.n+1),fun q=>if q<l.n then l.at' q else (fun q=>List.getD (α:=U2) [(((f1++(Oh ((Int.toNat (IntKind.wrap .i64 (i+(1:Int)))) - (Int.toNat i)) (fun j_0=>b1.at' ((Int.toNat i)+j_0)))).extract (Int.toNat (0:Int)) (Int.toNat (IntKind.wrap .i64 (((f1++(Oh ((Int.toNat (IntKind.wrap .i64 (i+(1:Int)))) - (Int.toNat i)) (fun j_0=>b1.at' ((Int.toNat i)+j_0)))).size:Int) - (2:Int))))),(false,()))] q (Ba (.pair .str (.pair .bool .unit)))) (q - l.n)⟩:Sq U2)
     else
     none
    else
     none
    else
    if (decide (((f1++(Oh ((Int.toNat (IntKind.wrap .i64 (i+(1:Int)))) - (Int.toNat i)) (fun j_0=>b1.at' ((Int.toNat i)+j_0)))).size:Int)≥(512:Int)))=true then
     (QJ n (b1.at' (Int.toNat i))).bind fun v3=>
     kn b1 (IntKind.wrap .i64 (i+(1:Int))) v3 true t4 t41 l
    else
     kn b1 (IntKind.wrap .i64 (i+(1:Int))) (f1++(Oh ((Int.toNat (IntKind.wrap .i64 (i+(1:Int)))) - (Int.toNat i)) (fun j_0=>b1.at' ((Int.toNat i)+j_0)))) f2 t4 t41 l
   else
    none
   else
   none
  else
   none
 else
  none
 else
 ko (f1,f2,t4,t41,l)
def Tk (n:Nat):Nat→(Sq Int)→Int→BA→Bool→BA→Bool→(Sq U2)→Option (Lx (BA×Bool×BA×Bool×(Sq U2)) Unit)
 | 0,_,_,_,_,_,_,_=>none
 | m+1,b1,i,f1,f2,t4,t41,l=>TC n b1 i f1 f2 t4 t41 l (Tk n m) (fun a=>some (.out a)) (fun a=>some (.ret a)) (fun p=>some (.pan p))
theorem gU (n m:Nat) {S:Type}:∀ b1 i f1 f2 t4 t41 l (φ:_→Option S),(Tk n (m+1) b1 i f1 f2 t4 t41 l).bind φ=TC n b1 i f1 f2 t4 t41 l (fun b1 i f1 f2 t4 t41 l=>(Tk n m b1 i f1 f2 t4 t41 l).bind φ) (fun a=>φ (.out a)) (fun a=>φ (.ret a)) (fun p=>φ (.pan p)):=by
 intros;first | (simp only [Tk,TC,fa,ba,iB,bB,oL,oX,nB,Option.bind_some]) | rfl
def Xx:List Sl:=.top::.dat (.sl (.int .u8))::.ptr 0 0 0::.top::.ptr 1 0 0::.top::.row 2::.dat (.int .i64)::tp 62 []
def Wx:List RS:=[.box 45 2 true [.dat .str,.dat .bool],.box 45 2 true [.dat .str,.dat .bool],.row 60 2 (.pair .str (.pair .bool .unit)) true false]
def NJ:List Sl:=.top::.top::.ptr 0 0 0::.top::.ptr 1 0 0::.top::.row 2::tp 63 []
def MJ:List RS:=[.box 45 2 true [.dat .str,.dat .bool],.box 45 2 true [.dat .str,.dat .bool],.row 60 2 (.pair .str (.pair .bool .unit)) true false]
def ii (K:XE→List AV→ia→Option Out):Lx (BA×Bool×BA×Bool×(Sq U2)) Unit→Option Out:=fun x=>onL x (fun a=>ak NJ MJ () ((a.1,(a.2.1,())),((a.2.2.1,(a.2.2.2.1,())),(a.2.2.2.2,()))) (K (.exit 0))) (fun _=>none) (fun _=>none)
def KN (n:Nat) {R:Type} (f:U2) (b:(Sq Int)) (k:(U2×(Sq U2)×Unit)→Option R):Option R:=
 (Tk n n b (0:Int) f.1 f.2.1 (⟨#[]⟩:BA) false (⟨0,fun _=>Ba (.pair .str (.pair .bool .unit))⟩:Sq U2)).bind fun x_1=>onL x_1
 (fun a_2=>
  k ((a_2.1,(a_2.2.1,())),(a_2.2.2.2.2,())))
 (fun _=>none)
 (fun _=>none)
def PR (n:Nat) (f:U2) (b:(Sq Int)):Option (U2×(Sq U2)×Unit):=KN n f b some
theorem B2 (n:Nat) {S:Type}:∀ f b (φ:_→Option S),(PR n f b).bind φ=KN n f b φ:=by
 intros;unfold PR KN;first | (simp only [fa,ba,iB,bB,oL,oX,nB,Option.bind_some]) | rfl
def nu (n:Nat):Hint Out:={ live:=fun c=>(cond (Nat.beq c 0) [(1,some (.sl (.int .u8))),(2,none),(4,none),(6,some (.sl (.pair .str (.pair .bool .unit)))),(7,none)] []),run:=fun c=>(cond (Nat.beq c 0) (some (aq Xx Wx fun σ ρ K=>(Tk n n σ.1 σ.2.1 ρ.1.1 ρ.1.2.1 ρ.2.1.1 ρ.2.1.2.1 ρ.2.2.1).bind (ii K))) none),xm:=fun c q=>(cond (Nat.beq c 0&&Nat.beq (q.getD 1000000) 0&&q.isSome) (some [(2,none),(4,none),(6,some (.sl (.pair .str (.pair .bool .unit))))]) none) }
def mu (n:Nat) (K:XE→List AV→ia→Option Out) (m:Nat) (b1:(Sq Int)) (i:Int) (f1:BA) (f2:Bool) (t4:BA) (t41:Bool) (l:(Sq U2)):Option Out:=Pe tys (da Out (Mw n)) (nu n) n (Da [1,1,0,1,0,0] (aa Tryz.f36)) 0 Xx Wx K m (b1,(i,())) ((f1,(f2,())),((t4,(t41,())),(l,())))
theorem SK (n:Nat) (K:XE→List AV→ia→Option Out):∀ (m:Nat) b1 i f1 f2 t4 t41 l,mu n K m b1 i f1 f2 t4 t41 l=(Tk n m b1 i f1 f2 t4 t41 l).bind (ii K)
 | 0,_,_,_,_,_,_,_=>by kernel_rfl
 | m+1,b1,i,f1,f2,t4,t41,l=>by
  have h1:mu n K (m+1) b1 i f1 f2 t4 t41 l=TC n b1 i f1 f2 t4 t41 l (mu n K m) (fun a=>ii K (.out a)) (fun a=>ii K (.ret a)) (fun p=>ii K (.pan p)):=by kernel_rfl
  have h2:mu n K m=fun b1 i f1 f2 t4 t41 l=>(Tk n m b1 i f1 f2 t4 t41 l).bind (ii K):=by
   repeat (refine funext fun _=>?_)
   exact SK n K m _ _ _ _ _ _ _
  rw [h1,h2];exact (gU n m _ _ _ _ _ _ _ (ii K)).symm
theorem QR (n:Nat):ie tys (da Out (Mw n)) (nu n) n (Da [1,1,0,1,0,0] (aa Tryz.f36)) 0:=Oa (sp:=Xx) (rp:=Wx) (by kernel_rfl) fun K σ ρ=>SK n K n σ.1 σ.2.1 ρ.1.1 ρ.1.2.1 ρ.2.1.1 ρ.2.1.2.1 ρ.2.2.1
theorem iU (n:Nat):ta tys (da Out (Mw n)) (nu n) n (aa Tryz.f36) 0:=⟨trivial,⟨trivial,⟨⟨trivial,⟨QR n,⟨⟨trivial,⟨trivial,trivial⟩⟩,⟨⟨trivial,⟨⟨trivial,⟨⟨⟨trivial,⟨⟨trivial,trivial⟩,trivial⟩⟩,trivial⟩,trivial⟩⟩,⟨trivial,⟨trivial,⟨⟨trivial,trivial⟩,⟨trivial,⟨trivial,trivial⟩⟩⟩⟩⟩⟩⟩,trivial⟩⟩⟩⟩,⟨trivial,trivial⟩⟩⟩⟩
theorem gW (n:Nat):Enters Tryz.prog 36:=enters_of (c:=aa Tryz.f36) Tryz.func36 (by kernel_rfl) (by kernel_rfl)
def uQ (n:Nat):Entry:=⟨36,pcT K1 (.many K0) (fun xs=>PR n xs.1 xs.2.1),none,none⟩
theorem NY (n:Nat):EntryOk Tryz.prog gl (uQ n):=
 Qa (gW n) fun xs y h=>ra tys_ok (eI n) mixed (hint:=nu n) (n:=n) Tryz.func36 (Pa (iU n)) (la (φ:=(fun y=>some (Out.ret (Vf (.many K0) y)))) (by kernel_rfl) (B2 n xs.1 xs.2.1 _) h)
def Lw (n:Nat):List Entry:=uQ n::Mw n
theorem bI (n:Nat):AllOk Tryz.prog gl (Lw n):=.cons (NY n) (eI n)
def lM (n:Nat) {R:Type} (l1:(Sq Int)) (n01 i:Int) (kn:(Sq Int)→Int→Int→Option R) (ko:(Unit)→Option R) (kr:(Int)→Option R) (kp:Int→Option R):Option R:=
 if (decide (i<(l1.n:Int)))=true then
 if 0≤i∧i<(l1.n:Int) then
  if ((l1.at' (Int.toNat i))==n01)=true then
  kr i
  else
  kn l1 n01 (IntKind.wrap .i64 (i+(1:Int)))
 else
  none
 else
 ko ()
def ku (n:Nat):Nat→(Sq Int)→Int→Int→Option (Lx (Unit) (Int))
 | 0,_,_,_=>none
 | m+1,l1,n01,i=>lM n l1 n01 i (ku n m) (fun a=>some (.out a)) (fun a=>some (.ret a)) (fun p=>some (.pan p))
theorem GY (n m:Nat) {S:Type}:∀ l1 n01 i (φ:_→Option S),(ku n (m+1) l1 n01 i).bind φ=lM n l1 n01 i (fun l1 n01 i=>(ku n m l1 n01 i).bind φ) (fun a=>φ (.out a)) (fun a=>φ (.ret a)) (fun p=>φ (.pan p)):=by
 intros;first | (simp only [ku,lM,fa,ba,iB,bB,oL,oX,nB,Option.bind_some]) | rfl
def WF:List Sl:=.dat (.sl (.int .i64))::.dat (.int .i64)::.top::.top::.top::.dat (.int .i64)::tp 13 []
def VF:List RS:=[]
def BN:List Sl:=tp 19 []
def AN:List RS:=[]
def DN:List Sl:=tp 4 (.dat (.int .i64)::tp 14 [])
def CN:List RS:=[]
def Ym (K:XE→List AV→ia→Option Out):Lx (Unit) (Int)→Option Out:=fun x=>onL x (fun a=>ak BN AN () () (K (.exit 0))) (fun a=>ak DN CN (a,()) () (K .ret)) (fun _=>none)
def aW (n:Nat) {R:Type} (l:(Sq Int)) (n0:Int) (k:Int→Option R):Option R:=
 (ku n n l n0 (0:Int)).bind fun x_1=>onL x_1
 (fun a_2=>
  k (-1:Int))
 (fun a_3=>
  k a_3)
 (fun _=>none)
def A5 (n:Nat) (l:(Sq Int)) (n0:Int):Option Int:=aW n l n0 some
theorem W7 (n:Nat) {S:Type}:∀ l n0 (φ:_→Option S),(A5 n l n0).bind φ=aW n l n0 φ:=by
 intros;unfold A5 aW;first | (simp only [fa,ba,iB,bB,oL,oX,nB,Option.bind_some]) | rfl
def OC (n:Nat):Hint Out:={ live:=fun c=>(cond (Nat.beq c 0) [(0,some (.sl (.int .i64))),(1,none),(5,none)] []),run:=fun c=>(cond (Nat.beq c 0) (some (aq WF VF fun σ ρ K=>(ku n n σ.1 σ.2.1 σ.2.2.1).bind (Ym K))) none),xm:=fun c q=>(cond (Nat.beq c 0&&Nat.beq (q.getD 1000000) 0&&q.isSome) (some []) (cond (Nat.beq c 1&&q.isNone) (some [(4,none)]) none)) }
def NC (n:Nat) (K:XE→List AV→ia→Option Out) (m:Nat) (l1:(Sq Int)) (n01:Int) (i:Int):Option Out:=Pe tys (da Out (Lw n)) (OC n) n (Da [1,0,1,0,0] (aa Tryz.f98)) 0 WF VF K m (l1,(n01,(i,()))) ()
theorem tQ (n:Nat) (K:XE→List AV→ia→Option Out):∀ (m:Nat) l1 n01 i,NC n K m l1 n01 i=(ku n m l1 n01 i).bind (Ym K)
 | 0,_,_,_=>by kernel_rfl
 | m+1,l1,n01,i=>by
  have h1:NC n K (m+1) l1 n01 i=lM n l1 n01 i (NC n K m) (fun a=>Ym K (.out a)) (fun a=>Ym K (.ret a)) (fun p=>Ym K (.pan p)):=by kernel_rfl
  have h2:NC n K m=fun l1 n01 i=>(ku n m l1 n01 i).bind (Ym K):=by
   repeat (refine funext fun _=>?_)
   exact tQ n K m _ _ _
  rw [h1,h2];exact (GY n m _ _ _ (Ym K)).symm
theorem bW (n:Nat):ie tys (da Out (Lw n)) (OC n) n (Da [1,0,1,0,0] (aa Tryz.f98)) 0:=Oa (sp:=WF) (rp:=VF) (by kernel_rfl) fun K σ ρ=>tQ n K n σ.1 σ.2.1 σ.2.2.1
theorem HY (n:Nat):ta tys (da Out (Lw n)) (OC n) n (aa Tryz.f98) 0:=⟨trivial,⟨⟨trivial,⟨bW n,⟨⟨trivial,⟨trivial,trivial⟩⟩,⟨⟨trivial,⟨⟨trivial,trivial⟩,trivial⟩⟩,trivial⟩⟩⟩⟩,⟨trivial,trivial⟩⟩⟩
theorem A2 (n:Nat):Enters Tryz.prog 98:=enters_of (c:=aa Tryz.f98) Tryz.func98 (by kernel_rfl) (by kernel_rfl)
def QX (n:Nat):Entry:=⟨98,pcT (.pair (.sl (.int .i64)) (.pair (.int .i64) .unit)) (.one (.int .i64)) (fun xs=>A5 n xs.1 xs.2.1),none,none⟩
theorem B5 (n:Nat):EntryOk Tryz.prog gl (QX n):=
 Qa (A2 n) fun xs y h=>ra tys_ok (bI n) mixed (hint:=OC n) (n:=n) Tryz.func98 (Pa (HY n)) (la (φ:=(fun y=>some (Out.ret (Vf (.one (.int .i64)) y)))) (by kernel_rfl) (W7 n xs.1 xs.2.1 _) h)
def LH (n:Nat):List Entry:=QX n::Lw n
theorem EN (n:Nat):AllOk Tryz.prog gl (LH n):=.cons (B5 n) (bI n)
def Gq (n:Nat) {R:Type} (n01:Int) (s:BA) (kn:Int→BA→Option R) (ko:(Int×BA)→Option R) (kr:Unit→Option R) (kp:Int→Option R):Option R:=
 if (decide (n01≥(10:Int)))=true then
 if Ca (Oh 1 (fun q=>List.getD (α:=Int) [(IntKind.wrap .u8 (IntKind.wrap .i64 ((48:Int)+(Int.tmod n01 (10:Int)))))] q (Ba (.int .u8)))) s=true then
  kn (IntKind.wrap .i64 (Int.tdiv n01 (10:Int))) ((Oh 1 (fun q=>List.getD (α:=Int) [(IntKind.wrap .u8 (IntKind.wrap .i64 ((48:Int)+(Int.tmod n01 (10:Int)))))] q (Ba (.int .u8))))++s)
 else
  none
 else
 ko (n01,s)
def Cf (n:Nat):Nat→Int→BA→Option (Lx (Int×BA) Unit)
 | 0,_,_=>none
 | m+1,n01,s=>Gq n n01 s (Cf n m) (fun a=>some (.out a)) (fun a=>some (.ret a)) (fun p=>some (.pan p))
theorem vN (n m:Nat) {S:Type}:∀ n01 s (φ:_→Option S),(Cf n (m+1) n01 s).bind φ=Gq n n01 s (fun n01 s=>(Cf n m n01 s).bind φ) (fun a=>φ (.out a)) (fun a=>φ (.ret a)) (fun p=>φ (.pan p)):=by
 intros;first | (simp only [Cf,Gq,fa,ba,iB,bB,oL,oX,nB,Option.bind_some]) | rfl
def bp:List Sl:=.dat (.int .i64)::.top::.top::.dat .str::tp 25 []
def ap:List RS:=[]
def YD:List Sl:=.dat (.int .i64)::.top::.top::.dat .str::tp 25 []
def XD:List RS:=[]
def ve (K:XE→List AV→ia→Option Out):Lx (Int×BA) Unit→Option Out:=fun x=>onL x (fun a=>ak YD XD (a.1,(a.2,())) () (K (.exit 0))) (fun _=>none) (fun _=>none)
def BB (n:Nat) {R:Type} (n0:Int) (k:BA→Option R):Option R:=
 if (decide (n0<(0:Int)))=true then
 none
 else
 (Cf n n n0 (⟨#[]⟩:BA)).bind fun x_1=>onL x_1
  (fun a_2=>
  if Ca (Oh 1 (fun q=>List.getD (α:=Int) [(IntKind.wrap .u8 (IntKind.wrap .i64 ((48:Int)+a_2.1)))] q (Ba (.int .u8)))) a_2.2=true then
   k ((Oh 1 (fun q=>List.getD (α:=Int) [(IntKind.wrap .u8 (IntKind.wrap .i64 ((48:Int)+a_2.1)))] q (Ba (.int .u8))))++a_2.2)
  else
   none)
  (fun _=>none)
  (fun _=>none)
def Jw (n:Nat) (n0:Int):Option BA:=BB n n0 some
theorem aU (n:Nat) {S:Type}:∀ n0 (φ:_→Option S),(Jw n n0).bind φ=BB n n0 φ:=by
 intros;unfold Jw BB;first | (simp only [fa,ba,iB,bB,oL,oX,nB,Option.bind_some]) | rfl
def Xl (n:Nat):Hint Out:={ live:=fun c=>(cond (Nat.beq c 0) [(0,none),(3,none)] []),run:=fun c=>(cond (Nat.beq c 0) (some (aq bp ap fun σ ρ K=>(Cf n n σ.1 σ.2.1).bind (ve K))) none),xm:=fun c q=>(cond (Nat.beq c 0&&Nat.beq (q.getD 1000000) 0&&q.isSome) (some [(0,none),(3,none)]) none) }
def Vl (n:Nat) (K:XE→List AV→ia→Option Out) (m:Nat) (n01:Int) (s:BA):Option Out:=Pe tys (da Out (LH n)) (Xl n) n (Da [1,1,1,0,0,0] (aa Tryz.f121)) 0 bp ap K m (n01,(s,())) ()
theorem CB (n:Nat) (K:XE→List AV→ia→Option Out):∀ (m:Nat) n01 s,Vl n K m n01 s=(Cf n m n01 s).bind (ve K)
 | 0,_,_=>by kernel_rfl
 | m+1,n01,s=>by
  have h1:Vl n K (m+1) n01 s=Gq n n01 s (Vl n K m) (fun a=>ve K (.out a)) (fun a=>ve K (.ret a)) (fun p=>ve K (.pan p)):=by kernel_rfl
  have h2:Vl n K m=fun n01 s=>(Cf n m n01 s).bind (ve K):=by
   repeat (refine funext fun _=>?_)
   exact CB n K m _ _
  rw [h1,h2];exact (vN n m _ _ (ve K)).symm
theorem CL (n:Nat):ie tys (da Out (LH n)) (Xl n) n (Da [1,1,1,0,0,0] (aa Tryz.f121)) 0:=Oa (sp:=bp) (rp:=ap) (by kernel_rfl) fun K σ ρ=>CB n K n σ.1 σ.2.1
theorem wN (n:Nat):ta tys (da Out (LH n)) (Xl n) n (aa Tryz.f121) 0:=⟨trivial,⟨⟨trivial,⟨⟨trivial,trivial⟩,trivial⟩⟩,⟨trivial,⟨⟨CL n,⟨⟨trivial,⟨trivial,trivial⟩⟩,⟨trivial,trivial⟩⟩⟩,⟨trivial,trivial⟩⟩⟩⟩⟩
theorem nP (n:Nat):Enters Tryz.prog 121:=enters_of (c:=aa Tryz.f121) Tryz.func121 (by kernel_rfl) (by kernel_rfl)
def IH (n:Nat):Entry:=⟨121,pcT (.pair (.int .i64) .unit) (.one .str) (fun xs=>Jw n xs.1),none,none⟩
theorem ER (n:Nat):EntryOk Tryz.prog gl (IH n):=
 Qa (nP n) fun xs y h=>ra tys_ok (EN n) mixed (hint:=Xl n) (n:=n) Tryz.func121 (Pa (wN n)) (la (φ:=(fun y=>some (Out.ret (Vf (.one .str) y)))) (by kernel_rfl) (aU n xs.1 _) h)
def Wl (n:Nat):List Entry:=IH n::LH n
theorem Hy (n:Nat):AllOk Tryz.prog gl (Wl n):=.cons (ER n) (EN n)
def Vx (n:Nat) {R:Type} (s:BA) (i r1:Int) (r2:(Sq BA)) (kn:BA→Int→Int→(Sq BA)→Option R) (ko:(BA)→Option R) (kr:Unit→Option R) (kp:Int→Option R):Option R:=
 if (decide (i<(r2.n:Int)))=true then
 if (i==(IntKind.wrap .i64 ((r2.n:Int) - (1:Int))))=true then
  (Jw n r1).bind fun v=>
  if Ca s v=true then
  if Ca (s++v) (⟨#[32]⟩:BA)=true then
   if 0≤i∧i<(r2.n:Int) then
   if Ca ((s++v)++(⟨#[32]⟩:BA)) (r2.at' (Int.toNat i))=true then
    if Ca (((s++v)++(⟨#[32]⟩:BA))++(r2.at' (Int.toNat i))) (⟨#[13,10]⟩:BA)=true then
    kn ((((s++v)++(⟨#[32]⟩:BA))++(r2.at' (Int.toNat i)))++(⟨#[13,10]⟩:BA)) (IntKind.wrap .i64 (i+(1:Int))) r1 r2
    else
    none
   else
    none
   else
   none
  else
   none
  else
  none
 else
  (Jw n r1).bind fun v1=>
  if Ca s v1=true then
  if Ca (s++v1) (⟨#[45]⟩:BA)=true then
   if 0≤i∧i<(r2.n:Int) then
   if Ca ((s++v1)++(⟨#[45]⟩:BA)) (r2.at' (Int.toNat i))=true then
    if Ca (((s++v1)++(⟨#[45]⟩:BA))++(r2.at' (Int.toNat i))) (⟨#[13,10]⟩:BA)=true then
    kn ((((s++v1)++(⟨#[45]⟩:BA))++(r2.at' (Int.toNat i)))++(⟨#[13,10]⟩:BA)) (IntKind.wrap .i64 (i+(1:Int))) r1 r2
    else
    none
   else
    none
   else
   none
  else
   none
  else
  none
 else
 ko s
def fi (n:Nat):Nat→BA→Int→Int→(Sq BA)→Option (Lx (BA) Unit)
 | 0,_,_,_,_=>none
 | m+1,s,i,r1,r2=>Vx n s i r1 r2 (fi n m) (fun a=>some (.out a)) (fun a=>some (.ret a)) (fun p=>some (.pan p))
theorem NR (n m:Nat) {S:Type}:∀ s i r1 r2 (φ:_→Option S),(fi n (m+1) s i r1 r2).bind φ=Vx n s i r1 r2 (fun s i r1 r2=>(fi n m s i r1 r2).bind φ) (fun a=>φ (.out a)) (fun a=>φ (.ret a)) (fun p=>φ (.pan p)):=by
 intros;first | (simp only [fi,Vx,fa,ba,iB,bB,oL,oX,nB,Option.bind_some]) | rfl
def Gv:List Sl:=.top::.ptr 0 0 0::.top::.dat .str::.dat (.int .i64)::tp 29 []
def Fv:List RS:=[.box 94 2 true [.dat (.int .i64),.dat (.sl .str)]]
def aI:List Sl:=.top::.top::.top::.dat .str::tp 30 []
def ZH:List RS:=[]
def Rg (K:XE→List AV→ia→Option Out):Lx (BA) Unit→Option Out:=fun x=>onL x (fun a=>ak aI ZH (a,()) () (K (.exit 0))) (fun _=>none) (fun _=>none)
def LJ (n:Nat) {R:Type} (r:U21) (k:BA→Option R):Option R:=
 (fi n n (⟨#[]⟩:BA) (0:Int) r.1 r.2.1).bind fun x_1=>onL x_1
 (fun a_2=>
  k a_2)
 (fun _=>none)
 (fun _=>none)
def XH (n:Nat) (r:U21):Option BA:=LJ n r some
theorem MY (n:Nat) {S:Type}:∀ r (φ:_→Option S),(XH n r).bind φ=LJ n r φ:=by
 intros;unfold XH LJ;first | (simp only [fa,ba,iB,bB,oL,oX,nB,Option.bind_some]) | rfl
def Pq (n:Nat):Hint Out:={ live:=fun c=>(cond (Nat.beq c 0) (lv [1,3,4]) []),run:=fun c=>(cond (Nat.beq c 0) (some (aq Gv Fv fun σ ρ K=>(fi n n σ.1 σ.2.1 ρ.1.1 ρ.1.2.1).bind (Rg K))) none),xm:=fun c q=>(cond (Nat.beq c 0&&Nat.beq (q.getD 1000000) 0&&q.isSome) (some [(3,none)]) none) }
def Oq (n:Nat) (K:XE→List AV→ia→Option Out) (m:Nat) (s:BA) (i:Int) (r1:Int) (r2:(Sq BA)):Option Out:=Pe tys (da Out (Wl n)) (Pq n) n (Da [1,1,0,1,0,0] (aa Tryz.f99)) 0 Gv Fv K m (s,(i,())) ((r1,(r2,())),())
theorem YH (n:Nat) (K:XE→List AV→ia→Option Out):∀ (m:Nat) s i r1 r2,Oq n K m s i r1 r2=(fi n m s i r1 r2).bind (Rg K)
 | 0,_,_,_,_=>by kernel_rfl
 | m+1,s,i,r1,r2=>by
  have h1:Oq n K (m+1) s i r1 r2=Vx n s i r1 r2 (Oq n K m) (fun a=>Rg K (.out a)) (fun a=>Rg K (.ret a)) (fun p=>Rg K (.pan p)):=by kernel_rfl
  have h2:Oq n K m=fun s i r1 r2=>(fi n m s i r1 r2).bind (Rg K):=by
   repeat (refine funext fun _=>?_)
   exact YH n K m _ _ _ _
  rw [h1,h2];exact (NR n m _ _ _ _ (Rg K)).symm
theorem tP (n:Nat):ie tys (da Out (Wl n)) (Pq n) n (Da [1,1,0,1,0,0] (aa Tryz.f99)) 0:=Oa (sp:=Gv) (rp:=Fv) (by kernel_rfl) fun K σ ρ=>YH n K n σ.1 σ.2.1 ρ.1.1 ρ.1.2.1
theorem OR (n:Nat):ta tys (da Out (Wl n)) (Pq n) n (aa Tryz.f99) 0:=⟨trivial,⟨trivial,⟨⟨trivial,⟨tP n,⟨⟨trivial,⟨trivial,trivial⟩⟩,⟨⟨trivial,⟨⟨trivial,⟨trivial,trivial⟩⟩,trivial⟩⟩,trivial⟩⟩⟩⟩,⟨trivial,trivial⟩⟩⟩⟩
theorem fU (n:Nat):Enters Tryz.prog 99:=enters_of (c:=aa Tryz.f99) Tryz.func99 (by kernel_rfl) (by kernel_rfl)
def JN (n:Nat):Entry:=⟨99,pcT (.pair (.pair (.int .i64) (.pair (.sl .str) .unit)) .unit) (.one .str) (fun xs=>XH n xs.1),none,none⟩
theorem fW (n:Nat):EntryOk Tryz.prog gl (JN n):=
 Qa (fU n) fun xs y h=>ra tys_ok (Hy n) mixed (hint:=Pq n) (n:=n) Tryz.func99 (Pa (OR n)) (la (φ:=(fun y=>some (Out.ret (Vf (.one .str) y)))) (by kernel_rfl) (MY n xs.1 _) h)
def ZF (n:Nat):List Entry:=JN n::Wl n
theorem ME (n:Nat):AllOk Tryz.prog gl (ZF n):=.cons (fW n) (Hy n)
def Wm (n:Nat) {R:Type} (code:Int) (k:BA→Option R):Option R:=
 (A5 n (⟨6,fun q=>List.getD (α:=Int) [(220:Int),(250:Int),(354:Int),(221:Int),(500:Int),(503:Int)] q (Ba (.int .i64))⟩:Sq Int) code).bind fun v=>
 if (decide (v≥(0:Int)))=true then
 if 0≤v∧v<(6:Int) then
  (XH n (code,((⟨1,fun q=>List.getD (α:=BA) [((fun q=>List.getD (α:=BA) [(⟨#[104,101,114,101]⟩:BA),(⟨#[111,107]⟩:BA),(⟨#[103,111,32,111,110]⟩:BA),(⟨#[98,121,101]⟩:BA),(⟨#[119,104,97,116,63]⟩:BA),(⟨#[110,111,116,32,121,101,116]⟩:BA)] q (Ba .str)) (Int.toNat v))] q (Ba .str)⟩:Sq BA),()))).bind fun v1=>
  k v1
 else
  none
 else
 (XH n (code,((⟨1,fun q=>List.getD (α:=BA) [(⟨#[110,111]⟩:BA)] q (Ba .str)⟩:Sq BA),()))).bind fun v2=>
 k v2
def oa (n:Nat) (code:Int):Option BA:=Wm n code some
theorem FJ (n:Nat) {S:Type}:∀ code (φ:_→Option S),(oa n code).bind φ=Wm n code φ:=by
 intros;unfold oa Wm;first | (simp only [fa,ba,iB,bB,oL,oX,nB,Option.bind_some]) | rfl
def Wp (n:Nat):Hint Out:={ live:=fun c=>[],run:=fun c=>none,xm:=fun c q=>none }
theorem UD (n:Nat):ta tys (da Out (ZF n)) (Wp n) n (aa Tryz.f65) 0:=ma (fun _=>rfl) _ _ (by kernel_rfl)
theorem QF (n:Nat):Enters Tryz.prog 65:=enters_of (c:=aa Tryz.f65) Tryz.func65 (by kernel_rfl) (by kernel_rfl)
def fu (n:Nat):Entry:=⟨65,pcT (.pair (.int .i64) .unit) (.one .str) (fun xs=>oa n xs.1),none,none⟩
theorem EH (n:Nat):EntryOk Tryz.prog gl (fu n):=
 Qa (QF n) fun xs y h=>ra tys_ok (ME n) mixed (hint:=Wp n) (n:=n) Tryz.func65 (Pa (UD n)) (la (φ:=(fun y=>some (Out.ret (Vf (.one .str) y)))) (by kernel_rfl) (FJ n xs.1 _) h)
def Pl (n:Nat):List Entry:=fu n::ZF n
theorem Lo (n:Nat):AllOk Tryz.prog gl (Pl n):=.cons (EH n) (ME n)
def cI (n:Nat) {R:Type} (line:BA) (k:(BA×Bool×Unit)→Option R):Option R:=
 if (line.toList==(⟨#[46]⟩:BA).toList)=true then
 k ((⟨#[]⟩:BA),(true,()))
 else
 if (decide ((line.size:Int)>(0:Int)))=true then
  if 0≤(0:Int)∧(0:Int)<(line.size:Int) then
  if ((bt line (0:Int))==(46:Int))=true then
   if 0≤(1:Int)∧(1:Int)≤(line.size:Int) then
   k ((line.extract (Int.toNat (1:Int)) (Int.toNat (line.size:Int))),(false,()))
   else
   none
  else
   k (line,(false,()))
  else
  none
 else
  k (line,(false,()))
def OJ (n:Nat) (line:BA):Option (BA×Bool×Unit):=cI n line some
theorem C2 (n:Nat) {S:Type}:∀ line (φ:_→Option S),(OJ n line).bind φ=cI n line φ:=by
 intros;unfold OJ cI;first | (simp only [fa,ba,iB,bB,oL,oX,nB,Option.bind_some]) | rfl
def TK (n:Nat):Hint Out:={ live:=fun c=>[],run:=fun c=>none,xm:=fun c q=>none }
theorem jU (n:Nat):ta tys (da Out (Pl n)) (TK n) n (aa Tryz.f66) 0:=ma (fun _=>rfl) _ _ (by kernel_rfl)
theorem iW (n:Nat):Enters Tryz.prog 66:=enters_of (c:=aa Tryz.f66) Tryz.func66 (by kernel_rfl) (by kernel_rfl)
def vQ (n:Nat):Entry:=⟨66,pcT (.pair .str .unit) (.many (.pair .str (.pair .bool .unit))) (fun xs=>OJ n xs.1),none,none⟩
theorem OY (n:Nat):EntryOk Tryz.prog gl (vQ n):=
 Qa (iW n) fun xs y h=>ra tys_ok (Lo n) mixed (hint:=TK n) (n:=n) Tryz.func66 (Pa (jU n)) (la (φ:=(fun y=>some (Out.ret (Vf (.many (.pair .str (.pair .bool .unit))) y)))) (by kernel_rfl) (C2 n xs.1 _) h)
def PJ (n:Nat):List Entry:=vQ n::Pl n
theorem dI (n:Nat):AllOk Tryz.prog gl (PJ n):=.cons (OY n) (Lo n)
def Ad (n:Nat) {R:Type} (b0:Bool) (b01:(Sq Int)) (b02:Int) (b03:BA) (b04:Bool) (b05:BA) (b06:Bool) (b07:BA) (r1:(Sq U1)) (r2:(Sq BA)) (k:U17→Option R):Option R:=
 if (decide (b02<(b01.n:Int)))=true then
 if 0≤b02∧b02<(b01.n:Int) then
  if (decide ((b01.at' (Int.toNat b02))≥(400:Int)))=true then
  if 0≤b02∧b02<(b01.n:Int) then
   if (decide ((b01.at' (Int.toNat b02))≤(599:Int)))=true then
   if 0≤b02∧b02<(b01.n:Int) then
    k ((b01.at' (Int.toNat b02)),(b0,(b01,((IntKind.wrap .i64 (b02+(1:Int))),(b03,(b04,(b05,(b06,(b07,(r1,(r2,())))))))))))
   else
    none
   else
   k ((250:Int),(b0,(b01,((IntKind.wrap .i64 (b02+(1:Int))),(b03,(b04,(b05,(b06,(b07,(r1,(r2,())))))))))))
  else
   none
  else
  k ((250:Int),(b0,(b01,((IntKind.wrap .i64 (b02+(1:Int))),(b03,(b04,(b05,(b06,(b07,(r1,(r2,())))))))))))
 else
  none
 else
 k ((250:Int),(b0,(b01,((IntKind.wrap .i64 (b02+(1:Int))),(b03,(b04,(b05,(b06,(b07,(r1,(r2,())))))))))))
def Ia (n:Nat) (b0:Bool) (b01:(Sq Int)) (b02:Int) (b03:BA) (b04:Bool) (b05:BA) (b06:Bool) (b07:BA) (r1:(Sq U1)) (r2:(Sq BA)):Option U17:=Ad n b0 b01 b02 b03 b04 b05 b06 b07 r1 r2 some
theorem vv (n:Nat) {S:Type}:∀ b0 b01 b02 b03 b04 b05 b06 b07 r1 r2 (φ:_→Option S),(Ia n b0 b01 b02 b03 b04 b05 b06 b07 r1 r2).bind φ=Ad n b0 b01 b02 b03 b04 b05 b06 b07 r1 r2 φ:=by
 intros;unfold Ia Ad;first | (simp only [fa,ba,iB,bB,oL,oX,nB,Option.bind_some]) | rfl
def Jh (n:Nat):Hint OutS:={ live:=fun c=>[],run:=fun c=>none,xm:=fun c q=>none,nb:=[(74,1,.frz (.int .i64)),(74,6,.prm 47),(74,9,.prm 9)] }
theorem Bq (n:Nat):ta tys (da OutS (PJ n)).keep (Jh n) n (aa Tryz.f70) 0:=ma (fun _=>rfl) _ _ (by kernel_rfl)
theorem Cs (n:Nat):Enters Tryz.prog 70:=enters_of (c:=aa Tryz.f70) Tryz.func70 (by kernel_rfl) (by kernel_rfl)
def Pi:List RSp:=[.one (.ptr 0 0 0)]
def Oi:List RS:=[.box 74 10 false [.dat .bool,.dat (.sl (.int .i64)),.dat (.int .i64),.dat .str,.dat .bool,.dat .str,.row 1,.dat .bool,.dat .str,.row 2],.row 47 2 (.pair .str (.pair .str .unit)) true true,.row 9 1 .str true true]
def Ds:List Sl:=[.ptr 0 0 0]
def Es:List RSp:=[.one (.dat (.int .i64))]
def Hc:List RS:=[.box 74 10 false [.dat .bool,.dat (.sl (.int .i64)),.dat (.int .i64),.dat .str,.dat .bool,.dat .str,.row 1,.dat .bool,.dat .str,.row 2],.row 47 2 (.pair .str (.pair .str .unit)) true true,.row 9 1 .str true true]
def Pf (y:U17):OutS:=⟨false,dl (dc Hc ((y.2.1,(y.2.2.1,(y.2.2.2.1,(y.2.2.2.2.1,(y.2.2.2.2.2.1,(y.2.2.2.2.2.2.1,(y.2.2.2.2.2.2.2.1,(y.2.2.2.2.2.2.2.2.1,())))))))),(y.2.2.2.2.2.2.2.2.2.1,(y.2.2.2.2.2.2.2.2.2.2.1,())))) Ds (),aw (Xt (dc Hc ((y.2.1,(y.2.2.1,(y.2.2.2.1,(y.2.2.2.2.1,(y.2.2.2.2.2.1,(y.2.2.2.2.2.2.1,(y.2.2.2.2.2.2.2.1,(y.2.2.2.2.2.2.2.2.1,())))))))),(y.2.2.2.2.2.2.2.2.2.1,(y.2.2.2.2.2.2.2.2.2.2.1,())))) Es ((y.1,()),())),Qo (dc Hc ((y.2.1,(y.2.2.1,(y.2.2.2.1,(y.2.2.2.2.1,(y.2.2.2.2.2.1,(y.2.2.2.2.2.2.1,(y.2.2.2.2.2.2.2.1,(y.2.2.2.2.2.2.2.2.1,())))))))),(y.2.2.2.2.2.2.2.2.2.1,(y.2.2.2.2.2.2.2.2.2.2.1,())))) Hc ((y.2.1,(y.2.2.1,(y.2.2.2.1,(y.2.2.2.2.1,(y.2.2.2.2.2.1,(y.2.2.2.2.2.2.1,(y.2.2.2.2.2.2.2.1,(y.2.2.2.2.2.2.2.2.1,())))))))),(y.2.2.2.2.2.2.2.2.2.1,(y.2.2.2.2.2.2.2.2.2.2.1,())))⟩
theorem Nt (n:Nat):EntryOk Tryz.prog gl ⟨70,gf,none,some (csT Pi Oi (fun σ ρ=>Ia n ρ.1.1 ρ.1.2.1 ρ.1.2.2.1 ρ.1.2.2.2.1 ρ.1.2.2.2.2.1 ρ.1.2.2.2.2.2.1 ρ.1.2.2.2.2.2.2.1 ρ.1.2.2.2.2.2.2.2.1 ρ.2.1 ρ.2.2.1) Pf)⟩:=
 Sc (Cs n) fun σ ρ y h=>db tys_ok (dI n) mixed (hint:=Jh n) (n:=n) Tryz.func70 (Pa (Bq n)) (la (φ:=fun y=>some (Pf y)) (by kernel_rfl) (vv n ρ.1.1 ρ.1.2.1 ρ.1.2.2.1 ρ.1.2.2.2.1 ρ.1.2.2.2.2.1 ρ.1.2.2.2.2.2.1 ρ.1.2.2.2.2.2.2.1 ρ.1.2.2.2.2.2.2.2.1 ρ.2.1 ρ.2.2.1 _) h)
def bf (n:Nat):List Entry:=⟨70,gf,none,some (csT Pi Oi (fun σ ρ=>Ia n ρ.1.1 ρ.1.2.1 ρ.1.2.2.1 ρ.1.2.2.2.1 ρ.1.2.2.2.2.1 ρ.1.2.2.2.2.2.1 ρ.1.2.2.2.2.2.2.1 ρ.1.2.2.2.2.2.2.2.1 ρ.2.1 ρ.2.2.1) Pf)⟩::PJ n
theorem nh (n:Nat):AllOk Tryz.prog gl (bf n):=.cons (Nt n) (dI n)
def oI (n:Nat) {R:Type} (m0:U1) (k:BA→Option R):Option R:=
 if Ca m0.1 (⟨#[64]⟩:BA)=true then
 if Ca (m0.1++(⟨#[64]⟩:BA)) m0.2.1=true then
  k ((m0.1++(⟨#[64]⟩:BA))++m0.2.1)
 else
  none
 else
 none
def Ws (n:Nat) (m0:U1):Option BA:=oI n m0 some
theorem L2 (n:Nat) {S:Type}:∀ m0 (φ:_→Option S),(Ws n m0).bind φ=oI n m0 φ:=by
 intros;unfold Ws oI;first | (simp only [fa,ba,iB,bB,oL,oX,nB,Option.bind_some]) | rfl
def ZK (n:Nat):Hint Out:={ live:=fun c=>[],run:=fun c=>none,xm:=fun c q=>none }
theorem sU (n:Nat):ta tys (da Out (bf n)) (ZK n) n (aa Tryz.f100) 0:=ma (fun _=>rfl) _ _ (by kernel_rfl)
theorem qW (n:Nat):Enters Tryz.prog 100:=enters_of (c:=aa Tryz.f100) Tryz.func100 (by kernel_rfl) (by kernel_rfl)
def zQ (n:Nat):Entry:=⟨100,pcT (.pair (.pair .str (.pair .str .unit)) .unit) (.one .str) (fun xs=>Ws n xs.1),none,none⟩
theorem VY (n:Nat):EntryOk Tryz.prog gl (zQ n):=
 Qa (qW n) fun xs y h=>ra tys_ok (nh n) mixed (hint:=ZK n) (n:=n) Tryz.func100 (Pa (sU n)) (la (φ:=(fun y=>some (Out.ret (Vf (.one .str) y)))) (by kernel_rfl) (L2 n xs.1 _) h)
def TJ (n:Nat):List Entry:=zQ n::bf n
theorem pI (n:Nat):AllOk Tryz.prog gl (TJ n):=.cons (VY n) (nh n)
def Nf (n:Nat) {R:Type} (b0:Bool) (b01:(Sq Int)) (b02:Int) (b03:BA) (b04:Bool) (b05:BA) (b06:Bool) (b07:BA) (r1:(Sq U1)) (r2:(Sq BA)) (k:U9→Option R):Option R:=
 k (b0,(b01,(b02,(b03,(b04,((⟨#[]⟩:BA),(false,((⟨#[]⟩:BA),((⟨0,fun _=>Ba (.pair .str (.pair .str .unit))⟩:Sq U1),(r2,()))))))))))
def Eb (n:Nat) (b0:Bool) (b01:(Sq Int)) (b02:Int) (b03:BA) (b04:Bool) (b05:BA) (b06:Bool) (b07:BA) (r1:(Sq U1)) (r2:(Sq BA)):Option U9:=Nf n b0 b01 b02 b03 b04 b05 b06 b07 r1 r2 some
theorem uv (n:Nat) {S:Type}:∀ b0 b01 b02 b03 b04 b05 b06 b07 r1 r2 (φ:_→Option S),(Eb n b0 b01 b02 b03 b04 b05 b06 b07 r1 r2).bind φ=Nf n b0 b01 b02 b03 b04 b05 b06 b07 r1 r2 φ:=by
 intros;unfold Eb Nf;first | (simp only [fa,ba,iB,bB,oL,oX,nB,Option.bind_some]) | rfl
def Ih (n:Nat):Hint OutS:={ live:=fun c=>[],run:=fun c=>none,xm:=fun c q=>none,nb:=[(74,1,.frz (.int .i64)),(74,6,.prm 47),(74,9,.prm 9)] }
theorem Aq (n:Nat):ta tys (da OutS (TJ n)).keep (Ih n) n (aa Tryz.f69) 0:=ma (fun _=>rfl) _ _ (by kernel_rfl)
theorem ws (n:Nat):Enters Tryz.prog 69:=enters_of (c:=aa Tryz.f69) Tryz.func69 (by kernel_rfl) (by kernel_rfl)
def Ni:List RSp:=[.one (.ptr 0 0 0)]
def Mi:List RS:=[.box 74 10 false [.dat .bool,.dat (.sl (.int .i64)),.dat (.int .i64),.dat .str,.dat .bool,.dat .str,.row 1,.dat .bool,.dat .str,.row 2],.row 47 2 (.pair .str (.pair .str .unit)) true true,.row 9 1 .str true true]
def As:List Sl:=[.ptr 0 0 0]
def Bs:List RSp:=[]
def Gc:List RS:=[.box 74 10 false [.dat .bool,.dat (.sl (.int .i64)),.dat (.int .i64),.dat .str,.dat .bool,.dat .str,.row 1,.dat .bool,.dat .str,.row 2],.row 47 2 (.pair .str (.pair .str .unit)) true true,.row 9 1 .str true true]
def Of (y:U9):OutS:=⟨false,dl (dc Gc ((y.1,(y.2.1,(y.2.2.1,(y.2.2.2.1,(y.2.2.2.2.1,(y.2.2.2.2.2.1,(y.2.2.2.2.2.2.1,(y.2.2.2.2.2.2.2.1,())))))))),(y.2.2.2.2.2.2.2.2.1,(y.2.2.2.2.2.2.2.2.2.1,())))) As (),aw (Xt (dc Gc ((y.1,(y.2.1,(y.2.2.1,(y.2.2.2.1,(y.2.2.2.2.1,(y.2.2.2.2.2.1,(y.2.2.2.2.2.2.1,(y.2.2.2.2.2.2.2.1,())))))))),(y.2.2.2.2.2.2.2.2.1,(y.2.2.2.2.2.2.2.2.2.1,())))) Bs ()),Qo (dc Gc ((y.1,(y.2.1,(y.2.2.1,(y.2.2.2.1,(y.2.2.2.2.1,(y.2.2.2.2.2.1,(y.2.2.2.2.2.2.1,(y.2.2.2.2.2.2.2.1,())))))))),(y.2.2.2.2.2.2.2.2.1,(y.2.2.2.2.2.2.2.2.2.1,())))) Gc ((y.1,(y.2.1,(y.2.2.1,(y.2.2.2.1,(y.2.2.2.2.1,(y.2.2.2.2.2.1,(y.2.2.2.2.2.2.1,(y.2.2.2.2.2.2.2.1,())))))))),(y.2.2.2.2.2.2.2.2.1,(y.2.2.2.2.2.2.2.2.2.1,())))⟩
theorem Mt (n:Nat):EntryOk Tryz.prog gl ⟨69,gf,none,some (csT Ni Mi (fun σ ρ=>Eb n ρ.1.1 ρ.1.2.1 ρ.1.2.2.1 ρ.1.2.2.2.1 ρ.1.2.2.2.2.1 ρ.1.2.2.2.2.2.1 ρ.1.2.2.2.2.2.2.1 ρ.1.2.2.2.2.2.2.2.1 ρ.2.1 ρ.2.2.1) Of)⟩:=
 Sc (ws n) fun σ ρ y h=>db tys_ok (pI n) mixed (hint:=Ih n) (n:=n) Tryz.func69 (Pa (Aq n)) (la (φ:=fun y=>some (Of y)) (by kernel_rfl) (uv n ρ.1.1 ρ.1.2.1 ρ.1.2.2.1 ρ.1.2.2.2.1 ρ.1.2.2.2.2.1 ρ.1.2.2.2.2.2.1 ρ.1.2.2.2.2.2.2.1 ρ.1.2.2.2.2.2.2.2.1 ρ.2.1 ρ.2.2.1 _) h)
def bc (n:Nat):List Entry:=⟨69,gf,none,some (csT Ni Mi (fun σ ρ=>Eb n ρ.1.1 ρ.1.2.1 ρ.1.2.2.1 ρ.1.2.2.2.1 ρ.1.2.2.2.2.1 ρ.1.2.2.2.2.2.1 ρ.1.2.2.2.2.2.2.1 ρ.1.2.2.2.2.2.2.2.1 ρ.2.1 ρ.2.2.1) Of)⟩::TJ n
theorem mh (n:Nat):AllOk Tryz.prog gl (bc n):=.cons (Mt n) (pI n)
def Ea (n:Nat) {R:Type} (out:BA) (code i:Int) (p:Bool) (p1:(Sq Int)) (p2:Int) (p3:BA) (p4:Bool) (p5:BA) (p6:Bool) (p7:BA) (r11:(Sq U1)) (r21:(Sq BA)) (kn:BA→Int→Int→Bool→(Sq Int)→Int→BA→Bool→BA→Bool→BA→(Sq U1)→(Sq BA)→Option R) (ko:U11→Option R) (kr:Unit→Option R) (kp:Int→Option R):Option R:=
 if (decide (i<(r11.n:Int)))=true then
 if p=false then
  if (i==(0:Int))=true then
  (Ia n p p1 p2 p3 p4 p5 p6 p7 r11 r21).bind fun v=>
  (oa n v.1).bind fun v1=>
  if Ca out v1=true then
   if (v.1==(250:Int))=true then
   if 0≤i∧i<(v.2.2.2.2.2.2.2.2.2.1.n:Int) then
    Q3 (
    (Ws n (((v.2.2.2.2.2.2.2.2.2.1.at' (Int.toNat i))).1,((((v.2.2.2.2.2.2.2.2.2.1.at' (Int.toNat i))).2).1,()))).bind fun v2=>
    if Ta (v.2.2.2.2.2.2.2.2.2.2.1.n+3) 16=true then
     kn (out++v1) v.1 (IntKind.wrap .i64 (i+(1:Int))) v.2.1 v.2.2.1 v.2.2.2.1 v.2.2.2.2.1 v.2.2.2.2.2.1 v.2.2.2.2.2.2.1 v.2.2.2.2.2.2.2.1 v.2.2.2.2.2.2.2.2.1 v.2.2.2.2.2.2.2.2.2.1 (⟨(v.2.2.2.2.2.2.2.2.2.2.1.n+3),fun q=>if q<v.2.2.2.2.2.2.2.2.2.2.1.n then v.2.2.2.2.2.2.2.2.2.2.1.at' q else (fun q=>List.getD (α:=BA) [v.2.2.2.2.2.2.1,v2,v.2.2.2.2.2.2.2.2.1] q (Ba .str)) (q - v.2.2.2.2.2.2.2.2.2.2.1.n)⟩:Sq BA)
    else
     none) (
    (Ws n (((v.2.2.2.2.2.2.2.2.2.1.at' (Int.toNat i))).1,((((v.2.2.2.2.2.2.2.2.2.1.at' (Int.toNat i))).2).1,()))).bind fun v3=>
    dup 1 (
     if Ta (v.2.2.2.2.2.2.2.2.2.2.1.n+3) 16=true then
     kn (out++v1) v.1 (IntKind.wrap .i64 (i+(1:Int))) v.2.1 v.2.2.1 v.2.2.2.1 v.2.2.2.2.1 v.2.2.2.2.2.1 v.2.2.2.2.2.2.1 v.2.2.2.2.2.2.2.1 v.2.2.2.2.2.2.2.2.1 v.2.2.2.2.2.2.2.2.2.1 (⟨(v.2.2.2.2.2.2.2.2.2.2.1.n+3),fun q=>if q<v.2.2.2.2.2.2.2.2.2.2.1.n then v.2.2.2.2.2.2.2.2.2.2.1.at' q else (fun q=>List.getD (α:=BA) [v.2.2.2.2.2.2.1,v3,v.2.2.2.2.2.2.2.2.1] q (Ba .str)) (q - v.2.2.2.2.2.2.2.2.2.2.1.n)⟩:Sq BA)
     else
     none))
   else
    none
   else
   kn (out++v1) v.1 (IntKind.wrap .i64 (i+(1:Int))) v.2.1 v.2.2.1 v.2.2.2.1 v.2.2.2.2.1 v.2.2.2.2.2.1 v.2.2.2.2.2.2.1 v.2.2.2.2.2.2.2.1 v.2.2.2.2.2.2.2.2.1 v.2.2.2.2.2.2.2.2.2.1 v.2.2.2.2.2.2.2.2.2.2.1
  else
   none
  else
  if (code==(250:Int))=true then
   if 0≤i∧i<(r11.n:Int) then
   Q3 (
    (Ws n (((r11.at' (Int.toNat i))).1,((((r11.at' (Int.toNat i))).2).1,()))).bind fun v4=>
    if Ta (r21.n+3) 16=true then
    kn out code (IntKind.wrap .i64 (i+(1:Int))) p p1 p2 p3 p4 p5 p6 p7 r11 (⟨(r21.n+3),fun q=>if q<r21.n then r21.at' q else (fun q=>List.getD (α:=BA) [p5,v4,p7] q (Ba .str)) (q - r21.n)⟩:Sq BA)
    else
    none) (
    (Ws n (((r11.at' (Int.toNat i))).1,((((r11.at' (Int.toNat i))).2).1,()))).bind fun v5=>
    dup 1 (
    if Ta (r21.n+3) 16=true then
     kn out code (IntKind.wrap .i64 (i+(1:Int))) p p1 p2 p3 p4 p5 p6 p7 r11 (⟨(r21.n+3),fun q=>if q<r21.n then r21.at' q else (fun q=>List.getD (α:=BA) [p5,v5,p7] q (Ba .str)) (q - r21.n)⟩:Sq BA)
    else
     none))
   else
   none
  else
   kn out code (IntKind.wrap .i64 (i+(1:Int))) p p1 p2 p3 p4 p5 p6 p7 r11 r21
 else
  (Ia n p p1 p2 p3 p4 p5 p6 p7 r11 r21).bind fun v6=>
  (oa n v6.1).bind fun v7=>
  if Ca out v7=true then
  if (v6.1==(250:Int))=true then
   if 0≤i∧i<(v6.2.2.2.2.2.2.2.2.2.1.n:Int) then
   Q3 (
    (Ws n (((v6.2.2.2.2.2.2.2.2.2.1.at' (Int.toNat i))).1,((((v6.2.2.2.2.2.2.2.2.2.1.at' (Int.toNat i))).2).1,()))).bind fun v8=>
    if Ta (v6.2.2.2.2.2.2.2.2.2.2.1.n+3) 16=true then
    kn (out++v7) v6.1 (IntKind.wrap .i64 (i+(1:Int))) v6.2.1 v6.2.2.1 v6.2.2.2.1 v6.2.2.2.2.1 v6.2.2.2.2.2.1 v6.2.2.2.2.2.2.1 v6.2.2.2.2.2.2.2.1 v6.2.2.2.2.2.2.2.2.1 v6.2.2.2.2.2.2.2.2.2.1 (⟨(v6.2.2.2.2.2.2.2.2.2.2.1.n+3),fun q=>if q<v6.2.2.2.2.2.2.2.2.2.2.1.n then v6.2.2.2.2.2.2.2.2.2.2.1.at' q else (fun q=>List.getD (α:=BA) [v6.2.2.2.2.2.2.1,v8,v6.2.2.2.2.2.2.2.2.1] q (Ba .str)) (q - v6.2.2.2.2.2.2.2.2.2.2.1.n)⟩:Sq BA)
    else
    none) (
    (Ws n (((v6.2.2.2.2.2.2.2.2.2.1.at' (Int.toNat i))).1,((((v6.2.2.2.2.2.2.2.2.2.1.at' (Int.toNat i))).2).1,()))).bind fun v9=>
    dup 1 (
    if Ta (v6.2.2.2.2.2.2.2.2.2.2.1.n+3) 16=true then
     kn (out++v7) v6.1 (IntKind.wrap .i64 (i+(1:Int))) v6.2.1 v6.2.2.1 v6.2.2.2.1 v6.2.2.2.2.1 v6.2.2.2.2.2.1 v6.2.2.2.2.2.2.1 v6.2.2.2.2.2.2.2.1 v6.2.2.2.2.2.2.2.2.1 v6.2.2.2.2.2.2.2.2.2.1 (⟨(v6.2.2.2.2.2.2.2.2.2.2.1.n+3),fun q=>if q<v6.2.2.2.2.2.2.2.2.2.2.1.n then v6.2.2.2.2.2.2.2.2.2.2.1.at' q else (fun q=>List.getD (α:=BA) [v6.2.2.2.2.2.2.1,v9,v6.2.2.2.2.2.2.2.2.1] q (Ba .str)) (q - v6.2.2.2.2.2.2.2.2.2.2.1.n)⟩:Sq BA)
    else
     none))
   else
   none
  else
   kn (out++v7) v6.1 (IntKind.wrap .i64 (i+(1:Int))) v6.2.1 v6.2.2.1 v6.2.2.2.1 v6.2.2.2.2.1 v6.2.2.2.2.2.1 v6.2.2.2.2.2.2.1 v6.2.2.2.2.2.2.2.1 v6.2.2.2.2.2.2.2.2.1 v6.2.2.2.2.2.2.2.2.2.1 v6.2.2.2.2.2.2.2.2.2.2.1
  else
  none
 else
 ko (out,p,p1,p2,p3,p4,p5,p6,p7,r11,r21)
def qa (n:Nat):Nat→BA→Int→Int→Bool→(Sq Int)→Int→BA→Bool→BA→Bool→BA→(Sq U1)→(Sq BA)→Option (Lx U11 Unit)
 | 0,_,_,_,_,_,_,_,_,_,_,_,_,_=>none
 | m+1,out,code,i,p,p1,p2,p3,p4,p5,p6,p7,r11,r21=>Ea n out code i p p1 p2 p3 p4 p5 p6 p7 r11 r21 (qa n m) (fun a=>some (.out a)) (fun a=>some (.ret a)) (fun p=>some (.pan p))
theorem Dq (n m:Nat) {S:Type}:∀ out code i p p1 p2 p3 p4 p5 p6 p7 r11 r21 (φ:_→Option S),(qa n (m+1) out code i p p1 p2 p3 p4 p5 p6 p7 r11 r21).bind φ=Ea n out code i p p1 p2 p3 p4 p5 p6 p7 r11 r21 (fun out code i p p1 p2 p3 p4 p5 p6 p7 r11 r21=>(qa n m out code i p p1 p2 p3 p4 p5 p6 p7 r11 r21).bind φ) (fun a=>φ (.out a)) (fun a=>φ (.ret a)) (fun p=>φ (.pan p)):=by
 intros;first | (simp only [qa,Ea,fa,ba,iB,bB,oL,oX,nB,Option.bind_some]) | rfl
def Ld:List Sl:=.ptr 0 0 0::.top::.top::.dat .str::.dat (.int .i64)::.dat (.int .i64)::tp 53 []
def Kd:List RS:=[.box 74 10 false [.dat .bool,.dat (.sl (.int .i64)),.dat (.int .i64),.dat .str,.dat .bool,.dat .str,.row 1,.dat .bool,.dat .str,.row 2],.row 47 2 (.pair .str (.pair .str .unit)) true true,.row 9 1 .str true true,.ghost [.ptr 0 0 0]]
def Nl:List Sl:=.ptr 0 0 0::.top::.top::.dat .str::tp 55 []
def Ml:List RS:=[.box 74 10 false [.dat .bool,.dat (.sl (.int .i64)),.dat (.int .i64),.dat .str,.dat .bool,.dat .str,.row 1,.dat .bool,.dat .str,.row 2],.row 47 2 (.pair .str (.pair .str .unit)) true true,.row 9 1 .str true true,.ghost [.ptr 0 0 0]]
def Ya (K:XE→List AV→ia→Option OutS):Lx U11 Unit→Option OutS:=fun x=>onL x (fun a=>ak Nl Ml (a.1,()) ((a.2.1,(a.2.2.1,(a.2.2.2.1,(a.2.2.2.2.1,(a.2.2.2.2.2.1,(a.2.2.2.2.2.2.1,(a.2.2.2.2.2.2.2.1,(a.2.2.2.2.2.2.2.2.1,())))))))),(a.2.2.2.2.2.2.2.2.2.1,(a.2.2.2.2.2.2.2.2.2.2,((),())))) (K (.exit 0))) (fun _=>none) (fun _=>none)
def fc (n:Nat) {R:Type} (b0:Bool) (b01:(Sq Int)) (b02:Int) (b03:BA) (b04:Bool) (b05:BA) (b06:Bool) (b07:BA) (r1:(Sq U1)) (r2:(Sq BA)) (k:U3→Option R):Option R:=
 (qa n n (⟨#[]⟩:BA) (0:Int) (0:Int) b0 b01 b02 b03 b04 b05 b06 b07 r1 r2).bind fun x_1=>onL x_1
 (fun a_2=>
  (Eb n a_2.2.1 a_2.2.2.1 a_2.2.2.2.1 a_2.2.2.2.2.1 a_2.2.2.2.2.2.1 a_2.2.2.2.2.2.2.1 a_2.2.2.2.2.2.2.2.1 a_2.2.2.2.2.2.2.2.2.1 a_2.2.2.2.2.2.2.2.2.2.1 a_2.2.2.2.2.2.2.2.2.2.2).bind fun v10=>
  k (a_2.1,(v10.1,(v10.2.1,(v10.2.2.1,(v10.2.2.2.1,(v10.2.2.2.2.1,(v10.2.2.2.2.2.1,(v10.2.2.2.2.2.2.1,(v10.2.2.2.2.2.2.2.1,(v10.2.2.2.2.2.2.2.2.1,(v10.2.2.2.2.2.2.2.2.2.1,()))))))))))))
 (fun _=>none)
 (fun _=>none)
def pb (n:Nat) (b0:Bool) (b01:(Sq Int)) (b02:Int) (b03:BA) (b04:Bool) (b05:BA) (b06:Bool) (b07:BA) (r1:(Sq U1)) (r2:(Sq BA)):Option U3:=fc n b0 b01 b02 b03 b04 b05 b06 b07 r1 r2 some
theorem xv (n:Nat) {S:Type}:∀ b0 b01 b02 b03 b04 b05 b06 b07 r1 r2 (φ:_→Option S),(pb n b0 b01 b02 b03 b04 b05 b06 b07 r1 r2).bind φ=fc n b0 b01 b02 b03 b04 b05 b06 b07 r1 r2 φ:=by
 intros;unfold pb fc;first | (simp only [fa,ba,iB,bB,oL,oX,nB,Option.bind_some]) | rfl
def Ac (n:Nat):Hint OutS:={ live:=fun c=>(cond (Nat.beq c 0) (lv [0,3,4,5]) []),run:=fun c=>(cond (Nat.beq c 0) (some (aq Ld Kd fun σ ρ K=>(qa n n σ.1 σ.2.1 σ.2.2.1 ρ.1.1 ρ.1.2.1 ρ.1.2.2.1 ρ.1.2.2.2.1 ρ.1.2.2.2.2.1 ρ.1.2.2.2.2.2.1 ρ.1.2.2.2.2.2.2.1 ρ.1.2.2.2.2.2.2.2.1 ρ.2.1 ρ.2.2.1).bind (Ya K))) none),xm:=fun c q=>(cond (Nat.beq c 0&&Nat.beq (q.getD 1000000) 0&&q.isSome) (some [(0,none),(3,none)]) none),sch:=fun c=>(cond (Nat.beq c 10) (some [(0,0),(1,0),(2,0),(3,0),(5,0),(6,0),(7,0),(9,0),(10,0),(11,0),(13,0),(17,0),(18,0),(19,0),(8,1),(12,1),(14,0),(15,1),(20,1),(21,5),(4,7),(16,7),(22,2),(23,6),(24,6),(25,2)]) none),nb:=[(74,1,.frz (.int .i64)),(74,6,.prm 47),(74,9,.prm 9)] }
def zc (n:Nat) (K:XE→List AV→ia→Option OutS) (m:Nat) (out:BA) (code:Int) (i:Int) (p:Bool) (p1:(Sq Int)) (p2:Int) (p3:BA) (p4:Bool) (p5:BA) (p6:Bool) (p7:BA) (r11:(Sq U1)) (r21:(Sq BA)):Option OutS:=Pe tys (da OutS (bc n)).keep (Ac n) n (Da [1,1,1,0,1,0,0] (aa Tryz.f67)) 0 Ld Kd K m (out,(code,(i,()))) ((p,(p1,(p2,(p3,(p4,(p5,(p6,(p7,())))))))),(r11,(r21,((),()))))
theorem Lh (n:Nat) (K:XE→List AV→ia→Option OutS):∀ (m:Nat) out code i p p1 p2 p3 p4 p5 p6 p7 r11 r21,zc n K m out code i p p1 p2 p3 p4 p5 p6 p7 r11 r21=(qa n m out code i p p1 p2 p3 p4 p5 p6 p7 r11 r21).bind (Ya K)
 | 0,_,_,_,_,_,_,_,_,_,_,_,_,_=>by kernel_rfl
 | m+1,out,code,i,p,p1,p2,p3,p4,p5,p6,p7,r11,r21=>by
  have h1:zc n K (m+1) out code i p p1 p2 p3 p4 p5 p6 p7 r11 r21=Ea n out code i p p1 p2 p3 p4 p5 p6 p7 r11 r21 (zc n K m) (fun a=>Ya K (.out a)) (fun a=>Ya K (.ret a)) (fun p=>Ya K (.pan p)):=by kernel_rfl
  have h2:zc n K m=fun out code i p p1 p2 p3 p4 p5 p6 p7 r11 r21=>(qa n m out code i p p1 p2 p3 p4 p5 p6 p7 r11 r21).bind (Ya K):=by
   repeat (refine funext fun _=>?_)
   exact Lh n K m _ _ _ _ _ _ _ _ _ _ _ _ _
  rw [h1,h2];exact (Dq n m _ _ _ _ _ _ _ _ _ _ _ _ _ (Ya K)).symm
theorem Yo (n:Nat):ie tys (da OutS (bc n)).keep (Ac n) n (Da [1,1,1,0,1,0,0] (aa Tryz.f67)) 0:=Oa (sp:=Ld) (rp:=Kd) (by kernel_rfl) fun K σ ρ=>Lh n K n σ.1 σ.2.1 σ.2.2.1 ρ.1.1 ρ.1.2.1 ρ.1.2.2.1 ρ.1.2.2.2.1 ρ.1.2.2.2.2.1 ρ.1.2.2.2.2.2.1 ρ.1.2.2.2.2.2.2.1 ρ.1.2.2.2.2.2.2.2.1 ρ.2.1 ρ.2.2.1
theorem Fq (n:Nat):ta tys (da OutS (bc n)).keep (Ac n) n (aa Tryz.f67) 0:=⟨trivial,⟨trivial,⟨trivial,⟨⟨trivial,⟨Yo n,⟨⟨trivial,⟨trivial,trivial⟩⟩,⟨⟨⟨trivial,⟨⟨trivial,trivial⟩,trivial⟩⟩,⟨trivial,⟨trivial,trivial⟩⟩⟩,trivial⟩⟩⟩⟩,⟨trivial,⟨trivial,trivial⟩⟩⟩⟩⟩⟩
theorem Is (n:Nat):Enters Tryz.prog 67:=enters_of (c:=aa Tryz.f67) Tryz.func67 (by kernel_rfl) (by kernel_rfl)
def Ti:List RSp:=[.one (.ptr 0 0 0)]
def Si:List RS:=[.box 74 10 false [.dat .bool,.dat (.sl (.int .i64)),.dat (.int .i64),.dat .str,.dat .bool,.dat .str,.row 1,.dat .bool,.dat .str,.row 2],.row 47 2 (.pair .str (.pair .str .unit)) true true,.row 9 1 .str true true]
def Js:List Sl:=[.ptr 0 0 0]
def Ks:List RSp:=[.one (.dat .str)]
def Jc:List RS:=[.box 74 10 false [.dat .bool,.dat (.sl (.int .i64)),.dat (.int .i64),.dat .str,.dat .bool,.dat .str,.row 1,.dat .bool,.dat .str,.row 2],.row 47 2 (.pair .str (.pair .str .unit)) true true,.row 9 1 .str true true]
def Rf (y:U3):OutS:=⟨false,dl (dc Jc ((y.2.1,(y.2.2.1,(y.2.2.2.1,(y.2.2.2.2.1,(y.2.2.2.2.2.1,(y.2.2.2.2.2.2.1,(y.2.2.2.2.2.2.2.1,(y.2.2.2.2.2.2.2.2.1,())))))))),(y.2.2.2.2.2.2.2.2.2.1,(y.2.2.2.2.2.2.2.2.2.2.1,())))) Js (),aw (Xt (dc Jc ((y.2.1,(y.2.2.1,(y.2.2.2.1,(y.2.2.2.2.1,(y.2.2.2.2.2.1,(y.2.2.2.2.2.2.1,(y.2.2.2.2.2.2.2.1,(y.2.2.2.2.2.2.2.2.1,())))))))),(y.2.2.2.2.2.2.2.2.2.1,(y.2.2.2.2.2.2.2.2.2.2.1,())))) Ks ((y.1,()),())),Qo (dc Jc ((y.2.1,(y.2.2.1,(y.2.2.2.1,(y.2.2.2.2.1,(y.2.2.2.2.2.1,(y.2.2.2.2.2.2.1,(y.2.2.2.2.2.2.2.1,(y.2.2.2.2.2.2.2.2.1,())))))))),(y.2.2.2.2.2.2.2.2.2.1,(y.2.2.2.2.2.2.2.2.2.2.1,())))) Jc ((y.2.1,(y.2.2.1,(y.2.2.2.1,(y.2.2.2.2.1,(y.2.2.2.2.2.1,(y.2.2.2.2.2.2.1,(y.2.2.2.2.2.2.2.1,(y.2.2.2.2.2.2.2.2.1,())))))))),(y.2.2.2.2.2.2.2.2.2.1,(y.2.2.2.2.2.2.2.2.2.2.1,())))⟩
theorem Pt (n:Nat):EntryOk Tryz.prog gl ⟨67,gf,none,some (csT Ti Si (fun σ ρ=>pb n ρ.1.1 ρ.1.2.1 ρ.1.2.2.1 ρ.1.2.2.2.1 ρ.1.2.2.2.2.1 ρ.1.2.2.2.2.2.1 ρ.1.2.2.2.2.2.2.1 ρ.1.2.2.2.2.2.2.2.1 ρ.2.1 ρ.2.2.1) Rf)⟩:=
 Sc (Is n) fun σ ρ y h=>db tys_ok (mh n) mixed (hint:=Ac n) (n:=n) Tryz.func67 (Pa (Fq n)) (la (φ:=fun y=>some (Rf y)) (by kernel_rfl) (xv n ρ.1.1 ρ.1.2.1 ρ.1.2.2.1 ρ.1.2.2.2.1 ρ.1.2.2.2.2.1 ρ.1.2.2.2.2.2.1 ρ.1.2.2.2.2.2.2.1 ρ.1.2.2.2.2.2.2.2.1 ρ.2.1 ρ.2.2.1 _) h)
def cf (n:Nat):List Entry:=⟨67,gf,none,some (csT Ti Si (fun σ ρ=>pb n ρ.1.1 ρ.1.2.1 ρ.1.2.2.1 ρ.1.2.2.2.1 ρ.1.2.2.2.2.1 ρ.1.2.2.2.2.2.1 ρ.1.2.2.2.2.2.2.1 ρ.1.2.2.2.2.2.2.2.1 ρ.2.1 ρ.2.2.1) Rf)⟩::bc n
theorem ph (n:Nat):AllOk Tryz.prog gl (cf n):=.cons (Pt n) (mh n)
def Jg (n:Nat) {R:Type} (s with0:BA) (k:Bool→Option R):Option R:=
 if (decide ((s.size:Int)≥(with0.size:Int)))=true then
 if 0≤(with0.size:Int)∧(with0.size:Int)≤(s.size:Int) then
  k ((s.extract (Int.toNat (0:Int)) (Int.toNat (with0.size:Int))).toList==with0.toList)
 else
  none
 else
 k false
def lb (n:Nat) (s with0:BA):Option Bool:=Jg n s with0 some
theorem PF (n:Nat) {S:Type}:∀ s with0 (φ:_→Option S),(lb n s with0).bind φ=Jg n s with0 φ:=by
 intros;unfold lb Jg;first | (simp only [fa,ba,iB,bB,oL,oX,nB,Option.bind_some]) | rfl
def Lm (n:Nat):Hint Out:={ live:=fun c=>[],run:=fun c=>none,xm:=fun c q=>none }
theorem vz (n:Nat):ta tys (da Out (cf n)) (Lm n) n (aa Tryz.f68) 0:=ma (fun _=>rfl) _ _ (by kernel_rfl)
theorem wB (n:Nat):Enters Tryz.prog 68:=enters_of (c:=aa Tryz.f68) Tryz.func68 (by kernel_rfl) (by kernel_rfl)
def Vp (n:Nat):Entry:=⟨68,pcT (.pair .str (.pair .str .unit)) (.one .bool) (fun xs=>lb n xs.1 xs.2.1),none,none⟩
theorem TD (n:Nat):EntryOk Tryz.prog gl (Vp n):=
 Qa (wB n) fun xs y h=>ra tys_ok (ph n) mixed (hint:=Lm n) (n:=n) Tryz.func68 (Pa (vz n)) (la (φ:=(fun y=>some (Out.ret (Vf (.one .bool) y)))) (by kernel_rfl) (PF n xs.1 xs.2.1 _) h)
def Td (n:Nat):List Entry:=Vp n::cf n
theorem Ol (n:Nat):AllOk Tryz.prog gl (Td n):=.cons (TD n) (ph n)
def od (n:Nat) {R:Type} (s1:BA) (i:Int) (b:(Sq Int)) (kn:BA→Int→(Sq Int)→Option R) (ko:(Unit)→Option R) (kr:(BA×Int×Bool)→Option R) (kp:Int→Option R):Option R:=
 if (decide (i<(s1.size:Int)))=true then
 if 0≤i∧i<(s1.size:Int) then
  if ((bt s1 i)==(34:Int))=true then
  kr ((Oh b.n b.at'),(IntKind.wrap .i64 (i+(1:Int))),true)
  else
  if ((bt s1 i)==(92:Int))=true then
   if (decide ((IntKind.wrap .i64 (i+(1:Int)))≥(s1.size:Int)))=true then
   ko ()
   else
   if 0≤(IntKind.wrap .i64 (i+(1:Int)))∧(IntKind.wrap .i64 (i+(1:Int)))<(s1.size:Int) then
    if (decide ((bt s1 (IntKind.wrap .i64 (i+(1:Int))))<(32:Int)))=false then
    if (decide ((bt s1 (IntKind.wrap .i64 (i+(1:Int))))>(126:Int)))=true then
     ko ()
    else
     if Ta (b.n+1) 1=true then
     kn s1 (IntKind.wrap .i64 ((IntKind.wrap .i64 (i+(1:Int)))+(1:Int))) (⟨(b.n+1),fun q=>if q<b.n then b.at' q else (fun q=>List.getD (α:=Int) [(bt s1 (IntKind.wrap .i64 (i+(1:Int))))] q (Ba (.int .u8))) (q - b.n)⟩:Sq Int)
     else
     none
    else
    ko ()
   else
    none
  else
   if (decide ((bt s1 i)<(32:Int)))=false then
   if (decide ((bt s1 i)>(126:Int)))=true then
    ko ()
   else
    if Ta (b.n+1) 1=true then
    kn s1 (IntKind.wrap .i64 (i+(1:Int))) (⟨(b.n+1),fun q=>if q<b.n then b.at' q else (fun q=>List.getD (α:=Int) [(bt s1 i)] q (Ba (.int .u8))) (q - b.n)⟩:Sq Int)
    else
    none
   else
   ko ()
 else
  none
 else
 ko ()
def fb (n:Nat):Nat→BA→Int→(Sq Int)→Option (Lx (Unit) (BA×Int×Bool))
 | 0,_,_,_=>none
 | m+1,s1,i,b=>od n s1 i b (fb n m) (fun a=>some (.out a)) (fun a=>some (.ret a)) (fun p=>some (.pan p))
theorem ZR (n m:Nat) {S:Type}:∀ s1 i b (φ:_→Option S),(fb n (m+1) s1 i b).bind φ=od n s1 i b (fun s1 i b=>(fb n m s1 i b).bind φ) (fun a=>φ (.out a)) (fun a=>φ (.ret a)) (fun p=>φ (.pan p)):=by
 intros;first | (simp only [fb,od,fa,ba,iB,bB,oL,oX,nB,Option.bind_some]) | rfl
def Lv:List Sl:=.dat .str::tp 4 (.row 0::.dat (.int .i64)::tp 37 [])
def Kv:List RS:=[.row 5 1 (.int .u8) true false]
def tI:List Sl:=tp 44 []
def sI:List RS:=[]
def vI:List Sl:=.top::.top::.dat .str::.dat (.int .i64)::.dat .bool::tp 39 []
def uI:List RS:=[]
def Ug (K:XE→List AV→ia→Option Out):Lx (Unit) (BA×Int×Bool)→Option Out:=fun x=>onL x (fun a=>ak tI sI () () (K (.exit 0))) (fun a=>ak vI uI (a.1,(a.2.1,(a.2.2,()))) () (K .ret)) (fun _=>none)
def XC (n:Nat) {R:Type} (s:BA) (k:(BA×Int×Bool×Unit)→Option R):Option R:=
 (fb n n s (1:Int) (⟨0,fun _=>Ba (.int .u8)⟩:Sq Int)).bind fun x_1=>onL x_1
 (fun a_2=>
  k ((⟨#[]⟩:BA),((0:Int),(false,()))))
 (fun a_3=>
  k (a_3.1,(a_3.2.1,(a_3.2.2,()))))
 (fun _=>none)
def ru (n:Nat) (s:BA):Option (BA×Int×Bool×Unit):=XC n s some
theorem XY (n:Nat) {S:Type}:∀ s (φ:_→Option S),(ru n s).bind φ=XC n s φ:=by
 intros;unfold ru XC;first | (simp only [fa,ba,iB,bB,oL,oX,nB,Option.bind_some]) | rfl
def Uq (n:Nat):Hint Out:={ live:=fun c=>(cond (Nat.beq c 0) [(0,none),(5,some (.sl (.int .u8))),(6,none)] []),run:=fun c=>(cond (Nat.beq c 0) (some (aq Lv Kv fun σ ρ K=>(fb n n σ.1 σ.2.1 ρ.1).bind (Ug K))) none),xm:=fun c q=>(cond (Nat.beq c 0&&Nat.beq (q.getD 1000000) 0&&q.isSome) (some []) (cond (Nat.beq c 1&&Nat.beq (q.getD 1000000) 0&&q.isSome) (some []) (cond (Nat.beq c 1&&q.isNone) (some (lv [2,3,4])) none))) }
def Tq (n:Nat) (K:XE→List AV→ia→Option Out) (m:Nat) (s1:BA) (i:Int) (b:(Sq Int)):Option Out:=Pe tys (da Out (Td n)) (Uq n) n (Da [1,1,0,1,0,0] (aa Tryz.f122)) 0 Lv Kv K m (s1,(i,())) (b,())
theorem rI (n:Nat) (K:XE→List AV→ia→Option Out):∀ (m:Nat) s1 i b,Tq n K m s1 i b=(fb n m s1 i b).bind (Ug K)
 | 0,_,_,_=>by kernel_rfl
 | m+1,s1,i,b=>by
  have h1:Tq n K (m+1) s1 i b=od n s1 i b (Tq n K m) (fun a=>Ug K (.out a)) (fun a=>Ug K (.ret a)) (fun p=>Ug K (.pan p)):=by kernel_rfl
  have h2:Tq n K m=fun s1 i b=>(fb n m s1 i b).bind (Ug K):=by
   repeat (refine funext fun _=>?_)
   exact rI n K m _ _ _
  rw [h1,h2];exact (ZR n m _ _ _ (Ug K)).symm
theorem zP (n:Nat):ie tys (da Out (Td n)) (Uq n) n (Da [1,1,0,1,0,0] (aa Tryz.f122)) 0:=Oa (sp:=Lv) (rp:=Kv) (by kernel_rfl) fun K σ ρ=>rI n K n σ.1 σ.2.1 ρ.1
theorem aS (n:Nat):ta tys (da Out (Td n)) (Uq n) n (aa Tryz.f122) 0:=⟨trivial,⟨trivial,⟨⟨trivial,⟨zP n,⟨⟨trivial,⟨trivial,trivial⟩⟩,⟨⟨trivial,⟨⟨trivial,⟨⟨trivial,trivial⟩,trivial⟩⟩,⟨⟨trivial,⟨⟨trivial,⟨⟨trivial,⟨trivial,trivial⟩⟩,trivial⟩⟩,trivial⟩⟩,⟨⟨trivial,⟨trivial,trivial⟩⟩,trivial⟩⟩⟩⟩,trivial⟩⟩⟩⟩,⟨trivial,trivial⟩⟩⟩⟩
theorem uU (n:Nat):Enters Tryz.prog 122:=enters_of (c:=aa Tryz.f122) Tryz.func122 (by kernel_rfl) (by kernel_rfl)
def WN (n:Nat):Entry:=⟨122,pcT (.pair .str .unit) (.many (.pair .str (.pair (.int .i64) (.pair .bool .unit)))) (fun xs=>ru n xs.1),none,none⟩
theorem sW (n:Nat):EntryOk Tryz.prog gl (WN n):=
 Qa (uU n) fun xs y h=>ra tys_ok (Ol n) mixed (hint:=Uq n) (n:=n) Tryz.func122 (Pa (aS n)) (la (φ:=(fun y=>some (Out.ret (Vf (.many (.pair .str (.pair (.int .i64) (.pair .bool .unit)))) y)))) (by kernel_rfl) (XY n xs.1 _) h)
def Ys (n:Nat):List Entry:=WN n::Td n
theorem TE (n:Nat):AllOk Tryz.prog gl (Ys n):=.cons (sW n) (Ol n)
def ji (n:Nat) {R:Type} (s1 q:BA) (i:Int) (kn:BA→BA→Int→Option R) (ko:(BA)→Option R) (kr:Unit→Option R) (kp:Int→Option R):Option R:=
 if (decide (i<(s1.size:Int)))=true then
 if 0≤i∧i<(s1.size:Int) then
  if ((bt s1 i)==(34:Int))=false then
  if 0≤i∧i<(s1.size:Int) then
   if ((bt s1 i)==(92:Int))=true then
   if Ca q (⟨#[92]⟩:BA)=true then
    if 0≤(IntKind.wrap .i64 (i+(1:Int)))∧(IntKind.wrap .i64 (i+(1:Int)))≤(s1.size:Int) then
    if 0≤i∧i≤(IntKind.wrap .i64 (i+(1:Int))) then
     if Ca (q++(⟨#[92]⟩:BA)) (s1.extract (Int.toNat i) (Int.toNat (IntKind.wrap .i64 (i+(1:Int)))))=true then
     kn s1 ((q++(⟨#[92]⟩:BA))++(s1.extract (Int.toNat i) (Int.toNat (IntKind.wrap .i64 (i+(1:Int)))))) (IntKind.wrap .i64 (i+(1:Int)))
     else
     none
    else
     none
    else
    none
   else
    none
   else
   if 0≤(IntKind.wrap .i64 (i+(1:Int)))∧(IntKind.wrap .i64 (i+(1:Int)))≤(s1.size:Int) then
    if 0≤i∧i≤(IntKind.wrap .i64 (i+(1:Int))) then
    if Ca q (s1.extract (Int.toNat i) (Int.toNat (IntKind.wrap .i64 (i+(1:Int)))))=true then
     kn s1 (q++(s1.extract (Int.toNat i) (Int.toNat (IntKind.wrap .i64 (i+(1:Int)))))) (IntKind.wrap .i64 (i+(1:Int)))
    else
     none
    else
    none
   else
    none
  else
   none
  else
  if Ca q (⟨#[92]⟩:BA)=true then
   if 0≤(IntKind.wrap .i64 (i+(1:Int)))∧(IntKind.wrap .i64 (i+(1:Int)))≤(s1.size:Int) then
   if 0≤i∧i≤(IntKind.wrap .i64 (i+(1:Int))) then
    if Ca (q++(⟨#[92]⟩:BA)) (s1.extract (Int.toNat i) (Int.toNat (IntKind.wrap .i64 (i+(1:Int)))))=true then
    kn s1 ((q++(⟨#[92]⟩:BA))++(s1.extract (Int.toNat i) (Int.toNat (IntKind.wrap .i64 (i+(1:Int)))))) (IntKind.wrap .i64 (i+(1:Int)))
    else
    none
   else
    none
   else
   none
  else
   none
 else
  none
 else
 ko q
def pd (n:Nat):Nat→BA→BA→Int→Option (Lx (BA) Unit)
 | 0,_,_,_=>none
 | m+1,s1,q,i=>ji n s1 q i (pd n m) (fun a=>some (.out a)) (fun a=>some (.ret a)) (fun p=>some (.pan p))
theorem gS (n m:Nat) {S:Type}:∀ s1 q i (φ:_→Option S),(pd n (m+1) s1 q i).bind φ=ji n s1 q i (fun s1 q i=>(pd n m s1 q i).bind φ) (fun a=>φ (.out a)) (fun a=>φ (.ret a)) (fun p=>φ (.pan p)):=by
 intros;first | (simp only [pd,ji,fa,ba,iB,bB,oL,oX,nB,Option.bind_some]) | rfl
def Rv:List Sl:=.dat .str::.top::.top::.dat .str::.dat (.int .i64)::tp 27 []
def Qv:List RS:=[]
def II:List Sl:=.top::.top::.top::.dat .str::tp 28 []
def HI:List RS:=[]
def Xg (K:XE→List AV→ia→Option Out):Lx (BA) Unit→Option Out:=fun x=>onL x (fun a=>ak II HI (a,()) () (K (.exit 0))) (fun _=>none) (fun _=>none)
def ZC (n:Nat) {R:Type} (s:BA) (k:BA→Option R):Option R:=
 (pd n n s (⟨#[34]⟩:BA) (0:Int)).bind fun x_1=>onL x_1
 (fun a_2=>
  if Ca a_2 (⟨#[34]⟩:BA)=true then
  k (a_2++(⟨#[34]⟩:BA))
  else
  none)
 (fun _=>none)
 (fun _=>none)
def cy (n:Nat) (s:BA):Option BA:=ZC n s some
theorem ZY (n:Nat) {S:Type}:∀ s (φ:_→Option S),(cy n s).bind φ=ZC n s φ:=by
 intros;unfold cy ZC;first | (simp only [fa,ba,iB,bB,oL,oX,nB,Option.bind_some]) | rfl
def Yq (n:Nat):Hint Out:={ live:=fun c=>(cond (Nat.beq c 0) (lv [0,3,4]) []),run:=fun c=>(cond (Nat.beq c 0) (some (aq Rv Qv fun σ ρ K=>(pd n n σ.1 σ.2.1 σ.2.2.1).bind (Xg K))) none),xm:=fun c q=>(cond (Nat.beq c 0&&Nat.beq (q.getD 1000000) 0&&q.isSome) (some [(3,none)]) none) }
def Xq (n:Nat) (K:XE→List AV→ia→Option Out) (m:Nat) (s1:BA) (q:BA) (i:Int):Option Out:=Pe tys (da Out (Ys n)) (Yq n) n (Da [1,1,0,1,0,0] (aa Tryz.f123)) 0 Rv Qv K m (s1,(q,(i,()))) ()
theorem GI (n:Nat) (K:XE→List AV→ia→Option Out):∀ (m:Nat) s1 q i,Xq n K m s1 q i=(pd n m s1 q i).bind (Xg K)
 | 0,_,_,_=>by kernel_rfl
 | m+1,s1,q,i=>by
  have h1:Xq n K (m+1) s1 q i=ji n s1 q i (Xq n K m) (fun a=>Xg K (.out a)) (fun a=>Xg K (.ret a)) (fun p=>Xg K (.pan p)):=by kernel_rfl
  have h2:Xq n K m=fun s1 q i=>(pd n m s1 q i).bind (Xg K):=by
   repeat (refine funext fun _=>?_)
   exact GI n K m _ _ _
  rw [h1,h2];exact (gS n m _ _ _ (Xg K)).symm
theorem DP (n:Nat):ie tys (da Out (Ys n)) (Yq n) n (Da [1,1,0,1,0,0] (aa Tryz.f123)) 0:=Oa (sp:=Rv) (rp:=Qv) (by kernel_rfl) fun K σ ρ=>GI n K n σ.1 σ.2.1 σ.2.2.1
theorem iS (n:Nat):ta tys (da Out (Ys n)) (Yq n) n (aa Tryz.f123) 0:=⟨trivial,⟨trivial,⟨⟨trivial,⟨DP n,⟨⟨trivial,⟨trivial,trivial⟩⟩,⟨⟨⟨trivial,⟨trivial,trivial⟩⟩,trivial⟩,trivial⟩⟩⟩⟩,⟨trivial,trivial⟩⟩⟩⟩
theorem xU (n:Nat):Enters Tryz.prog 123:=enters_of (c:=aa Tryz.f123) Tryz.func123 (by kernel_rfl) (by kernel_rfl)
def YN (n:Nat):Entry:=⟨123,pcT (.pair .str .unit) (.one .str) (fun xs=>cy n xs.1),none,none⟩
theorem vW (n:Nat):EntryOk Tryz.prog gl (YN n):=
 Qa (xU n) fun xs y h=>ra tys_ok (TE n) mixed (hint:=Yq n) (n:=n) Tryz.func123 (Pa (iS n)) (la (φ:=(fun y=>some (Out.ret (Vf (.one .str) y)))) (by kernel_rfl) (ZY n xs.1 _) h)
def ct (n:Nat):List Entry:=YN n::Ys n
theorem WE (n:Nat):AllOk Tryz.prog gl (ct n):=.cons (vW n) (TE n)
def Zm (n:Nat) {R:Type} (s1:BA) (by01 from0 i:Int) (l:(Sq BA)) (kn:BA→Int→Int→Int→(Sq BA)→Option R) (ko:((Sq BA))→Option R) (kr:Unit→Option R) (kp:Int→Option R):Option R:=
 if (decide (i≤(s1.size:Int)))=true then
 if (i==(s1.size:Int))=false then
  if 0≤i∧i<(s1.size:Int) then
  if ((bt s1 i)==by01)=true then
   if 0≤i∧i≤(s1.size:Int) then
   if 0≤from0∧from0≤i then
    if Ta (l.n+1) 16=true then
    kn s1 by01 (IntKind.wrap .i64 (i+(1:Int))) (IntKind.wrap .i64 (i+(1:Int))) (⟨(l.n+1),fun q=>if q<l.n then l.at' q else (fun q=>List.getD (α:=BA) [(s1.extract (Int.toNat from0) (Int.toNat i))] q (Ba .str)) (q - l.n)⟩:Sq BA)
    else
    none
   else
    none
   else
   none
  else
   kn s1 by01 from0 (IntKind.wrap .i64 (i+(1:Int))) l
  else
  none
 else
  if 0≤i∧i≤(s1.size:Int) then
  if 0≤from0∧from0≤i then
   if Ta (l.n+1) 16=true then
   kn s1 by01 (IntKind.wrap .i64 (i+(1:Int))) (IntKind.wrap .i64 (i+(1:Int))) (⟨(l.n+1),fun q=>if q<l.n then l.at' q else (fun q=>List.getD (α:=BA) [(s1.extract (Int.toNat from0) (Int.toNat i))] q (Ba .str)) (q - l.n)⟩:Sq BA)
   else
   none
  else
   none
  else
  none
 else
 ko l
def xe (n:Nat):Nat→BA→Int→Int→Int→(Sq BA)→Option (Lx ((Sq BA)) Unit)
 | 0,_,_,_,_,_=>none
 | m+1,s1,by01,from0,i,l=>Zm n s1 by01 from0 i l (xe n m) (fun a=>some (.out a)) (fun a=>some (.ret a)) (fun p=>some (.pan p))
theorem IR (n m:Nat) {S:Type}:∀ s1 by01 from0 i l (φ:_→Option S),(xe n (m+1) s1 by01 from0 i l).bind φ=Zm n s1 by01 from0 i l (fun s1 by01 from0 i l=>(xe n m s1 by01 from0 i l).bind φ) (fun a=>φ (.out a)) (fun a=>φ (.ret a)) (fun p=>φ (.pan p)):=by
 intros;first | (simp only [xe,Zm,fa,ba,iB,bB,oL,oX,nB,Option.bind_some]) | rfl
def Cv:List Sl:=.dat .str::.dat (.int .u8)::.top::.top::.top::.row 0::.dat (.int .i64)::.dat (.int .i64)::tp 27 []
def Bv:List RS:=[.row 9 1 .str true false]
def RH:List Sl:=tp 5 (.row 0::tp 29 [])
def QH:List RS:=[.row 9 1 .str true false]
def Pg (K:XE→List AV→ia→Option Out):Lx ((Sq BA)) Unit→Option Out:=fun x=>onL x (fun a=>ak RH QH () (a,()) (K (.exit 0))) (fun _=>none) (fun _=>none)
def QC (n:Nat) {R:Type} (s:BA) (by0:Int) (k:(Sq BA)→Option R):Option R:=
 (xe n n s by0 (0:Int) (0:Int) (⟨0,fun _=>Ba .str⟩:Sq BA)).bind fun x_1=>onL x_1
 (fun a_2=>
  k a_2)
 (fun _=>none)
 (fun _=>none)
def lu (n:Nat) (s:BA) (by0:Int):Option (Sq BA):=QC n s by0 some
theorem JY (n:Nat) {S:Type}:∀ s by0 (φ:_→Option S),(lu n s by0).bind φ=QC n s by0 φ:=by
 intros;unfold lu QC;first | (simp only [fa,ba,iB,bB,oL,oX,nB,Option.bind_some]) | rfl
def Lq (n:Nat):Hint Out:={ live:=fun c=>(cond (Nat.beq c 0) [(0,none),(1,none),(5,some (.sl .str)),(6,none),(7,none)] []),run:=fun c=>(cond (Nat.beq c 0) (some (aq Cv Bv fun σ ρ K=>(xe n n σ.1 σ.2.1 σ.2.2.1 σ.2.2.2.1 ρ.1).bind (Pg K))) none),xm:=fun c q=>(cond (Nat.beq c 0&&Nat.beq (q.getD 1000000) 0&&q.isSome) (some [(5,some (.sl .str))]) none) }
def Kq (n:Nat) (K:XE→List AV→ia→Option Out) (m:Nat) (s1:BA) (by01:Int) (from0:Int) (i:Int) (l:(Sq BA)):Option Out:=Pe tys (da Out (ct n)) (Lq n) n (Da [1,1,1,0,1,0,0] (aa Tryz.f48)) 0 Cv Bv K m (s1,(by01,(from0,(i,())))) (l,())
theorem PH (n:Nat) (K:XE→List AV→ia→Option Out):∀ (m:Nat) s1 by01 from0 i l,Kq n K m s1 by01 from0 i l=(xe n m s1 by01 from0 i l).bind (Pg K)
 | 0,_,_,_,_,_=>by kernel_rfl
 | m+1,s1,by01,from0,i,l=>by
  have h1:Kq n K (m+1) s1 by01 from0 i l=Zm n s1 by01 from0 i l (Kq n K m) (fun a=>Pg K (.out a)) (fun a=>Pg K (.ret a)) (fun p=>Pg K (.pan p)):=by kernel_rfl
  have h2:Kq n K m=fun s1 by01 from0 i l=>(xe n m s1 by01 from0 i l).bind (Pg K):=by
   repeat (refine funext fun _=>?_)
   exact PH n K m _ _ _ _ _
  rw [h1,h2];exact (IR n m _ _ _ _ _ (Pg K)).symm
theorem rP (n:Nat):ie tys (da Out (ct n)) (Lq n) n (Da [1,1,1,0,1,0,0] (aa Tryz.f48)) 0:=Oa (sp:=Cv) (rp:=Bv) (by kernel_rfl) fun K σ ρ=>PH n K n σ.1 σ.2.1 σ.2.2.1 σ.2.2.2.1 ρ.1
theorem JR (n:Nat):ta tys (da Out (ct n)) (Lq n) n (aa Tryz.f48) 0:=⟨trivial,⟨trivial,⟨trivial,⟨⟨trivial,⟨rP n,⟨⟨trivial,⟨trivial,trivial⟩⟩,⟨⟨trivial,⟨⟨trivial,trivial⟩,trivial⟩⟩,trivial⟩⟩⟩⟩,⟨trivial,trivial⟩⟩⟩⟩⟩
theorem dU (n:Nat):Enters Tryz.prog 48:=enters_of (c:=aa Tryz.f48) Tryz.func48 (by kernel_rfl) (by kernel_rfl)
def GN (n:Nat):Entry:=⟨48,pcT (.pair .str (.pair (.int .u8) .unit)) (.one (.sl .str)) (fun xs=>lu n xs.1 xs.2.1),none,none⟩
theorem dW (n:Nat):EntryOk Tryz.prog gl (GN n):=
 Qa (dU n) fun xs y h=>ra tys_ok (WE n) mixed (hint:=Lq n) (n:=n) Tryz.func48 (Pa (JR n)) (la (φ:=(fun y=>some (Out.ret (Vf (.one (.sl .str)) y)))) (by kernel_rfl) (JY n xs.1 xs.2.1 _) h)
def YF (n:Nat):List Entry:=GN n::ct n
theorem KE (n:Nat):AllOk Tryz.prog gl (YF n):=.cons (dW n) (WE n)
def Zx (n:Nat) {R:Type} (c:Int) (k:Bool→Option R):Option R:=
 if (decide (c≥(97:Int)))=true then
 if (decide (c≤(122:Int)))=false then
  if (decide (c≥(65:Int)))=true then
  k (decide (c≤(90:Int)))
  else
  k false
 else
  k true
 else
 if (decide (c≥(65:Int)))=true then
  k (decide (c≤(90:Int)))
 else
  k false
def Ow (n:Nat) (c:Int):Option Bool:=Zx n c some
theorem tW (n:Nat) {S:Type}:∀ c (φ:_→Option S),(Ow n c).bind φ=Zx n c φ:=by
 intros;unfold Ow Zx;first | (simp only [fa,ba,iB,bB,oL,oX,nB,Option.bind_some]) | rfl
def UE (n:Nat):Hint Out:={ live:=fun c=>[],run:=fun c=>none,xm:=fun c q=>none }
theorem AP (n:Nat):ta tys (da Out (YF n)) (UE n) n (aa Tryz.f148) 0:=ma (fun _=>rfl) _ _ (by kernel_rfl)
theorem cS (n:Nat):Enters Tryz.prog 148:=enters_of (c:=aa Tryz.f148) Tryz.func148 (by kernel_rfl) (by kernel_rfl)
def aL (n:Nat):Entry:=⟨148,pcT (.pair (.int .u8) .unit) (.one .bool) (fun xs=>Ow n xs.1),none,none⟩
theorem vU (n:Nat):EntryOk Tryz.prog gl (aL n):=
 Qa (cS n) fun xs y h=>ra tys_ok (KE n) mixed (hint:=UE n) (n:=n) Tryz.func148 (Pa (AP n)) (la (φ:=(fun y=>some (Out.ret (Vf (.one .bool) y)))) (by kernel_rfl) (tW n xs.1 _) h)
def MB (n:Nat):List Entry:=aL n::YF n
theorem NB (n:Nat):AllOk Tryz.prog gl (MB n):=.cons (vU n) (KE n)
def WC (n:Nat) {R:Type} (c:Int) (k:Bool→Option R):Option R:=
 if (decide (c≥(48:Int)))=true then
 k (decide (c≤(57:Int)))
 else
 k false
def qu (n:Nat) (c:Int):Option Bool:=WC n c some
theorem WY (n:Nat) {S:Type}:∀ c (φ:_→Option S),(qu n c).bind φ=WC n c φ:=by
 intros;unfold qu WC;first | (simp only [fa,ba,iB,bB,oL,oX,nB,Option.bind_some]) | rfl
def qI (n:Nat):Hint Out:={ live:=fun c=>[],run:=fun c=>none,xm:=fun c q=>none }
theorem YR (n:Nat):ta tys (da Out (MB n)) (qI n) n (aa Tryz.f49) 0:=ma (fun _=>rfl) _ _ (by kernel_rfl)
theorem tU (n:Nat):Enters Tryz.prog 49:=enters_of (c:=aa Tryz.f49) Tryz.func49 (by kernel_rfl) (by kernel_rfl)
def VN (n:Nat):Entry:=⟨49,pcT (.pair (.int .u8) .unit) (.one .bool) (fun xs=>qu n xs.1),none,none⟩
theorem rW (n:Nat):EntryOk Tryz.prog gl (VN n):=
 Qa (tU n) fun xs y h=>ra tys_ok (NB n) mixed (hint:=qI n) (n:=n) Tryz.func49 (Pa (YR n)) (la (φ:=(fun y=>some (Out.ret (Vf (.one .bool) y)))) (by kernel_rfl) (WY n xs.1 _) h)
def Xs (n:Nat):List Entry:=VN n::MB n
theorem SE (n:Nat):AllOk Tryz.prog gl (Xs n):=.cons (rW n) (NB n)
def lr (n:Nat) {R:Type} (c1:Int) (s:BA) (i:Int) (kn:Int→BA→Int→Option R) (ko:(Unit)→Option R) (kr:(Bool)→Option R) (kp:Int→Option R):Option R:=
 if (decide (i<(s.size:Int)))=true then
 if 0≤i∧i<(s.size:Int) then
  if ((bt s i)==c1)=true then
  kr true
  else
  kn c1 s (IntKind.wrap .i64 (i+(1:Int)))
 else
  none
 else
 ko ()
def ng (n:Nat):Nat→Int→BA→Int→Option (Lx (Unit) (Bool))
 | 0,_,_,_=>none
 | m+1,c1,s,i=>lr n c1 s i (ng n m) (fun a=>some (.out a)) (fun a=>some (.ret a)) (fun p=>some (.pan p))
theorem yU (n m:Nat) {S:Type}:∀ c1 s i (φ:_→Option S),(ng n (m+1) c1 s i).bind φ=lr n c1 s i (fun c1 s i=>(ng n m c1 s i).bind φ) (fun a=>φ (.out a)) (fun a=>φ (.ret a)) (fun p=>φ (.pan p)):=by
 intros;first | (simp only [ng,lr,fa,ba,iB,bB,oL,oX,nB,Option.bind_some]) | rfl
def ey:List Sl:=.dat (.int .u8)::.top::.top::.dat .str::.dat (.int .i64)::tp 11 []
def dy:List RS:=[]
def WJ:List Sl:=tp 16 []
def VJ:List RS:=[]
def YJ:List Sl:=.top::.top::.dat .bool::tp 13 []
def XJ:List RS:=[]
def mi (K:XE→List AV→ia→Option Out):Lx (Unit) (Bool)→Option Out:=fun x=>onL x (fun a=>ak WJ VJ () () (K (.exit 0))) (fun a=>ak YJ XJ (a,()) () (K .ret)) (fun _=>none)
def JI (n:Nat) {R:Type} (c:Int) (k:Bool→Option R):Option R:=
 (ng n n c (⟨#[33,35,36,37,38,39,42,43,45,47,61,63,94,95,96,123,124,125,126]⟩:BA) (0:Int)).bind fun x_1=>onL x_1
 (fun a_2=>
  k false)
 (fun a_3=>
  k a_3)
 (fun _=>none)
def UJ (n:Nat) (c:Int):Option Bool:=JI n c some
theorem M2 (n:Nat) {S:Type}:∀ c (φ:_→Option S),(UJ n c).bind φ=JI n c φ:=by
 intros;unfold UJ JI;first | (simp only [fa,ba,iB,bB,oL,oX,nB,Option.bind_some]) | rfl
def uu (n:Nat):Hint Out:={ live:=fun c=>(cond (Nat.beq c 0) (lv [0,3,4]) []),run:=fun c=>(cond (Nat.beq c 0) (some (aq ey dy fun σ ρ K=>(ng n n σ.1 σ.2.1 σ.2.2.1).bind (mi K))) none),xm:=fun c q=>(cond (Nat.beq c 0&&Nat.beq (q.getD 1000000) 0&&q.isSome) (some []) (cond (Nat.beq c 1&&q.isNone) (some [(2,none)]) none)) }
def tu (n:Nat) (K:XE→List AV→ia→Option Out) (m:Nat) (c1:Int) (s:BA) (i:Int):Option Out:=Pe tys (da Out (Xs n)) (uu n) n (Da [1,1,0,1,0,0] (aa Tryz.f149)) 0 ey dy K m (c1,(s,(i,()))) ()
theorem bL (n:Nat) (K:XE→List AV→ia→Option Out):∀ (m:Nat) c1 s i,tu n K m c1 s i=(ng n m c1 s i).bind (mi K)
 | 0,_,_,_=>by kernel_rfl
 | m+1,c1,s,i=>by
  have h1:tu n K (m+1) c1 s i=lr n c1 s i (tu n K m) (fun a=>mi K (.out a)) (fun a=>mi K (.ret a)) (fun p=>mi K (.pan p)):=by kernel_rfl
  have h2:tu n K m=fun c1 s i=>(ng n m c1 s i).bind (mi K):=by
   repeat (refine funext fun _=>?_)
   exact bL n K m _ _ _
  rw [h1,h2];exact (yU n m _ _ _ (mi K)).symm
theorem jS (n:Nat):ie tys (da Out (Xs n)) (uu n) n (Da [1,1,0,1,0,0] (aa Tryz.f149)) 0:=Oa (sp:=ey) (rp:=dy) (by kernel_rfl) fun K σ ρ=>bL n K n σ.1 σ.2.1 σ.2.2.1
theorem zU (n:Nat):ta tys (da Out (Xs n)) (uu n) n (aa Tryz.f149) 0:=⟨trivial,⟨trivial,⟨⟨trivial,⟨jS n,⟨⟨trivial,⟨trivial,trivial⟩⟩,⟨⟨trivial,⟨⟨trivial,trivial⟩,trivial⟩⟩,trivial⟩⟩⟩⟩,⟨trivial,trivial⟩⟩⟩⟩
theorem wW (n:Nat):Enters Tryz.prog 149:=enters_of (c:=aa Tryz.f149) Tryz.func149 (by kernel_rfl) (by kernel_rfl)
def AQ (n:Nat):Entry:=⟨149,pcT (.pair (.int .u8) .unit) (.one .bool) (fun xs=>UJ n xs.1),none,none⟩
theorem aZ (n:Nat):EntryOk Tryz.prog gl (AQ n):=
 Qa (wW n) fun xs y h=>ra tys_ok (SE n) mixed (hint:=uu n) (n:=n) Tryz.func149 (Pa (zU n)) (la (φ:=(fun y=>some (Out.ret (Vf (.one .bool) y)))) (by kernel_rfl) (M2 n xs.1 _) h)
def en (n:Nat):List Entry:=AQ n::Xs n
theorem KI (n:Nat):AllOk Tryz.prog gl (en n):=.cons (aZ n) (SE n)
def dn (n:Nat) {R:Type} (l1:(Sq BA)) (i1 k0:Int) (kn:(Sq BA)→Int→Int→Option R) (ko:((Sq BA)×Int)→Option R) (kr:(Bool)→Option R) (kp:Int→Option R):Option R:=
 if 0≤i1∧i1<(l1.n:Int) then
 if (decide (k0<((l1.at' (Int.toNat i1)).size:Int)))=true then
  if 0≤i1∧i1<(l1.n:Int) then
  if 0≤k0∧k0<((l1.at' (Int.toNat i1)).size:Int) then
   (Ow n (bt (l1.at' (Int.toNat i1)) k0)).bind fun v1=>
   if (!v1)=true then
   if 0≤i1∧i1<(l1.n:Int) then
    if 0≤k0∧k0<((l1.at' (Int.toNat i1)).size:Int) then
    (qu n (bt (l1.at' (Int.toNat i1)) k0)).bind fun v2=>
    if (!v2)=true then
     if 0≤i1∧i1<(l1.n:Int) then
     if 0≤k0∧k0<((l1.at' (Int.toNat i1)).size:Int) then
      (UJ n (bt (l1.at' (Int.toNat i1)) k0)).bind fun v3=>
      if (!v3)=true then
      kr false
      else
      kn l1 i1 (IntKind.wrap .i64 (k0+(1:Int)))
     else
      none
     else
     none
    else
     kn l1 i1 (IntKind.wrap .i64 (k0+(1:Int)))
    else
    none
   else
    none
   else
   kn l1 i1 (IntKind.wrap .i64 (k0+(1:Int)))
  else
   none
  else
  none
 else
  ko (l1,i1)
 else
 none
def Be (n:Nat):Nat→(Sq BA)→Int→Int→Option (Lx ((Sq BA)×Int) (Bool))
 | 0,_,_,_=>none
 | m+1,l1,i1,k0=>dn n l1 i1 k0 (Be n m) (fun a=>some (.out a)) (fun a=>some (.ret a)) (fun p=>some (.pan p))
theorem eS (n m:Nat) {S:Type}:∀ l1 i1 k0 (φ:_→Option S),(Be n (m+1) l1 i1 k0).bind φ=dn n l1 i1 k0 (fun l1 i1 k0=>(Be n m l1 i1 k0).bind φ) (fun a=>φ (.out a)) (fun a=>φ (.ret a)) (fun p=>φ (.pan p)):=by
 intros;first | (simp only [Be,dn,fa,ba,iB,bB,oL,oX,nB,Option.bind_some]) | rfl
def Pv:List Sl:=.top::.top::.top::.dat (.sl .str)::.dat (.int .i64)::.dat (.int .i64)::tp 50 []
def Ov:List RS:=[]
def DI:List Sl:=.top::.top::.top::.dat (.sl .str)::.dat (.int .i64)::tp 51 []
def CI:List RS:=[]
def FI:List Sl:=.top::.top::.dat .bool::tp 53 []
def EI:List RS:=[]
def Wg (K:XE→List AV→ia→Option Out):Lx ((Sq BA)×Int) (Bool)→Option Out:=fun x=>onL x (fun a=>ak DI CI (a.1,(a.2,())) () (K (.exit 2))) (fun a=>ak FI EI (a,()) () (K .ret)) (fun _=>none)
def bn (n:Nat) {R:Type} (l:(Sq BA)) (i:Int) (kn:(Sq BA)→Int→Option R) (ko:(Unit)→Option R) (kr:(Bool)→Option R) (kp:Int→Option R):Option R:=
 if (decide (i<(l.n:Int)))=true then
 if 0≤i∧i<(l.n:Int) then
  if ((l.at' (Int.toNat i)).toList==(⟨#[]⟩:BA).toList)=true then
  kr false
  else
  (Be n n l i (0:Int)).bind fun x_1=>onL x_1
   (fun a_2=>
   kn a_2.1 (IntKind.wrap .i64 (a_2.2+(1:Int))))
   (fun a_3=>
   kr a_3)
   (fun _=>none)
 else
  none
 else
 ko ()
def Ae (n:Nat):Nat→(Sq BA)→Int→Option (Lx (Unit) (Bool))
 | 0,_,_=>none
 | m+1,l,i=>bn n l i (Ae n m) (fun a=>some (.out a)) (fun a=>some (.ret a)) (fun p=>some (.pan p))
theorem dS (n m:Nat) {S:Type}:∀ l i (φ:_→Option S),(Ae n (m+1) l i).bind φ=bn n l i (fun l i=>(Ae n m l i).bind φ) (fun a=>φ (.out a)) (fun a=>φ (.ret a)) (fun p=>φ (.pan p)):=by
 intros;first | (simp only [Ae,bn,fa,ba,iB,bB,oL,oX,nB,Option.bind_some]) | rfl
def Nv:List Sl:=.top::.top::.top::.dat (.sl .str)::.dat (.int .i64)::tp 51 []
def Mv:List RS:=[]
def yI:List Sl:=tp 56 []
def xI:List RS:=[]
def AI:List Sl:=.top::.top::.dat .bool::tp 53 []
def zI:List RS:=[]
def Vg (K:XE→List AV→ia→Option Out):Lx (Unit) (Bool)→Option Out:=fun x=>onL x (fun a=>ak yI xI () () (K (.exit 0))) (fun a=>ak AI zI (a,()) () (K .ret)) (fun _=>none)
def YC (n:Nat) {R:Type} (s:BA) (k:Bool→Option R):Option R:=
 (lu n s (46:Int)).bind fun v=>
 (Ae n n v (0:Int)).bind fun x_1=>onL x_1
 (fun a_2=>
  k true)
 (fun a_3=>
  k a_3)
 (fun _=>none)
def su (n:Nat) (s:BA):Option Bool:=YC n s some
theorem YY (n:Nat) {S:Type}:∀ s (φ:_→Option S),(su n s).bind φ=YC n s φ:=by
 intros;unfold su YC;first | (simp only [fa,ba,iB,bB,oL,oX,nB,Option.bind_some]) | rfl
def Bi (n:Nat):Hint Out:={ live:=fun c=>(cond (Nat.beq c 0) [(3,some (.sl .str)),(4,none)] (cond (Nat.beq c 2) [(3,some (.sl .str)),(4,none),(5,none)] [])),run:=fun c=>(cond (Nat.beq c 0) (some (aq Nv Mv fun σ ρ K=>(Ae n n σ.1 σ.2.1).bind (Vg K))) (cond (Nat.beq c 2) (some (aq Pv Ov fun σ ρ K=>(Be n n σ.1 σ.2.1 σ.2.2.1).bind (Wg K))) none)),xm:=fun c q=>(cond (Nat.beq c 0&&Nat.beq (q.getD 1000000) 0&&q.isSome) (some []) (cond (Nat.beq c 2&&Nat.beq (q.getD 1000000) 2&&q.isSome) (some [(3,some (.sl .str)),(4,none)]) (cond (Nat.beq c 3&&q.isNone) (some [(2,none)]) (cond (Nat.beq c 1&&q.isNone) (some [(2,none)]) none)))) }
def Wq (n:Nat) (K:XE→List AV→ia→Option Out) (m:Nat) (l1:(Sq BA)) (i1:Int) (k0:Int):Option Out:=Pe tys (da Out (en n)) (Bi n) n (Da [1,1,0,1,0,0,1,0,0,1,1,0,0] (aa Tryz.f124)) 2 Pv Ov K m (l1,(i1,(k0,()))) ()
theorem BI (n:Nat) (K:XE→List AV→ia→Option Out):∀ (m:Nat) l1 i1 k0,Wq n K m l1 i1 k0=(Be n m l1 i1 k0).bind (Wg K)
 | 0,_,_,_=>by kernel_rfl
 | m+1,l1,i1,k0=>by
  have h1:Wq n K (m+1) l1 i1 k0=dn n l1 i1 k0 (Wq n K m) (fun a=>Wg K (.out a)) (fun a=>Wg K (.ret a)) (fun p=>Wg K (.pan p)):=by kernel_rfl
  have h2:Wq n K m=fun l1 i1 k0=>(Be n m l1 i1 k0).bind (Wg K):=by
   repeat (refine funext fun _=>?_)
   exact BI n K m _ _ _
  rw [h1,h2];exact (eS n m _ _ _ (Wg K)).symm
theorem CP (n:Nat):ie tys (da Out (en n)) (Bi n) n (Da [1,1,0,1,0,0,1,0,0,1,1,0,0] (aa Tryz.f124)) 2:=Oa (sp:=Pv) (rp:=Ov) (by kernel_rfl) fun K σ ρ=>BI n K n σ.1 σ.2.1 σ.2.2.1
def Vq (n:Nat) (K:XE→List AV→ia→Option Out) (m:Nat) (l:(Sq BA)) (i:Int):Option Out:=Pe tys (da Out (en n)) (Bi n) n (Da [1,1,0,1,0,0] (aa Tryz.f124)) 0 Nv Mv K m (l,(i,())) ()
theorem wI (n:Nat) (K:XE→List AV→ia→Option Out):∀ (m:Nat) l i,Vq n K m l i=(Ae n m l i).bind (Vg K)
 | 0,_,_=>by kernel_rfl
 | m+1,l,i=>by
  have h1:Vq n K (m+1) l i=bn n l i (Vq n K m) (fun a=>Vg K (.out a)) (fun a=>Vg K (.ret a)) (fun p=>Vg K (.pan p)):=by kernel_rfl
  have h2:Vq n K m=fun l i=>(Ae n m l i).bind (Vg K):=by
   repeat (refine funext fun _=>?_)
   exact wI n K m _ _
  rw [h1,h2];exact (dS n m _ _ (Vg K)).symm
theorem BP (n:Nat):ie tys (da Out (en n)) (Bi n) n (Da [1,1,0,1,0,0] (aa Tryz.f124)) 0:=Oa (sp:=Nv) (rp:=Mv) (by kernel_rfl) fun K σ ρ=>wI n K n σ.1 σ.2.1
theorem fS (n:Nat):ta tys (da Out (en n)) (Bi n) n (aa Tryz.f124) 0:=⟨trivial,⟨trivial,⟨⟨trivial,⟨BP n,⟨⟨trivial,⟨trivial,trivial⟩⟩,⟨⟨⟨trivial,⟨⟨trivial,trivial⟩,trivial⟩⟩,⟨trivial,⟨CP n,⟨⟨trivial,⟨trivial,trivial⟩⟩,⟨⟨trivial,⟨⟨trivial,trivial⟩,trivial⟩⟩,trivial⟩⟩⟩⟩⟩,trivial⟩⟩⟩⟩,⟨trivial,trivial⟩⟩⟩⟩
theorem wU (n:Nat):Enters Tryz.prog 124:=enters_of (c:=aa Tryz.f124) Tryz.func124 (by kernel_rfl) (by kernel_rfl)
def XN (n:Nat):Entry:=⟨124,pcT (.pair .str .unit) (.one .bool) (fun xs=>su n xs.1),none,none⟩
theorem uW (n:Nat):EntryOk Tryz.prog gl (XN n):=
 Qa (wU n) fun xs y h=>ra tys_ok (KI n) mixed (hint:=Bi n) (n:=n) Tryz.func124 (Pa (fS n)) (la (φ:=(fun y=>some (Out.ret (Vf (.one .bool) y)))) (by kernel_rfl) (YY n xs.1 _) h)
def Zs (n:Nat):List Entry:=XN n::en n
theorem VE (n:Nat):AllOk Tryz.prog gl (Zs n):=.cons (uW n) (KI n)
def di (n:Nat) {R:Type} (i:Int) (b:(Sq Int)) (kn:Int→(Sq Int)→Option R) (ko:((Sq Int))→Option R) (kr:Unit→Option R) (kp:Int→Option R):Option R:=
 if (decide (i<(b.n:Int)))=true then
 if 0≤i∧i<(b.n:Int) then
  if (decide ((b.at' (Int.toNat i))≥(65:Int)))=true then
  if 0≤i∧i<(b.n:Int) then
   if (decide ((b.at' (Int.toNat i))≤(90:Int)))=true then
   if 0≤i∧i<(b.n:Int) then
    if 0≤i∧i<(b.n:Int) then
    kn (IntKind.wrap .i64 (i+(1:Int))) (⟨b.n,fun q=>if q=(Int.toNat i)∧q<b.n then (IntKind.wrap .u8 ((b.at' (Int.toNat i))+(32:Int))) else b.at' q⟩:Sq Int)
    else
    none
   else
    none
   else
   kn (IntKind.wrap .i64 (i+(1:Int))) b
  else
   none
  else
  kn (IntKind.wrap .i64 (i+(1:Int))) b
 else
  none
 else
 ko b
def Kc (n:Nat):Nat→Int→(Sq Int)→Option (Lx ((Sq Int)) Unit)
 | 0,_,_=>none
 | m+1,i,b=>di n i b (Kc n m) (fun a=>some (.out a)) (fun a=>some (.ret a)) (fun p=>some (.pan p))
theorem GR (n m:Nat) {S:Type}:∀ i b (φ:_→Option S),(Kc n (m+1) i b).bind φ=di n i b (fun i b=>(Kc n m i b).bind φ) (fun a=>φ (.out a)) (fun a=>φ (.ret a)) (fun p=>φ (.pan p)):=by
 intros;first | (simp only [Kc,di,fa,ba,iB,bB,oL,oX,nB,Option.bind_some]) | rfl
def Av:List Sl:=.top::.top::.top::.row 0::.dat (.int .i64)::tp 30 []
def zv:List RS:=[.row 5 1 (.int .u8) false true]
def OH:List Sl:=.top::.top::.top::.row 0::tp 31 []
def NH:List RS:=[.row 5 1 (.int .u8) false true]
def Og (K:XE→List AV→ia→Option Out):Lx ((Sq Int)) Unit→Option Out:=fun x=>onL x (fun a=>ak OH NH () (a,()) (K (.exit 0))) (fun _=>none) (fun _=>none)
def PC (n:Nat) {R:Type} (s:BA) (k:BA→Option R):Option R:=
 (Kc n n (0:Int) (⟨s.size,fun q=>bt s q⟩:Sq Int)).bind fun x_1=>onL x_1
 (fun a_2=>
  k (Oh a_2.n a_2.at'))
 (fun _=>none)
 (fun _=>none)
def dm (n:Nat) (s:BA):Option BA:=PC n s some
theorem IY (n:Nat) {S:Type}:∀ s (φ:_→Option S),(dm n s).bind φ=PC n s φ:=by
 intros;unfold dm PC;first | (simp only [fa,ba,iB,bB,oL,oX,nB,Option.bind_some]) | rfl
def Jq (n:Nat):Hint Out:={ live:=fun c=>(cond (Nat.beq c 0) [(3,some (.sl (.int .u8))),(4,none)] []),run:=fun c=>(cond (Nat.beq c 0) (some (aq Av zv fun σ ρ K=>(Kc n n σ.1 ρ.1).bind (Og K))) none),xm:=fun c q=>(cond (Nat.beq c 0&&Nat.beq (q.getD 1000000) 0&&q.isSome) (some [(3,some (.sl (.int .u8)))]) none) }
def Iq (n:Nat) (K:XE→List AV→ia→Option Out) (m:Nat) (i:Int) (b:(Sq Int)):Option Out:=Pe tys (da Out (Zs n)) (Jq n) n (Da [1,1,0,1,0,0] (aa Tryz.f125)) 0 Av zv K m (i,()) (b,())
theorem MH (n:Nat) (K:XE→List AV→ia→Option Out):∀ (m:Nat) i b,Iq n K m i b=(Kc n m i b).bind (Og K)
 | 0,_,_=>by kernel_rfl
 | m+1,i,b=>by
  have h1:Iq n K (m+1) i b=di n i b (Iq n K m) (fun a=>Og K (.out a)) (fun a=>Og K (.ret a)) (fun p=>Og K (.pan p)):=by kernel_rfl
  have h2:Iq n K m=fun i b=>(Kc n m i b).bind (Og K):=by
   repeat (refine funext fun _=>?_)
   exact MH n K m _ _
  rw [h1,h2];exact (GR n m _ _ (Og K)).symm
theorem qP (n:Nat):ie tys (da Out (Zs n)) (Jq n) n (Da [1,1,0,1,0,0] (aa Tryz.f125)) 0:=Oa (sp:=Av) (rp:=zv) (by kernel_rfl) fun K σ ρ=>MH n K n σ.1 ρ.1
theorem HR (n:Nat):ta tys (da Out (Zs n)) (Jq n) n (aa Tryz.f125) 0:=⟨trivial,⟨trivial,⟨⟨trivial,⟨qP n,⟨⟨trivial,⟨trivial,trivial⟩⟩,⟨⟨trivial,⟨trivial,trivial⟩⟩,trivial⟩⟩⟩⟩,⟨trivial,trivial⟩⟩⟩⟩
theorem cU (n:Nat):Enters Tryz.prog 125:=enters_of (c:=aa Tryz.f125) Tryz.func125 (by kernel_rfl) (by kernel_rfl)
def FN (n:Nat):Entry:=⟨125,pcT (.pair .str .unit) (.one .str) (fun xs=>dm n xs.1),none,none⟩
theorem cW (n:Nat):EntryOk Tryz.prog gl (FN n):=
 Qa (cU n) fun xs y h=>ra tys_ok (VE n) mixed (hint:=Jq n) (n:=n) Tryz.func125 (Pa (HR n)) (la (φ:=(fun y=>some (Out.ret (Vf (.one .str) y)))) (by kernel_rfl) (IY n xs.1 _) h)
def XF (n:Nat):List Entry:=FN n::Zs n
theorem JE (n:Nat):AllOk Tryz.prog gl (XF n):=.cons (cW n) (VE n)
def VC (n:Nat) {R:Type} (s:BA) (k:Bool→Option R):Option R:=
 if (decide ((s.size:Int)<(1:Int)))=false then
 if (decide ((s.size:Int)>(64:Int)))=true then
  k false
 else
  if 0≤(0:Int)∧(0:Int)<(s.size:Int) then
  if ((bt s (0:Int)) !=(34:Int))=true then
   (su n s).bind fun v=>
   k v
  else
   (ru n s).bind fun v1=>
   if v1.2.2.1=true then
   if (v1.2.1==(s.size:Int))=true then
    (su n v1.1).bind fun v2=>
    if (!v2)=true then
    (cy n v1.1).bind fun v3=>
    k (v3.toList==s.toList)
    else
    k false
   else
    k false
   else
   k false
  else
  none
 else
 k false
def UC (n:Nat) (s:BA):Option Bool:=VC n s some
theorem RY (n:Nat) {S:Type}:∀ s (φ:_→Option S),(UC n s).bind φ=VC n s φ:=by
 intros;unfold UC VC;first | (simp only [fa,ba,iB,bB,oL,oX,nB,Option.bind_some]) | rfl
def iI (n:Nat):Hint Out:={ live:=fun c=>[],run:=fun c=>none,xm:=fun c q=>none }
theorem UR (n:Nat):ta tys (da Out (XF n)) (iI n) n (aa Tryz.f150) 0:=ma (fun _=>rfl) _ _ (by kernel_rfl)
theorem oU (n:Nat):Enters Tryz.prog 150:=enters_of (c:=aa Tryz.f150) Tryz.func150 (by kernel_rfl) (by kernel_rfl)
def SN (n:Nat):Entry:=⟨150,pcT (.pair .str .unit) (.one .bool) (fun xs=>UC n xs.1),none,none⟩
theorem mW (n:Nat):EntryOk Tryz.prog gl (SN n):=
 Qa (oU n) fun xs y h=>ra tys_ok (JE n) mixed (hint:=iI n) (n:=n) Tryz.func150 (Pa (UR n)) (la (φ:=(fun y=>some (Out.ret (Vf (.one .bool) y)))) (by kernel_rfl) (RY n xs.1 _) h)
def Vs (n:Nat):List Entry:=SN n::XF n
theorem PE (n:Nat):AllOk Tryz.prog gl (Vs n):=.cons (mW n) (JE n)
def ei (n:Nat) {R:Type} (s1:BA) (n0 i:Int) (kn:BA→Int→Int→Option R) (ko:(Int)→Option R) (kr:(Int×Bool)→Option R) (kp:Int→Option R):Option R:=
 if (decide (i<(s1.size:Int)))=true then
 if 0≤i∧i<(s1.size:Int) then
  if (decide ((bt s1 i)<(48:Int)))=false then
  if 0≤i∧i<(s1.size:Int) then
   if (decide ((bt s1 i)>(57:Int)))=true then
   kr ((0:Int),false)
   else
   if 0≤i∧i<(s1.size:Int) then
    kn s1 (IntKind.wrap .i64 ((IntKind.wrap .i64 ((10:Int)*n0))+(IntKind.wrap .i64 (IntKind.wrap .u8 ((bt s1 i) - (48:Int)))))) (IntKind.wrap .i64 (i+(1:Int)))
   else
    none
  else
   none
  else
  kr ((0:Int),false)
 else
  none
 else
 ko n0
def Lc (n:Nat):Nat→BA→Int→Int→Option (Lx (Int) (Int×Bool))
 | 0,_,_,_=>none
 | m+1,s1,n0,i=>ei n s1 n0 i (Lc n m) (fun a=>some (.out a)) (fun a=>some (.ret a)) (fun p=>some (.pan p))
theorem KR (n m:Nat) {S:Type}:∀ s1 n0 i (φ:_→Option S),(Lc n (m+1) s1 n0 i).bind φ=ei n s1 n0 i (fun s1 n0 i=>(Lc n m s1 n0 i).bind φ) (fun a=>φ (.out a)) (fun a=>φ (.ret a)) (fun p=>φ (.pan p)):=by
 intros;first | (simp only [Lc,ei,fa,ba,iB,bB,oL,oX,nB,Option.bind_some]) | rfl
def Ev:List Sl:=.dat .str::.top::.top::.top::.dat (.int .i64)::.dat (.int .i64)::tp 42 []
def Dv:List RS:=[]
def UH:List Sl:=tp 4 (.dat (.int .i64)::tp 43 [])
def TH:List RS:=[]
def WH:List Sl:=.top::.top::.dat (.int .i64)::.dat .bool::tp 44 []
def VH:List RS:=[]
def Qg (K:XE→List AV→ia→Option Out):Lx (Int) (Int×Bool)→Option Out:=fun x=>onL x (fun a=>ak UH TH (a,()) () (K (.exit 0))) (fun a=>ak WH VH (a.1,(a.2,())) () (K .ret)) (fun _=>none)
def SC (n:Nat) {R:Type} (s:BA) (k:(Int×Bool×Unit)→Option R):Option R:=
 if (s.toList==(⟨#[]⟩:BA).toList)=false then
 if (decide ((s.size:Int)>(16:Int)))=false then
  if (decide ((s.size:Int)>(1:Int)))=true then
  if 0≤(0:Int)∧(0:Int)<(s.size:Int) then
   if ((bt s (0:Int))==(48:Int))=true then
   k ((0:Int),(false,()))
   else
   (Lc n n s (0:Int) (0:Int)).bind fun x_1=>onL x_1
    (fun a_2=>
    k (a_2,(true,())))
    (fun a_3=>
    k (a_3.1,(a_3.2,())))
    (fun _=>none)
  else
   none
  else
  (Lc n n s (0:Int) (0:Int)).bind fun x_4=>onL x_4
   (fun a_5=>
   k (a_5,(true,())))
   (fun a_6=>
   k (a_6.1,(a_6.2,())))
   (fun _=>none)
 else
  k ((0:Int),(false,()))
 else
 k ((0:Int),(false,()))
def RC (n:Nat) (s:BA):Option (Int×Bool×Unit):=SC n s some
theorem KY (n:Nat) {S:Type}:∀ s (φ:_→Option S),(RC n s).bind φ=SC n s φ:=by
 intros;unfold RC SC;first | (simp only [fa,ba,iB,bB,oL,oX,nB,Option.bind_some]) | rfl
def Nq (n:Nat):Hint Out:={ live:=fun c=>(cond (Nat.beq c 0) (lv [0,4,5]) []),run:=fun c=>(cond (Nat.beq c 0) (some (aq Ev Dv fun σ ρ K=>(Lc n n σ.1 σ.2.1 σ.2.2.1).bind (Qg K))) none),xm:=fun c q=>(cond (Nat.beq c 0&&Nat.beq (q.getD 1000000) 0&&q.isSome) (some [(4,none)]) (cond (Nat.beq c 1&&q.isNone) (some [(2,none),(3,none)]) none)) }
def Mq (n:Nat) (K:XE→List AV→ia→Option Out) (m:Nat) (s1:BA) (n0:Int) (i:Int):Option Out:=Pe tys (da Out (Vs n)) (Nq n) n (Da [1,1,1,0,1,0,0] (aa Tryz.f84)) 0 Ev Dv K m (s1,(n0,(i,()))) ()
theorem SH (n:Nat) (K:XE→List AV→ia→Option Out):∀ (m:Nat) s1 n0 i,Mq n K m s1 n0 i=(Lc n m s1 n0 i).bind (Qg K)
 | 0,_,_,_=>by kernel_rfl
 | m+1,s1,n0,i=>by
  have h1:Mq n K (m+1) s1 n0 i=ei n s1 n0 i (Mq n K m) (fun a=>Qg K (.out a)) (fun a=>Qg K (.ret a)) (fun p=>Qg K (.pan p)):=by kernel_rfl
  have h2:Mq n K m=fun s1 n0 i=>(Lc n m s1 n0 i).bind (Qg K):=by
   repeat (refine funext fun _=>?_)
   exact SH n K m _ _ _
  rw [h1,h2];exact (KR n m _ _ _ (Qg K)).symm
theorem sP (n:Nat):ie tys (da Out (Vs n)) (Nq n) n (Da [1,1,1,0,1,0,0] (aa Tryz.f84)) 0:=Oa (sp:=Ev) (rp:=Dv) (by kernel_rfl) fun K σ ρ=>SH n K n σ.1 σ.2.1 σ.2.2.1
theorem MR (n:Nat):ta tys (da Out (Vs n)) (Nq n) n (aa Tryz.f84) 0:=⟨trivial,⟨⟨trivial,⟨⟨trivial,trivial⟩,trivial⟩⟩,⟨trivial,⟨⟨trivial,⟨sP n,⟨⟨trivial,⟨trivial,trivial⟩⟩,⟨⟨⟨trivial,⟨⟨trivial,trivial⟩,trivial⟩⟩,trivial⟩,trivial⟩⟩⟩⟩,⟨trivial,trivial⟩⟩⟩⟩⟩
theorem eU (n:Nat):Enters Tryz.prog 84:=enters_of (c:=aa Tryz.f84) Tryz.func84 (by kernel_rfl) (by kernel_rfl)
def HN (n:Nat):Entry:=⟨84,pcT (.pair .str .unit) (.many (.pair (.int .i64) (.pair .bool .unit))) (fun xs=>RC n xs.1),none,none⟩
theorem eW (n:Nat):EntryOk Tryz.prog gl (HN n):=
 Qa (eU n) fun xs y h=>ra tys_ok (PE n) mixed (hint:=Nq n) (n:=n) Tryz.func84 (Pa (MR n)) (la (φ:=(fun y=>some (Out.ret (Vf (.many (.pair (.int .i64) (.pair .bool .unit))) y)))) (by kernel_rfl) (KY n xs.1 _) h)
def Qs (n:Nat):List Entry:=HN n::Vs n
theorem LE (n:Nat):AllOk Tryz.prog gl (Qs n):=.cons (eW n) (PE n)
def Ai (n:Nat) {R:Type} (l:(Sq BA)) (i:Int) (kn:(Sq BA)→Int→Option R) (ko:((Sq BA))→Option R) (kr:(Bool)→Option R) (kp:Int→Option R):Option R:=
 if (decide (i<(l.n:Int)))=true then
 if 0≤i∧i<(l.n:Int) then
  (RC n (l.at' (Int.toNat i))).bind fun v1=>
  if (!v1.2.1)=false then
  if (decide (v1.1>(255:Int)))=true then
   kr false
  else
   kn l (IntKind.wrap .i64 (i+(1:Int)))
  else
  kr false
 else
  none
 else
 ko l
def Mc (n:Nat):Nat→(Sq BA)→Int→Option (Lx ((Sq BA)) (Bool))
 | 0,_,_=>none
 | m+1,l,i=>Ai n l i (Mc n m) (fun a=>some (.out a)) (fun a=>some (.ret a)) (fun p=>some (.pan p))
theorem QN (n m:Nat) {S:Type}:∀ l i (φ:_→Option S),(Mc n (m+1) l i).bind φ=Ai n l i (fun l i=>(Mc n m l i).bind φ) (fun a=>φ (.out a)) (fun a=>φ (.ret a)) (fun p=>φ (.pan p)):=by
 intros;first | (simp only [Mc,Ai,fa,ba,iB,bB,oL,oX,nB,Option.bind_some]) | rfl
def ip:List Sl:=.top::.top::.top::.dat (.sl .str)::.dat (.int .i64)::tp 47 []
def fp:List RS:=[]
def eE:List Sl:=.top::.top::.top::.dat (.sl .str)::tp 48 []
def dE:List RS:=[]
def gE:List Sl:=.top::.top::.dat .bool::tp 49 []
def fE:List RS:=[]
def ze (K:XE→List AV→ia→Option Out):Lx ((Sq BA)) (Bool)→Option Out:=fun x=>onL x (fun a=>ak eE dE (a,()) () (K (.exit 0))) (fun a=>ak gE fE (a,()) () (K .ret)) (fun _=>none)
def ou (n:Nat) {R:Type} (s:BA) (k:Bool→Option R):Option R:=
 if (decide ((s.size:Int)<(2:Int)))=false then
 if 0≤(0:Int)∧(0:Int)<(s.size:Int) then
  if ((bt s (0:Int)) !=(91:Int))=false then
  if 0≤(IntKind.wrap .i64 ((s.size:Int) - (1:Int)))∧(IntKind.wrap .i64 ((s.size:Int) - (1:Int)))<(s.size:Int) then
   if ((bt s (IntKind.wrap .i64 ((s.size:Int) - (1:Int)))) !=(93:Int))=true then
   k false
   else
   if 0≤(IntKind.wrap .i64 ((s.size:Int) - (1:Int)))∧(IntKind.wrap .i64 ((s.size:Int) - (1:Int)))≤(s.size:Int) then
    if 0≤(1:Int)∧(1:Int)≤(IntKind.wrap .i64 ((s.size:Int) - (1:Int))) then
    (lu n (s.extract (Int.toNat (1:Int)) (Int.toNat (IntKind.wrap .i64 ((s.size:Int) - (1:Int))))) (46:Int)).bind fun v=>
    (Mc n n v (0:Int)).bind fun x_1=>onL x_1
     (fun a_2=>
     k ((a_2.n:Int)==(4:Int)))
     (fun a_3=>
     k a_3)
     (fun _=>none)
    else
    none
   else
    none
  else
   none
  else
  k false
 else
  none
 else
 k false
def jr (n:Nat) (s:BA):Option Bool:=ou n s some
theorem nU (n:Nat) {S:Type}:∀ s (φ:_→Option S),(jr n s).bind φ=ou n s φ:=by
 intros;unfold jr ou;first | (simp only [fa,ba,iB,bB,oL,oX,nB,Option.bind_some]) | rfl
def fm (n:Nat):Hint Out:={ live:=fun c=>(cond (Nat.beq c 0) [(3,some (.sl .str)),(4,none)] []),run:=fun c=>(cond (Nat.beq c 0) (some (aq ip fp fun σ ρ K=>(Mc n n σ.1 σ.2.1).bind (ze K))) none),xm:=fun c q=>(cond (Nat.beq c 0&&Nat.beq (q.getD 1000000) 0&&q.isSome) (some [(3,some (.sl .str))]) (cond (Nat.beq c 1&&q.isNone) (some [(2,none)]) none)) }
def em (n:Nat) (K:XE→List AV→ia→Option Out) (m:Nat) (l:(Sq BA)) (i:Int):Option Out:=Pe tys (da Out (Qs n)) (fm n) n (Da [1,1,1,0,1,0,0] (aa Tryz.f47)) 0 ip fp K m (l,(i,())) ()
theorem JB (n:Nat) (K:XE→List AV→ia→Option Out):∀ (m:Nat) l i,em n K m l i=(Mc n m l i).bind (ze K)
 | 0,_,_=>by kernel_rfl
 | m+1,l,i=>by
  have h1:em n K (m+1) l i=Ai n l i (em n K m) (fun a=>ze K (.out a)) (fun a=>ze K (.ret a)) (fun p=>ze K (.pan p)):=by kernel_rfl
  have h2:em n K m=fun l i=>(Mc n m l i).bind (ze K):=by
   repeat (refine funext fun _=>?_)
   exact JB n K m _ _
  rw [h1,h2];exact (QN n m _ _ (ze K)).symm
theorem FL (n:Nat):ie tys (da Out (Qs n)) (fm n) n (Da [1,1,1,0,1,0,0] (aa Tryz.f47)) 0:=Oa (sp:=ip) (rp:=fp) (by kernel_rfl) fun K σ ρ=>JB n K n σ.1 σ.2.1
theorem RN (n:Nat):ta tys (da Out (Qs n)) (fm n) n (aa Tryz.f47) 0:=⟨trivial,⟨⟨trivial,⟨⟨trivial,trivial⟩,trivial⟩⟩,⟨trivial,⟨⟨trivial,⟨FL n,⟨⟨trivial,⟨trivial,trivial⟩⟩,⟨⟨trivial,⟨trivial,⟨⟨trivial,trivial⟩,trivial⟩⟩⟩,trivial⟩⟩⟩⟩,⟨trivial,trivial⟩⟩⟩⟩⟩
theorem xP (n:Nat):Enters Tryz.prog 47:=enters_of (c:=aa Tryz.f47) Tryz.func47 (by kernel_rfl) (by kernel_rfl)
def gI (n:Nat):Entry:=⟨47,pcT (.pair .str .unit) (.one .bool) (fun xs=>jr n xs.1),none,none⟩
theorem TR (n:Nat):EntryOk Tryz.prog gl (gI n):=
 Qa (xP n) fun xs y h=>ra tys_ok (LE n) mixed (hint:=fm n) (n:=n) Tryz.func47 (Pa (RN n)) (la (φ:=(fun y=>some (Out.ret (Vf (.one .bool) y)))) (by kernel_rfl) (nU n xs.1 _) h)
def Sg (n:Nat):List Entry:=gI n::Qs n
theorem Jy (n:Nat):AllOk Tryz.prog gl (Sg n):=.cons (TR n) (LE n)
def Vk (n:Nat) {R:Type} (l1:(Sq BA)) (i1:Int) (w:BA) (k0:Int) (kn:(Sq BA)→Int→BA→Int→Option R) (ko:((Sq BA)×Int)→Option R) (kr:(Bool)→Option R) (kp:Int→Option R):Option R:=
 if (decide (k0<(w.size:Int)))=true then
 if 0≤k0∧k0<(w.size:Int) then
  if (decide ((bt w k0)≥(97:Int)))=true then
  if 0≤k0∧k0<(w.size:Int) then
   if (!(decide ((bt w k0)≤(122:Int))))=true then
   if 0≤k0∧k0<(w.size:Int) then
    (qu n (bt w k0)).bind fun v2=>
    if (!v2)=true then
    if 0≤k0∧k0<(w.size:Int) then
     if ((bt w k0) !=(45:Int))=true then
     kr false
     else
     kn l1 i1 w (IntKind.wrap .i64 (k0+(1:Int)))
    else
     none
    else
    kn l1 i1 w (IntKind.wrap .i64 (k0+(1:Int)))
   else
    none
   else
   kn l1 i1 w (IntKind.wrap .i64 (k0+(1:Int)))
  else
   none
  else
  if 0≤k0∧k0<(w.size:Int) then
   (qu n (bt w k0)).bind fun v3=>
   if (!v3)=true then
   if 0≤k0∧k0<(w.size:Int) then
    if ((bt w k0) !=(45:Int))=true then
    kr false
    else
    kn l1 i1 w (IntKind.wrap .i64 (k0+(1:Int)))
   else
    none
   else
   kn l1 i1 w (IntKind.wrap .i64 (k0+(1:Int)))
  else
   none
 else
  none
 else
 ko (l1,i1)
def Gd (n:Nat):Nat→(Sq BA)→Int→BA→Int→Option (Lx ((Sq BA)×Int) (Bool))
 | 0,_,_,_,_=>none
 | m+1,l1,i1,w,k0=>Vk n l1 i1 w k0 (Gd n m) (fun a=>some (.out a)) (fun a=>some (.ret a)) (fun p=>some (.pan p))
theorem vP (n m:Nat) {S:Type}:∀ l1 i1 w k0 (φ:_→Option S),(Gd n (m+1) l1 i1 w k0).bind φ=Vk n l1 i1 w k0 (fun l1 i1 w k0=>(Gd n m l1 i1 w k0).bind φ) (fun a=>φ (.out a)) (fun a=>φ (.ret a)) (fun p=>φ (.pan p)):=by
 intros;first | (simp only [Gd,Vk,fa,ba,iB,bB,oL,oX,nB,Option.bind_some]) | rfl
def Us:List Sl:=.top::.top::.top::.dat (.sl .str)::.dat (.int .i64)::.dat .str::.dat (.int .i64)::tp 68 []
def Ts:List RS:=[]
def fG:List Sl:=.top::.top::.top::.dat (.sl .str)::.dat (.int .i64)::tp 70 []
def eG:List RS:=[]
def iG:List Sl:=.top::.top::.dat .bool::tp 72 []
def gG:List RS:=[]
def Tf (K:XE→List AV→ia→Option Out):Lx ((Sq BA)×Int) (Bool)→Option Out:=fun x=>onL x (fun a=>ak fG eG (a.1,(a.2,())) () (K (.exit 2))) (fun a=>ak iG gG (a,()) () (K .ret)) (fun _=>none)
def Uk (n:Nat) {R:Type} (l:(Sq BA)) (i:Int) (kn:(Sq BA)→Int→Option R) (ko:(Unit)→Option R) (kr:(Bool)→Option R) (kp:Int→Option R):Option R:=
 if (decide (i<(l.n:Int)))=true then
 if 0≤i∧i<(l.n:Int) then
  if (decide (((l.at' (Int.toNat i)).size:Int)<(1:Int)))=false then
  if (decide (((l.at' (Int.toNat i)).size:Int)>(63:Int)))=false then
   if 0≤(0:Int)∧(0:Int)<((l.at' (Int.toNat i)).size:Int) then
   if ((bt (l.at' (Int.toNat i)) (0:Int))==(45:Int))=false then
    if 0≤(IntKind.wrap .i64 (((l.at' (Int.toNat i)).size:Int) - (1:Int)))∧(IntKind.wrap .i64 (((l.at' (Int.toNat i)).size:Int) - (1:Int)))<((l.at' (Int.toNat i)).size:Int) then
    if ((bt (l.at' (Int.toNat i)) (IntKind.wrap .i64 (((l.at' (Int.toNat i)).size:Int) - (1:Int))))==(45:Int))=true then
     kr false
    else
     (Gd n n l i (l.at' (Int.toNat i)) (0:Int)).bind fun x_1=>onL x_1
     (fun a_2=>
      kn a_2.1 (IntKind.wrap .i64 (a_2.2+(1:Int))))
     (fun a_3=>
      kr a_3)
     (fun _=>none)
    else
    none
   else
    kr false
   else
   none
  else
   kr false
  else
  kr false
 else
  none
 else
 ko ()
def Fd (n:Nat):Nat→(Sq BA)→Int→Option (Lx (Unit) (Bool))
 | 0,_,_=>none
 | m+1,l,i=>Uk n l i (Fd n m) (fun a=>some (.out a)) (fun a=>some (.ret a)) (fun p=>some (.pan p))
theorem uP (n m:Nat) {S:Type}:∀ l i (φ:_→Option S),(Fd n (m+1) l i).bind φ=Uk n l i (fun l i=>(Fd n m l i).bind φ) (fun a=>φ (.out a)) (fun a=>φ (.ret a)) (fun p=>φ (.pan p)):=by
 intros;first | (simp only [Fd,Uk,fa,ba,iB,bB,oL,oX,nB,Option.bind_some]) | rfl
def Ss:List Sl:=.top::.top::.top::.dat (.sl .str)::.dat (.int .i64)::tp 70 []
def Rs:List RS:=[]
def bG:List Sl:=tp 75 []
def aG:List RS:=[]
def dG:List Sl:=.top::.top::.dat .bool::tp 72 []
def cG:List RS:=[]
def Sf (K:XE→List AV→ia→Option Out):Lx (Unit) (Bool)→Option Out:=fun x=>onL x (fun a=>ak bG aG () () (K (.exit 0))) (fun a=>ak dG cG (a,()) () (K .ret)) (fun _=>none)
def Yx (n:Nat) {R:Type} (s:BA) (k:Bool→Option R):Option R:=
 if (decide ((s.size:Int)>(255:Int)))=true then
 k false
 else
 (jr n s).bind fun v=>
 if v=true then
  k true
 else
  (lu n s (46:Int)).bind fun v1=>
  (Fd n n v1 (0:Int)).bind fun x_1=>onL x_1
  (fun a_2=>
   k true)
  (fun a_3=>
   k a_3)
  (fun _=>none)
def Nw (n:Nat) (s:BA):Option Bool:=Yx n s some
theorem lW (n:Nat) {S:Type}:∀ s (φ:_→Option S),(Nw n s).bind φ=Yx n s φ:=by
 intros;unfold Nw Yx;first | (simp only [fa,ba,iB,bB,oL,oX,nB,Option.bind_some]) | rfl
def th (n:Nat):Hint Out:={ live:=fun c=>(cond (Nat.beq c 0) [(3,some (.sl .str)),(4,none)] (cond (Nat.beq c 2) [(3,some (.sl .str)),(4,none),(5,none),(6,none)] [])),run:=fun c=>(cond (Nat.beq c 0) (some (aq Ss Rs fun σ ρ K=>(Fd n n σ.1 σ.2.1).bind (Sf K))) (cond (Nat.beq c 2) (some (aq Us Ts fun σ ρ K=>(Gd n n σ.1 σ.2.1 σ.2.2.1 σ.2.2.2.1).bind (Tf K))) none)),xm:=fun c q=>(cond (Nat.beq c 0&&Nat.beq (q.getD 1000000) 0&&q.isSome) (some []) (cond (Nat.beq c 2&&Nat.beq (q.getD 1000000) 2&&q.isSome) (some [(3,some (.sl .str)),(4,none)]) (cond (Nat.beq c 3&&q.isNone) (some [(2,none)]) (cond (Nat.beq c 1&&q.isNone) (some [(2,none)]) none)))) }
def Nn (n:Nat) (K:XE→List AV→ia→Option Out) (m:Nat) (l1:(Sq BA)) (i1:Int) (w:BA) (k0:Int):Option Out:=Pe tys (da Out (Sg n)) (th n) n (Da [1,1,1,1,0,1,0,0,1,0,0,1,1,1,0,0] (aa Tryz.f31)) 2 Us Ts K m (l1,(i1,(w,(k0,())))) ()
theorem OE (n:Nat) (K:XE→List AV→ia→Option Out):∀ (m:Nat) l1 i1 w k0,Nn n K m l1 i1 w k0=(Gd n m l1 i1 w k0).bind (Tf K)
 | 0,_,_,_,_=>by kernel_rfl
 | m+1,l1,i1,w,k0=>by
  have h1:Nn n K (m+1) l1 i1 w k0=Vk n l1 i1 w k0 (Nn n K m) (fun a=>Tf K (.out a)) (fun a=>Tf K (.ret a)) (fun p=>Tf K (.pan p)):=by kernel_rfl
  have h2:Nn n K m=fun l1 i1 w k0=>(Gd n m l1 i1 w k0).bind (Tf K):=by
   repeat (refine funext fun _=>?_)
   exact OE n K m _ _ _ _
  rw [h1,h2];exact (vP n m _ _ _ _ (Tf K)).symm
theorem PN (n:Nat):ie tys (da Out (Sg n)) (th n) n (Da [1,1,1,1,0,1,0,0,1,0,0,1,1,1,0,0] (aa Tryz.f31)) 2:=Oa (sp:=Us) (rp:=Ts) (by kernel_rfl) fun K σ ρ=>OE n K n σ.1 σ.2.1 σ.2.2.1 σ.2.2.2.1
def Mn (n:Nat) (K:XE→List AV→ia→Option Out) (m:Nat) (l:(Sq BA)) (i:Int):Option Out:=Pe tys (da Out (Sg n)) (th n) n (Da [1,1,1,1,0,1,0,0] (aa Tryz.f31)) 0 Ss Rs K m (l,(i,())) ()
theorem NE (n:Nat) (K:XE→List AV→ia→Option Out):∀ (m:Nat) l i,Mn n K m l i=(Fd n m l i).bind (Sf K)
 | 0,_,_=>by kernel_rfl
 | m+1,l,i=>by
  have h1:Mn n K (m+1) l i=Uk n l i (Mn n K m) (fun a=>Sf K (.out a)) (fun a=>Sf K (.ret a)) (fun p=>Sf K (.pan p)):=by kernel_rfl
  have h2:Mn n K m=fun l i=>(Fd n m l i).bind (Sf K):=by
   repeat (refine funext fun _=>?_)
   exact NE n K m _ _
  rw [h1,h2];exact (uP n m _ _ (Sf K)).symm
theorem ON (n:Nat):ie tys (da Out (Sg n)) (th n) n (Da [1,1,1,1,0,1,0,0] (aa Tryz.f31)) 0:=Oa (sp:=Ss) (rp:=Rs) (by kernel_rfl) fun K σ ρ=>NE n K n σ.1 σ.2.1
theorem wP (n:Nat):ta tys (da Out (Sg n)) (th n) n (aa Tryz.f31) 0:=⟨trivial,⟨⟨trivial,⟨⟨trivial,trivial⟩,trivial⟩⟩,⟨⟨trivial,⟨⟨trivial,trivial⟩,trivial⟩⟩,⟨trivial,⟨⟨trivial,⟨ON n,⟨⟨trivial,⟨trivial,trivial⟩⟩,⟨⟨trivial,⟨⟨trivial,⟨⟨trivial,trivial⟩,trivial⟩⟩,⟨trivial,⟨PN n,⟨⟨trivial,⟨trivial,trivial⟩⟩,⟨⟨trivial,⟨⟨trivial,trivial⟩,trivial⟩⟩,trivial⟩⟩⟩⟩⟩⟩,trivial⟩⟩⟩⟩,⟨trivial,trivial⟩⟩⟩⟩⟩⟩
theorem SR (n:Nat):Enters Tryz.prog 31:=enters_of (c:=aa Tryz.f31) Tryz.func31 (by kernel_rfl) (by kernel_rfl)
def WK (n:Nat):Entry:=⟨31,pcT (.pair .str .unit) (.one .bool) (fun xs=>Nw n xs.1),none,none⟩
theorem mU (n:Nat):EntryOk Tryz.prog gl (WK n):=
 Qa (SR n) fun xs y h=>ra tys_ok (Jy n) mixed (hint:=th n) (n:=n) Tryz.func31 (Pa (wP n)) (la (φ:=(fun y=>some (Out.ret (Vf (.one .bool) y)))) (by kernel_rfl) (lW n xs.1 _) h)
def HB (n:Nat):List Entry:=WK n::Sg n
theorem IB (n:Nat):AllOk Tryz.prog gl (HB n):=.cons (mU n) (Jy n)
def mM (n:Nat) {R:Type} (m0:U1) (k:Bool→Option R):Option R:=
 (UC n m0.1).bind fun v=>
 if v=true then
 (Nw n m0.2.1).bind fun v1=>
 k v1
 else
 k false
def QE (n:Nat) (m0:U1):Option Bool:=mM n m0 some
theorem C5 (n:Nat) {S:Type}:∀ m0 (φ:_→Option S),(QE n m0).bind φ=mM n m0 φ:=by
 intros;unfold QE mM;first | (simp only [fa,ba,iB,bB,oL,oX,nB,Option.bind_some]) | rfl
def TN (n:Nat):Hint Out:={ live:=fun c=>[],run:=fun c=>none,xm:=fun c q=>none }
theorem nW (n:Nat):ta tys (da Out (HB n)) (TN n) n (aa Tryz.f126) 0:=ma (fun _=>rfl) _ _ (by kernel_rfl)
theorem SY (n:Nat):Enters Tryz.prog 126:=enters_of (c:=aa Tryz.f126) Tryz.func126 (by kernel_rfl) (by kernel_rfl)
def pU (n:Nat):Entry:=⟨126,pcT (.pair (.pair .str (.pair .str .unit)) .unit) (.one .bool) (fun xs=>QE n xs.1),none,none⟩
theorem I2 (n:Nat):EntryOk Tryz.prog gl (pU n):=
 Qa (SY n) fun xs y h=>ra tys_ok (IB n) mixed (hint:=TN n) (n:=n) Tryz.func126 (Pa (nW n)) (la (φ:=(fun y=>some (Out.ret (Vf (.one .bool) y)))) (by kernel_rfl) (C5 n xs.1 _) h)
def KB (n:Nat):List Entry:=pU n::HB n
theorem XK (n:Nat):AllOk Tryz.prog gl (KB n):=.cons (I2 n) (IB n)
def Bk (n:Nat) {R:Type} (s1:BA) (n0:Int) (t2 t21 m0 m01:BA) (kn:BA→Int→BA→BA→BA→BA→Option R) (ko:(BA×Int×BA×BA×BA×BA)→Option R) (kr:Unit→Option R) (kp:Int→Option R):Option R:=
 if (decide (n0<(s1.size:Int)))=true then
 if 0≤n0∧n0<(s1.size:Int) then
  if ((bt s1 n0) !=(64:Int))=true then
  kn s1 (IntKind.wrap .i64 (n0+(1:Int))) t2 t21 m0 m01
  else
  ko (s1,n0,t2,t21,m0,m01)
 else
  none
 else
 ko (s1,n0,t2,t21,m0,m01)
def nd (n:Nat):Nat→BA→Int→BA→BA→BA→BA→Option (Lx (BA×Int×BA×BA×BA×BA) Unit)
 | 0,_,_,_,_,_,_=>none
 | m+1,s1,n0,t2,t21,m0,m01=>Bk n s1 n0 t2 t21 m0 m01 (nd n m) (fun a=>some (.out a)) (fun a=>some (.ret a)) (fun p=>some (.pan p))
theorem WR (n m:Nat) {S:Type}:∀ s1 n0 t2 t21 m0 m01 (φ:_→Option S),(nd n (m+1) s1 n0 t2 t21 m0 m01).bind φ=Bk n s1 n0 t2 t21 m0 m01 (fun s1 n0 t2 t21 m0 m01=>(nd n m s1 n0 t2 t21 m0 m01).bind φ) (fun a=>φ (.out a)) (fun a=>φ (.ret a)) (fun p=>φ (.pan p)):=by
 intros;first | (simp only [nd,Bk,fa,ba,iB,bB,oL,oX,nB,Option.bind_some]) | rfl
def Iv:List Sl:=.dat .str::.top::.ptr 0 0 0::.top::.ptr 1 0 0::tp 4 (.dat (.int .i64)::tp 64 [])
def Hv:List RS:=[.box 47 2 true [.dat .str,.dat .str],.box 47 2 true [.dat .str,.dat .str]]
def lI:List Sl:=.dat .str::.top::.ptr 0 0 0::.top::.ptr 1 0 0::tp 4 (.dat (.int .i64)::tp 64 [])
def kI:List RS:=[.box 47 2 true [.dat .str,.dat .str],.box 47 2 true [.dat .str,.dat .str]]
def Tg (K:XE→List AV→ia→Option Out):Lx (BA×Int×BA×BA×BA×BA) Unit→Option Out:=fun x=>onL x (fun a=>ak lI kI (a.1,(a.2.1,())) ((a.2.2.1,(a.2.2.2.1,())),((a.2.2.2.2.1,(a.2.2.2.2.2,())),())) (K (.exit 0))) (fun _=>none) (fun _=>none)
def an (n:Nat) {R:Type} (s:BA) (k:(U1×Bool×Unit)→Option R):Option R:=
 if (decide ((s.size:Int)>(0:Int)))=true then
 if 0≤(0:Int)∧(0:Int)<(s.size:Int) then
  if ((bt s (0:Int))==(34:Int))=true then
  (ru n s).bind fun v=>
  if (!v.2.2.1)=true then
   k (((⟨#[]⟩:BA),((⟨#[]⟩:BA),())),(false,()))
  else
   if 0≤v.2.1∧v.2.1≤(s.size:Int) then
   (cy n v.1).bind fun v1=>
   (su n v.1).bind fun v2=>
   if v2=true then
    if ((s.extract (Int.toNat v.2.1) (Int.toNat (s.size:Int))).toList==(⟨#[]⟩:BA).toList)=false then
    if 0≤(0:Int)∧(0:Int)<((s.extract (Int.toNat v.2.1) (Int.toNat (s.size:Int))).size:Int) then
     if ((bt (s.extract (Int.toNat v.2.1) (Int.toNat (s.size:Int))) (0:Int)) !=(64:Int))=true then
     k (((⟨#[]⟩:BA),((⟨#[]⟩:BA),())),(false,()))
     else
     if 0≤(1:Int)∧(1:Int)≤((s.extract (Int.toNat v.2.1) (Int.toNat (s.size:Int))).size:Int) then
      (dm n ((s.extract (Int.toNat v.2.1) (Int.toNat (s.size:Int))).extract (Int.toNat (1:Int)) (Int.toNat (((s.extract (Int.toNat v.2.1) (Int.toNat (s.size:Int))).size):Int)))).bind fun v3=>
      (QE n (v.1,(v3,()))).bind fun v4=>
      if (!v4)=true then
      k (((⟨#[]⟩:BA),((⟨#[]⟩:BA),())),(false,()))
      else
      k ((v.1,(v3,())),(true,()))
     else
      none
    else
     none
    else
    k (((⟨#[]⟩:BA),((⟨#[]⟩:BA),())),(false,()))
   else
    if ((s.extract (Int.toNat v.2.1) (Int.toNat (s.size:Int))).toList==(⟨#[]⟩:BA).toList)=false then
    if 0≤(0:Int)∧(0:Int)<((s.extract (Int.toNat v.2.1) (Int.toNat (s.size:Int))).size:Int) then
     if ((bt (s.extract (Int.toNat v.2.1) (Int.toNat (s.size:Int))) (0:Int)) !=(64:Int))=true then
     k (((⟨#[]⟩:BA),((⟨#[]⟩:BA),())),(false,()))
     else
     if 0≤(1:Int)∧(1:Int)≤((s.extract (Int.toNat v.2.1) (Int.toNat (s.size:Int))).size:Int) then
      (dm n ((s.extract (Int.toNat v.2.1) (Int.toNat (s.size:Int))).extract (Int.toNat (1:Int)) (Int.toNat (((s.extract (Int.toNat v.2.1) (Int.toNat (s.size:Int))).size):Int)))).bind fun v5=>
      (QE n (v1,(v5,()))).bind fun v6=>
      if (!v6)=true then
      k (((⟨#[]⟩:BA),((⟨#[]⟩:BA),())),(false,()))
      else
      k ((v1,(v5,())),(true,()))
     else
      none
    else
     none
    else
    k (((⟨#[]⟩:BA),((⟨#[]⟩:BA),())),(false,()))
   else
   none
  else
  (nd n n s (0:Int) (⟨#[]⟩:BA) (⟨#[]⟩:BA) (⟨#[]⟩:BA) (⟨#[]⟩:BA)).bind fun x_1=>onL x_1
   (fun a_2=>
   if 0≤a_2.2.1∧a_2.2.1≤(a_2.1.size:Int) then
    if 0≤a_2.2.1∧a_2.2.1≤(a_2.1.size:Int) then
    if ((a_2.1.extract (Int.toNat a_2.2.1) (Int.toNat (a_2.1.size:Int))).toList==(⟨#[]⟩:BA).toList)=false then
     if 0≤(0:Int)∧(0:Int)<((a_2.1.extract (Int.toNat a_2.2.1) (Int.toNat (a_2.1.size:Int))).size:Int) then
     if ((bt (a_2.1.extract (Int.toNat a_2.2.1) (Int.toNat (a_2.1.size:Int))) (0:Int)) !=(64:Int))=true then
      k (((⟨#[]⟩:BA),((⟨#[]⟩:BA),())),(false,()))
     else
      if 0≤(1:Int)∧(1:Int)≤((a_2.1.extract (Int.toNat a_2.2.1) (Int.toNat (a_2.1.size:Int))).size:Int) then
      (dm n ((a_2.1.extract (Int.toNat a_2.2.1) (Int.toNat (a_2.1.size:Int))).extract (Int.toNat (1:Int)) (Int.toNat (((a_2.1.extract (Int.toNat a_2.2.1) (Int.toNat (a_2.1.size:Int))).size):Int)))).bind fun v7=>
      (QE n ((a_2.1.extract (Int.toNat (0:Int)) (Int.toNat a_2.2.1)),(v7,()))).bind fun v8=>
      if (!v8)=true then
       k (((⟨#[]⟩:BA),((⟨#[]⟩:BA),())),(false,()))
      else
       k (((a_2.1.extract (Int.toNat (0:Int)) (Int.toNat a_2.2.1)),(v7,())),(true,()))
      else
      none
     else
     none
    else
     k (((⟨#[]⟩:BA),((⟨#[]⟩:BA),())),(false,()))
    else
    none
   else
    none)
   (fun _=>none)
   (fun _=>none)
 else
  none
 else
 (nd n n s (0:Int) (⟨#[]⟩:BA) (⟨#[]⟩:BA) (⟨#[]⟩:BA) (⟨#[]⟩:BA)).bind fun x_3=>onL x_3
  (fun a_4=>
  if 0≤a_4.2.1∧a_4.2.1≤(a_4.1.size:Int) then
   if 0≤a_4.2.1∧a_4.2.1≤(a_4.1.size:Int) then
   if ((a_4.1.extract (Int.toNat a_4.2.1) (Int.toNat (a_4.1.size:Int))).toList==(⟨#[]⟩:BA).toList)=false then
    if 0≤(0:Int)∧(0:Int)<((a_4.1.extract (Int.toNat a_4.2.1) (Int.toNat (a_4.1.size:Int))).size:Int) then
    if ((bt (a_4.1.extract (Int.toNat a_4.2.1) (Int.toNat (a_4.1.size:Int))) (0:Int)) !=(64:Int))=true then
     k (((⟨#[]⟩:BA),((⟨#[]⟩:BA),())),(false,()))
    else
     if 0≤(1:Int)∧(1:Int)≤((a_4.1.extract (Int.toNat a_4.2.1) (Int.toNat (a_4.1.size:Int))).size:Int) then
     (dm n ((a_4.1.extract (Int.toNat a_4.2.1) (Int.toNat (a_4.1.size:Int))).extract (Int.toNat (1:Int)) (Int.toNat (((a_4.1.extract (Int.toNat a_4.2.1) (Int.toNat (a_4.1.size:Int))).size):Int)))).bind fun v9=>
     (QE n ((a_4.1.extract (Int.toNat (0:Int)) (Int.toNat a_4.2.1)),(v9,()))).bind fun v10=>
     if (!v10)=true then
      k (((⟨#[]⟩:BA),((⟨#[]⟩:BA),())),(false,()))
     else
      k (((a_4.1.extract (Int.toNat (0:Int)) (Int.toNat a_4.2.1)),(v9,())),(true,()))
     else
     none
    else
    none
   else
    k (((⟨#[]⟩:BA),((⟨#[]⟩:BA),())),(false,()))
   else
   none
  else
   none)
  (fun _=>none)
  (fun _=>none)
def Oj (n:Nat) (s:BA):Option (U1×Bool×Unit):=an n s some
theorem TY (n:Nat) {S:Type}:∀ s (φ:_→Option S),(Oj n s).bind φ=an n s φ:=by
 intros;unfold Oj an;first | (simp only [fa,ba,iB,bB,oL,oX,nB,Option.bind_some]) | rfl
def Rq (n:Nat):Hint Out:={ live:=fun c=>(cond (Nat.beq c 0) (lv [0,2,4,9]) []),run:=fun c=>(cond (Nat.beq c 0) (some (aq Iv Hv fun σ ρ K=>(nd n n σ.1 σ.2.1 ρ.1.1 ρ.1.2.1 ρ.2.1.1 ρ.2.1.2.1).bind (Tg K))) none),xm:=fun c q=>(cond (Nat.beq c 0&&Nat.beq (q.getD 1000000) 0&&q.isSome) (some (lv [0,2,4,9])) none),sch:=fun c=>(cond (Nat.beq c 13) (some [(0,0),(1,0),(2,0),(3,0),(4,0),(5,0),(6,0),(7,2),(8,0)]) (cond (Nat.beq c 7) (some [(0,0),(2,0),(3,0),(4,0),(1,3),(5,0),(6,2),(7,0)]) none)) }
def Qq (n:Nat) (K:XE→List AV→ia→Option Out) (m:Nat) (s1:BA) (n0:Int) (t2:BA) (t21:BA) (m0:BA) (m01:BA):Option Out:=Pe tys (da Out (KB n)) (Rq n) n (Da [1,1,1,0,1,1,1,0,0,0] (aa Tryz.f101)) 0 Iv Hv K m (s1,(n0,())) ((t2,(t21,())),((m0,(m01,())),()))
theorem jI (n:Nat) (K:XE→List AV→ia→Option Out):∀ (m:Nat) s1 n0 t2 t21 m0 m01,Qq n K m s1 n0 t2 t21 m0 m01=(nd n m s1 n0 t2 t21 m0 m01).bind (Tg K)
 | 0,_,_,_,_,_,_=>by kernel_rfl
 | m+1,s1,n0,t2,t21,m0,m01=>by
  have h1:Qq n K (m+1) s1 n0 t2 t21 m0 m01=Bk n s1 n0 t2 t21 m0 m01 (Qq n K m) (fun a=>Tg K (.out a)) (fun a=>Tg K (.ret a)) (fun p=>Tg K (.pan p)):=by kernel_rfl
  have h2:Qq n K m=fun s1 n0 t2 t21 m0 m01=>(nd n m s1 n0 t2 t21 m0 m01).bind (Tg K):=by
   repeat (refine funext fun _=>?_)
   exact jI n K m _ _ _ _ _ _
  rw [h1,h2];exact (WR n m _ _ _ _ _ _ (Tg K)).symm
theorem yP (n:Nat):ie tys (da Out (KB n)) (Rq n) n (Da [1,1,1,0,1,1,1,0,0,0] (aa Tryz.f101)) 0:=Oa (sp:=Iv) (rp:=Hv) (by kernel_rfl) fun K σ ρ=>jI n K n σ.1 σ.2.1 ρ.1.1 ρ.1.2.1 ρ.2.1.1 ρ.2.1.2.1
theorem XR (n:Nat):ta tys (da Out (KB n)) (Rq n) n (aa Tryz.f101) 0:=⟨trivial,⟨trivial,⟨trivial,⟨⟨trivial,⟨⟨trivial,⟨⟨trivial,⟨⟨trivial,trivial⟩,trivial⟩⟩,⟨trivial,⟨trivial,⟨trivial,trivial⟩⟩⟩⟩⟩,⟨trivial,⟨⟨yP n,⟨⟨trivial,⟨trivial,trivial⟩⟩,trivial⟩⟩,trivial⟩⟩⟩⟩,⟨⟨trivial,⟨⟨trivial,trivial⟩,trivial⟩⟩,⟨trivial,⟨⟨trivial,⟨⟨trivial,trivial⟩,trivial⟩⟩,⟨trivial,trivial⟩⟩⟩⟩⟩⟩⟩⟩
theorem qU (n:Nat):Enters Tryz.prog 101:=enters_of (c:=aa Tryz.f101) Tryz.func101 (by kernel_rfl) (by kernel_rfl)
def UN (n:Nat):Entry:=⟨101,pcT (.pair .str .unit) (.many (.pair (.pair .str (.pair .str .unit)) (.pair .bool .unit))) (fun xs=>Oj n xs.1),none,none⟩
theorem oW (n:Nat):EntryOk Tryz.prog gl (UN n):=
 Qa (qU n) fun xs y h=>ra tys_ok (XK n) mixed (hint:=Rq n) (n:=n) Tryz.func101 (Pa (XR n)) (la (φ:=(fun y=>some (Out.ret (Vf (.many (.pair (.pair .str (.pair .str .unit)) (.pair .bool .unit))) y)))) (by kernel_rfl) (TY n xs.1 _) h)
def jG (n:Nat):List Entry:=UN n::KB n
theorem RE (n:Nat):AllOk Tryz.prog gl (jG n):=.cons (oW n) (XK n)
def mI (n:Nat) {R:Type} (s:BA) (k:(U1×Bool×Bool×Unit)→Option R):Option R:=
 if (s.toList==(⟨#[60,62]⟩:BA).toList)=true then
 k (((⟨#[]⟩:BA),((⟨#[]⟩:BA),())),(true,(true,())))
 else
 if (decide ((s.size:Int)<(2:Int)))=false then
  if 0≤(0:Int)∧(0:Int)<(s.size:Int) then
  if ((bt s (0:Int)) !=(60:Int))=false then
   if 0≤(IntKind.wrap .i64 ((s.size:Int) - (1:Int)))∧(IntKind.wrap .i64 ((s.size:Int) - (1:Int)))<(s.size:Int) then
   if ((bt s (IntKind.wrap .i64 ((s.size:Int) - (1:Int)))) !=(62:Int))=true then
    k (((⟨#[]⟩:BA),((⟨#[]⟩:BA),())),(false,(false,())))
   else
    if 0≤(IntKind.wrap .i64 ((s.size:Int) - (1:Int)))∧(IntKind.wrap .i64 ((s.size:Int) - (1:Int)))≤(s.size:Int) then
    if 0≤(1:Int)∧(1:Int)≤(IntKind.wrap .i64 ((s.size:Int) - (1:Int))) then
     (Oj n (s.extract (Int.toNat (1:Int)) (Int.toNat (IntKind.wrap .i64 ((s.size:Int) - (1:Int)))))).bind fun v=>
     k ((v.1.1,(v.1.2.1,())),(false,(v.2.1,())))
    else
     none
    else
    none
   else
   none
  else
   k (((⟨#[]⟩:BA),((⟨#[]⟩:BA),())),(false,(false,())))
  else
  none
 else
  k (((⟨#[]⟩:BA),((⟨#[]⟩:BA),())),(false,(false,())))
def Jv (n:Nat) (s:BA):Option (U1×Bool×Bool×Unit):=mI n s some
theorem J2 (n:Nat) {S:Type}:∀ s (φ:_→Option S),(Jv n s).bind φ=mI n s φ:=by
 intros;unfold Jv mI;first | (simp only [fa,ba,iB,bB,oL,oX,nB,Option.bind_some]) | rfl
def YK (n:Nat):Hint Out:={ live:=fun c=>[],run:=fun c=>none,xm:=fun c q=>none }
theorem rU (n:Nat):ta tys (da Out (jG n)) (YK n) n (aa Tryz.f71) 0:=ma (fun _=>rfl) _ _ (by kernel_rfl)
theorem pW (n:Nat):Enters Tryz.prog 71:=enters_of (c:=aa Tryz.f71) Tryz.func71 (by kernel_rfl) (by kernel_rfl)
def yQ (n:Nat):Entry:=⟨71,pcT (.pair .str .unit) (.many K6) (fun xs=>Jv n xs.1),none,none⟩
theorem UY (n:Nat):EntryOk Tryz.prog gl (yQ n):=
 Qa (pW n) fun xs y h=>ra tys_ok (RE n) mixed (hint:=YK n) (n:=n) Tryz.func71 (Pa (rU n)) (la (φ:=(fun y=>some (Out.ret (Vf (.many K6) y)))) (by kernel_rfl) (J2 n xs.1 _) h)
def SJ (n:Nat):List Entry:=yQ n::jG n
theorem nI (n:Nat):AllOk Tryz.prog gl (SJ n):=.cons (UY n) (RE n)
def Fa (n:Nat) {R:Type} (l:U2) (b0:Bool) (b01:(Sq Int)) (b02:Int) (b03:BA) (b04:Bool) (b05:BA) (b06:Bool) (b07:BA) (r1:(Sq U1)) (r2:(Sq BA)) (k:U3→Option R):Option R:=
 if l.2.1=true then
 (oa n (500:Int)).bind fun v=>
 k (v,(b0,(b01,(b02,(b03,(b04,(b05,(b06,(b07,(r1,(r2,())))))))))))
 else
 if b06=true then
  (OJ n l.1).bind fun v1=>
  if v1.2.1=true then
  (pb n b0 b01 b02 b03 b04 b05 b06 b07 r1 r2).bind fun v2=>
  k (v2.1,(v2.2.1,(v2.2.2.1,(v2.2.2.2.1,(v2.2.2.2.2.1,(v2.2.2.2.2.2.1,(v2.2.2.2.2.2.2.1,(v2.2.2.2.2.2.2.2.1,(v2.2.2.2.2.2.2.2.2.1,(v2.2.2.2.2.2.2.2.2.2.1,(v2.2.2.2.2.2.2.2.2.2.2.1,())))))))))))
  else
  if Ca b07 v1.1=true then
   if Ca (b07++v1.1) (⟨#[13,10]⟩:BA)=true then
   k ((⟨#[]⟩:BA),(b0,(b01,(b02,(b03,(b04,(b05,(b06,(((b07++v1.1)++(⟨#[13,10]⟩:BA)),(r1,(r2,())))))))))))
   else
   none
  else
   none
 else
  (lb n l.1 (⟨#[69,72,76,79,32]⟩:BA)).bind fun v3=>
  if v3=false then
  (lb n l.1 (⟨#[76,72,76,79,32]⟩:BA)).bind fun v4=>
  if v4=true then
   (oa n (250:Int)).bind fun v5=>
   k (v5,(b0,(b01,(b02,(b03,(b04,(b05,(b06,(b07,(r1,(r2,())))))))))))
  else
   (lb n l.1 (⟨#[77,65,73,76,32,70,82,79,77,58,60]⟩:BA)).bind fun v6=>
   if v6=true then
   if (decide ((l.1.size:Int)≥(12:Int)))=true then
    if 0≤(IntKind.wrap .i64 ((l.1.size:Int) - (1:Int)))∧(IntKind.wrap .i64 ((l.1.size:Int) - (1:Int)))<(l.1.size:Int) then
    if ((bt l.1 (IntKind.wrap .i64 ((l.1.size:Int) - (1:Int))))==(62:Int))=true then
     (Eb n b0 b01 b02 b03 b04 b05 b06 b07 r1 r2).bind fun v7=>
     if 0≤(IntKind.wrap .i64 ((l.1.size:Int) - (1:Int)))∧(IntKind.wrap .i64 ((l.1.size:Int) - (1:Int)))≤(l.1.size:Int) then
     if 0≤(11:Int)∧(11:Int)≤(IntKind.wrap .i64 ((l.1.size:Int) - (1:Int))) then
      (Ia n v7.1 v7.2.1 v7.2.2.1 v7.2.2.2.1 v7.2.2.2.2.1 (l.1.extract (Int.toNat (11:Int)) (Int.toNat (IntKind.wrap .i64 ((l.1.size:Int) - (1:Int))))) v7.2.2.2.2.2.2.1 v7.2.2.2.2.2.2.2.1 v7.2.2.2.2.2.2.2.2.1 v7.2.2.2.2.2.2.2.2.2.1).bind fun v8=>
      (oa n v8.1).bind fun v9=>
      k (v9,(v8.2.1,(v8.2.2.1,(v8.2.2.2.1,(v8.2.2.2.2.1,(v8.2.2.2.2.2.1,(v8.2.2.2.2.2.2.1,(v8.2.2.2.2.2.2.2.1,(v8.2.2.2.2.2.2.2.2.1,(v8.2.2.2.2.2.2.2.2.2.1,(v8.2.2.2.2.2.2.2.2.2.2.1,())))))))))))
     else
      none
     else
     none
    else
     (lb n l.1 (⟨#[82,67,80,84,32,84,79,58]⟩:BA)).bind fun v10=>
     if v10=true then
     if 0≤(8:Int)∧(8:Int)≤(l.1.size:Int) then
      (Jv n (l.1.extract (Int.toNat (8:Int)) (Int.toNat (l.1.size:Int)))).bind fun v11=>
      if (!v11.2.2.1)=false then
      if v11.2.1=true then
       (oa n (500:Int)).bind fun v12=>
       k (v12,(b0,(b01,(b02,(b03,(b04,(b05,(b06,(b07,(r1,(r2,())))))))))))
      else
       (Ia n b0 b01 b02 b03 b04 b05 b06 b07 r1 r2).bind fun v13=>
       if (v13.1==(250:Int))=true then
       dup 1 (
        if Ta (v13.2.2.2.2.2.2.2.2.2.1.n+1) 32=true then
        (oa n v13.1).bind fun v14=>
        k (v14,(v13.2.1,(v13.2.2.1,(v13.2.2.2.1,(v13.2.2.2.2.1,(v13.2.2.2.2.2.1,(v13.2.2.2.2.2.2.1,(v13.2.2.2.2.2.2.2.1,(v13.2.2.2.2.2.2.2.2.1,((⟨(v13.2.2.2.2.2.2.2.2.2.1.n+1),fun q=>if q<v13.2.2.2.2.2.2.2.2.2.1.n then v13.2.2.2.2.2.2.2.2.2.1.at' q else (fun q=>List.getD (α:=U1) [(v11.1.1,(v11.1.2.1,()))] q (Ba (.pair .str (.pair .str .unit)))) (q - v13.2.2.2.2.2.2.2.2.2.1.n)⟩:Sq U1),(v13.2.2.2.2.2.2.2.2.2.2.1,())))))))))))
        else
        none)
       else
       (oa n v13.1).bind fun v16=>
       k (v16,(v13.2.1,(v13.2.2.1,(v13.2.2.2.1,(v13.2.2.2.2.1,(v13.2.2.2.2.2.1,(v13.2.2.2.2.2.2.1,(v13.2.2.2.2.2.2.2.1,(v13.2.2.2.2.2.2.2.2.1,(v13.2.2.2.2.2.2.2.2.2.1,(v13.2.2.2.2.2.2.2.2.2.2.1,())))))))))))
      else
      (oa n (500:Int)).bind fun v17=>
      k (v17,(b0,(b01,(b02,(b03,(b04,(b05,(b06,(b07,(r1,(r2,())))))))))))
     else
      none
     else
     if (l.1.toList==(⟨#[68,65,84,65]⟩:BA).toList)=true then
      if ((r1.n:Int)==(0:Int))=true then
      (oa n (503:Int)).bind fun v18=>
      k (v18,(b0,(b01,(b02,(b03,(b04,(b05,(b06,(b07,(r1,(r2,())))))))))))
      else
      (oa n (354:Int)).bind fun v19=>
      k (v19,(b0,(b01,(b02,(b03,(b04,(b05,(true,(b07,(r1,(r2,())))))))))))
     else
      if (l.1.toList==(⟨#[81,85,73,84]⟩:BA).toList)=true then
      (oa n (221:Int)).bind fun v20=>
      k (v20,(b0,(b01,(b02,(b03,(b04,(b05,(b06,(b07,(r1,(r2,())))))))))))
      else
      (oa n (500:Int)).bind fun v21=>
      k (v21,(b0,(b01,(b02,(b03,(b04,(b05,(b06,(b07,(r1,(r2,())))))))))))
    else
    none
   else
    (lb n l.1 (⟨#[82,67,80,84,32,84,79,58]⟩:BA)).bind fun v22=>
    if v22=true then
    if 0≤(8:Int)∧(8:Int)≤(l.1.size:Int) then
     (Jv n (l.1.extract (Int.toNat (8:Int)) (Int.toNat (l.1.size:Int)))).bind fun v23=>
     if (!v23.2.2.1)=false then
     if v23.2.1=true then
      (oa n (500:Int)).bind fun v24=>
      k (v24,(b0,(b01,(b02,(b03,(b04,(b05,(b06,(b07,(r1,(r2,())))))))))))
     else
      (Ia n b0 b01 b02 b03 b04 b05 b06 b07 r1 r2).bind fun v25=>
      if (v25.1==(250:Int))=true then
      dup 1 (
       if Ta (v25.2.2.2.2.2.2.2.2.2.1.n+1) 32=true then
       (oa n v25.1).bind fun v26=>
       k (v26,(v25.2.1,(v25.2.2.1,(v25.2.2.2.1,(v25.2.2.2.2.1,(v25.2.2.2.2.2.1,(v25.2.2.2.2.2.2.1,(v25.2.2.2.2.2.2.2.1,(v25.2.2.2.2.2.2.2.2.1,((⟨(v25.2.2.2.2.2.2.2.2.2.1.n+1),fun q=>if q<v25.2.2.2.2.2.2.2.2.2.1.n then v25.2.2.2.2.2.2.2.2.2.1.at' q else (fun q=>List.getD (α:=U1) [(v23.1.1,(v23.1.2.1,()))] q (Ba (.pair .str (.pair .str .unit)))) (q - v25.2.2.2.2.2.2.2.2.2.1.n)⟩:Sq U1),(v25.2.2.2.2.2.2.2.2.2.2.1,())))))))))))
       else
       none)
      else
      (oa n v25.1).bind fun v28=>
      k (v28,(v25.2.1,(v25.2.2.1,(v25.2.2.2.1,(v25.2.2.2.2.1,(v25.2.2.2.2.2.1,(v25.2.2.2.2.2.2.1,(v25.2.2.2.2.2.2.2.1,(v25.2.2.2.2.2.2.2.2.1,(v25.2.2.2.2.2.2.2.2.2.1,(v25.2.2.2.2.2.2.2.2.2.2.1,())))))))))))
     else
     (oa n (500:Int)).bind fun v29=>
     k (v29,(b0,(b01,(b02,(b03,(b04,(b05,(b06,(b07,(r1,(r2,())))))))))))
    else
     none
    else
    if (l.1.toList==(⟨#[68,65,84,65]⟩:BA).toList)=true then
     if ((r1.n:Int)==(0:Int))=true then
     (oa n (503:Int)).bind fun v30=>
     k (v30,(b0,(b01,(b02,(b03,(b04,(b05,(b06,(b07,(r1,(r2,())))))))))))
     else
     (oa n (354:Int)).bind fun v31=>
     k (v31,(b0,(b01,(b02,(b03,(b04,(b05,(true,(b07,(r1,(r2,())))))))))))
    else
     if (l.1.toList==(⟨#[81,85,73,84]⟩:BA).toList)=true then
     (oa n (221:Int)).bind fun v32=>
     k (v32,(b0,(b01,(b02,(b03,(b04,(b05,(b06,(b07,(r1,(r2,())))))))))))
     else
     (oa n (500:Int)).bind fun v33=>
     k (v33,(b0,(b01,(b02,(b03,(b04,(b05,(b06,(b07,(r1,(r2,())))))))))))
   else
   (lb n l.1 (⟨#[82,67,80,84,32,84,79,58]⟩:BA)).bind fun v34=>
   if v34=true then
    if 0≤(8:Int)∧(8:Int)≤(l.1.size:Int) then
    (Jv n (l.1.extract (Int.toNat (8:Int)) (Int.toNat (l.1.size:Int)))).bind fun v35=>
    if (!v35.2.2.1)=false then
     if v35.2.1=true then
     (oa n (500:Int)).bind fun v36=>
     k (v36,(b0,(b01,(b02,(b03,(b04,(b05,(b06,(b07,(r1,(r2,())))))))))))
     else
     (Ia n b0 b01 b02 b03 b04 b05 b06 b07 r1 r2).bind fun v37=>
     if (v37.1==(250:Int))=true then
      dup 1 (
      if Ta (v37.2.2.2.2.2.2.2.2.2.1.n+1) 32=true then
       (oa n v37.1).bind fun v38=>
       k (v38,(v37.2.1,(v37.2.2.1,(v37.2.2.2.1,(v37.2.2.2.2.1,(v37.2.2.2.2.2.1,(v37.2.2.2.2.2.2.1,(v37.2.2.2.2.2.2.2.1,(v37.2.2.2.2.2.2.2.2.1,((⟨(v37.2.2.2.2.2.2.2.2.2.1.n+1),fun q=>if q<v37.2.2.2.2.2.2.2.2.2.1.n then v37.2.2.2.2.2.2.2.2.2.1.at' q else (fun q=>List.getD (α:=U1) [(v35.1.1,(v35.1.2.1,()))] q (Ba (.pair .str (.pair .str .unit)))) (q - v37.2.2.2.2.2.2.2.2.2.1.n)⟩:Sq U1),(v37.2.2.2.2.2.2.2.2.2.2.1,())))))))))))
      else
       none)
     else
      (oa n v37.1).bind fun v40=>
      k (v40,(v37.2.1,(v37.2.2.1,(v37.2.2.2.1,(v37.2.2.2.2.1,(v37.2.2.2.2.2.1,(v37.2.2.2.2.2.2.1,(v37.2.2.2.2.2.2.2.1,(v37.2.2.2.2.2.2.2.2.1,(v37.2.2.2.2.2.2.2.2.2.1,(v37.2.2.2.2.2.2.2.2.2.2.1,())))))))))))
    else
     (oa n (500:Int)).bind fun v41=>
     k (v41,(b0,(b01,(b02,(b03,(b04,(b05,(b06,(b07,(r1,(r2,())))))))))))
    else
    none
   else
    if (l.1.toList==(⟨#[68,65,84,65]⟩:BA).toList)=true then
    if ((r1.n:Int)==(0:Int))=true then
     (oa n (503:Int)).bind fun v42=>
     k (v42,(b0,(b01,(b02,(b03,(b04,(b05,(b06,(b07,(r1,(r2,())))))))))))
    else
     (oa n (354:Int)).bind fun v43=>
     k (v43,(b0,(b01,(b02,(b03,(b04,(b05,(true,(b07,(r1,(r2,())))))))))))
    else
    if (l.1.toList==(⟨#[81,85,73,84]⟩:BA).toList)=true then
     (oa n (221:Int)).bind fun v44=>
     k (v44,(b0,(b01,(b02,(b03,(b04,(b05,(b06,(b07,(r1,(r2,())))))))))))
    else
     (oa n (500:Int)).bind fun v45=>
     k (v45,(b0,(b01,(b02,(b03,(b04,(b05,(b06,(b07,(r1,(r2,())))))))))))
  else
  (oa n (250:Int)).bind fun v46=>
  k (v46,(b0,(b01,(b02,(b03,(b04,(b05,(b06,(b07,(r1,(r2,())))))))))))
def wa (n:Nat) (l:U2) (b0:Bool) (b01:(Sq Int)) (b02:Int) (b03:BA) (b04:Bool) (b05:BA) (b06:Bool) (b07:BA) (r1:(Sq U1)) (r2:(Sq BA)):Option U3:=Fa n l b0 b01 b02 b03 b04 b05 b06 b07 r1 r2 some
theorem wv (n:Nat) {S:Type}:∀ l b0 b01 b02 b03 b04 b05 b06 b07 r1 r2 (φ:_→Option S),(wa n l b0 b01 b02 b03 b04 b05 b06 b07 r1 r2).bind φ=Fa n l b0 b01 b02 b03 b04 b05 b06 b07 r1 r2 φ:=by
 intros;unfold wa Fa;first | (simp only [fa,ba,iB,bB,oL,oX,nB,Option.bind_some]) | rfl
def Kh (n:Nat):Hint OutS:={ live:=fun c=>[],run:=fun c=>none,xm:=fun c q=>none,sch:=fun c=>(cond (Nat.beq c 22) (some [(0,0),(1,0),(2,0),(3,0),(5,1),(6,5),(4,7),(7,2),(8,6),(9,6),(10,2)]) none),nb:=[(74,1,.frz (.int .i64)),(74,6,.prm 47),(74,9,.prm 9)] }
theorem Cq (n:Nat):ta tys (da OutS (SJ n)).keep (Kh n) n (aa Tryz.f37) 0:=ma (fun _=>rfl) _ _ (by kernel_rfl)
theorem Fs (n:Nat):Enters Tryz.prog 37:=enters_of (c:=aa Tryz.f37) Tryz.func37 (by kernel_rfl) (by kernel_rfl)
def Ri:List RSp:=[.one (.ptr 0 0 0),.one (.dat (.pair .str (.pair .bool .unit)))]
def Qi:List RS:=[.box 74 10 false [.dat .bool,.dat (.sl (.int .i64)),.dat (.int .i64),.dat .str,.dat .bool,.dat .str,.row 1,.dat .bool,.dat .str,.row 2],.row 47 2 (.pair .str (.pair .str .unit)) true true,.row 9 1 .str true true]
def Gs:List Sl:=[.ptr 0 0 0,.top]
def Hs:List RSp:=[.one (.dat .str)]
def Ic:List RS:=[.box 74 10 false [.dat .bool,.dat (.sl (.int .i64)),.dat (.int .i64),.dat .str,.dat .bool,.dat .str,.row 1,.dat .bool,.dat .str,.row 2],.row 47 2 (.pair .str (.pair .str .unit)) true true,.row 9 1 .str true true]
def Qf (y:U3):OutS:=⟨false,dl (dc Ic ((y.2.1,(y.2.2.1,(y.2.2.2.1,(y.2.2.2.2.1,(y.2.2.2.2.2.1,(y.2.2.2.2.2.2.1,(y.2.2.2.2.2.2.2.1,(y.2.2.2.2.2.2.2.2.1,())))))))),(y.2.2.2.2.2.2.2.2.2.1,(y.2.2.2.2.2.2.2.2.2.2.1,())))) Gs (),aw (Xt (dc Ic ((y.2.1,(y.2.2.1,(y.2.2.2.1,(y.2.2.2.2.1,(y.2.2.2.2.2.1,(y.2.2.2.2.2.2.1,(y.2.2.2.2.2.2.2.1,(y.2.2.2.2.2.2.2.2.1,())))))))),(y.2.2.2.2.2.2.2.2.2.1,(y.2.2.2.2.2.2.2.2.2.2.1,())))) Hs ((y.1,()),())),Qo (dc Ic ((y.2.1,(y.2.2.1,(y.2.2.2.1,(y.2.2.2.2.1,(y.2.2.2.2.2.1,(y.2.2.2.2.2.2.1,(y.2.2.2.2.2.2.2.1,(y.2.2.2.2.2.2.2.2.1,())))))))),(y.2.2.2.2.2.2.2.2.2.1,(y.2.2.2.2.2.2.2.2.2.2.1,())))) Ic ((y.2.1,(y.2.2.1,(y.2.2.2.1,(y.2.2.2.2.1,(y.2.2.2.2.2.1,(y.2.2.2.2.2.2.1,(y.2.2.2.2.2.2.2.1,(y.2.2.2.2.2.2.2.2.1,())))))))),(y.2.2.2.2.2.2.2.2.2.1,(y.2.2.2.2.2.2.2.2.2.2.1,())))⟩
theorem Ot (n:Nat):EntryOk Tryz.prog gl ⟨37,gf,none,some (csT Ri Qi (fun σ ρ=>wa n σ.2.1.1 ρ.1.1 ρ.1.2.1 ρ.1.2.2.1 ρ.1.2.2.2.1 ρ.1.2.2.2.2.1 ρ.1.2.2.2.2.2.1 ρ.1.2.2.2.2.2.2.1 ρ.1.2.2.2.2.2.2.2.1 ρ.2.1 ρ.2.2.1) Qf)⟩:=
 Sc (Fs n) fun σ ρ y h=>db tys_ok (nI n) mixed (hint:=Kh n) (n:=n) Tryz.func37 (Pa (Cq n)) (la (φ:=fun y=>some (Qf y)) (by kernel_rfl) (wv n σ.2.1.1 ρ.1.1 ρ.1.2.1 ρ.1.2.2.1 ρ.1.2.2.2.1 ρ.1.2.2.2.2.1 ρ.1.2.2.2.2.2.1 ρ.1.2.2.2.2.2.2.1 ρ.1.2.2.2.2.2.2.2.1 ρ.2.1 ρ.2.2.1 _) h)
def cc (n:Nat):List Entry:=⟨37,gf,none,some (csT Ri Qi (fun σ ρ=>wa n σ.2.1.1 ρ.1.1 ρ.1.2.1 ρ.1.2.2.1 ρ.1.2.2.2.1 ρ.1.2.2.2.2.1 ρ.1.2.2.2.2.2.1 ρ.1.2.2.2.2.2.2.1 ρ.1.2.2.2.2.2.2.2.1 ρ.2.1 ρ.2.2.1) Qf)⟩::SJ n
theorem oh (n:Nat):AllOk Tryz.prog gl (cc n):=.cons (Ot n) (nI n)
end
end Go.Proofs.YtddefjokgaajfaaGreatDoor.AM
