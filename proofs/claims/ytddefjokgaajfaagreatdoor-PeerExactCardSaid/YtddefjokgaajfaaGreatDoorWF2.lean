/- Typed functions that tell what the Go functions of this seat answer, and proofs of it, by program (gen.py). -/
import Derived.Test.YtddefjokgaajfaaGreatDoorWF1
set_option linter.all false
set_option linter.unusedVariables false
set_option linter.unusedSimpArgs false
set_option maxRecDepth 1000000
set_option maxHeartbeats 0
namespace Go.Proofs.YtddefjokgaajfaaGreatDoor.AM
open Go Go.RowKit
noncomputable section
def lc (n:Nat) {R:Type} (l1:U9) (n0 i:Int) (kn:U9→Int→Int→Option R) (ko:(Int)→Option R) (kr:Unit→Option R) (kp:Int→Option R):Option R:=
 if (decide (i<(l1.n:Int)))=true then
 if (decide (n0<(1048576:Int)))=true then
  if 0≤i∧i<(l1.n:Int) then
  kn l1 (IntKind.wrap .i64 (n0+((((l1.at' (Int.toNat i))).n):Int))) (IntKind.wrap .i64 (i+(1:Int)))
  else
  none
 else
  ko n0
 else
 ko n0
def Ma (n:Nat):Nat→U9→Int→Int→Option (Lx (Int) Unit)
 | 0,_,_,_=>none
 | m+1,l1,n0,i=>lc n l1 n0 i (Ma n m) (fun a=>some (.out a)) (fun a=>some (.ret a)) (fun p=>some (.pan p))
theorem lF (n m:Nat) {S:Type}:∀ l1 n0 i (φ:_→Option S),(Ma n (m+1) l1 n0 i).bind φ=lc n l1 n0 i (fun l1 n0 i=>(Ma n m l1 n0 i).bind φ) (fun a=>φ (.out a)) (fun a=>φ (.ret a)) (fun p=>φ (.pan p)):=by
 intros;first | (simp only [Ma,lc,fa,ba,iB,bB,oL,oX,nB,Option.bind_some]) | rfl
def bj:List Sl:=.dat (.sl (.sl (.int .u8)))::.top::.top::.dat (.int .i64)::.dat (.int .i64)::tp 20 []
def aj:List RS:=[]
def bw:List Sl:=.top::.top::.top::.dat (.int .i64)::tp 21 []
def aw:List RS:=[]
def ec (K:XE→List AV→ia→Option Out):Lx (Int) Unit→Option Out:=fun x=>onL x (fun a=>Bk bw aw (a,()) () (K (.exit 0))) (fun _=>none) (fun _=>none)
def bh (n:Nat) {R:Type} (l:U9) (k:Int→Option R):Option R:=
 (Ma n n l (l.n:Int) (0:Int)).bind fun x_1=>onL x_1
 (fun a_2=>
  k a_2)
 (fun _=>none)
 (fun _=>none)
def Sd (n:Nat) (l:U9):Option Int:=bh n l some
theorem OK (n:Nat) {S:Type}:∀ l (φ:_→Option S),(Sd n l).bind φ=bh n l φ:=by
 intros;unfold Sd bh;first | (simp only [fa,ba,iB,bB,oL,oX,nB,Option.bind_some]) | rfl
def Qg (n:Nat):Hint Out:={ live:=fun c=>(cond (Nat.beq c 0) [(0,some (.sl (.sl (.int .u8)))),(3,none),(4,none)] []),run:=fun c=>(cond (Nat.beq c 0) (some (Ms bj aj fun σ ρ K=>(Ma n n σ.1 σ.2.1 σ.2.2.1).bind (ec K))) none),xm:=fun c q=>(cond (Nat.beq c 0&&Nat.beq (q.getD 1000000) 0&&q.isSome) (some [(3,none)]) none) }
def Pg (n:Nat) (K:XE→List AV→ia→Option Out) (m:Nat) (l1:U9) (n0:Int) (i:Int):Option Out:=Ef tys (da Out (vc n)) (Qg n) n (Fa [1,1,0,1,0,0] (aa Tryz.f8)) 0 bj aj K m (l1,(n0,(i,()))) ()
theorem As (n:Nat) (K:XE→List AV→ia→Option Out):∀ (m:Nat) l1 n0 i,Pg n K m l1 n0 i=(Ma n m l1 n0 i).bind (ec K)
 | 0,_,_,_=>by kernel_rfl
 | m+1,l1,n0,i=>by
  have h1:Pg n K (m+1) l1 n0 i=lc n l1 n0 i (Pg n K m) (fun a=>ec K (.out a)) (fun a=>ec K (.ret a)) (fun p=>ec K (.pan p)):=by kernel_rfl
  have h2:Pg n K m=fun l1 n0 i=>(Ma n m l1 n0 i).bind (ec K):=by
   repeat (refine funext fun _=>?_)
   exact As n K m _ _ _
  rw [h1,h2];exact (lF n m _ _ _ (ec K)).symm
theorem VC (n:Nat):Pe tys (da Out (vc n)) (Qg n) n (Fa [1,1,0,1,0,0] (aa Tryz.f8)) 0:=Qa (sp:=bj) (rp:=aj) (by kernel_rfl) fun K σ ρ=>As n K n σ.1 σ.2.1 σ.2.2.1
theorem mF (n:Nat):ua tys (da Out (vc n)) (Qg n) n (aa Tryz.f8) 0:=⟨trivial,⟨trivial,⟨⟨trivial,⟨VC n,⟨⟨trivial,⟨trivial,trivial⟩⟩,⟨trivial,trivial⟩⟩⟩⟩,⟨trivial,trivial⟩⟩⟩⟩
theorem TH (n:Nat):Enters Tryz.prog 8:=enters_of (c:=aa Tryz.f8) Tryz.func8 (by kernel_rfl) (by kernel_rfl)
def cw (n:Nat):Entry:=⟨8,pcT (.pair (.sl (.sl (.int .u8))) .unit) (.one (.int .i64)) (fun xs=>Sd n xs.1),none,none⟩
theorem jJ (n:Nat):EntryOk Tryz.prog gl (cw n):=
 Oa (TH n) fun xs y h=>ra tys_ok (si n) mixed (hint:=Qg n) (n:=n) Tryz.func8 (Na (mF n)) (la (φ:=(fun y=>some (Out.ret (Kf (.one (.int .i64)) y)))) (by kernel_rfl) (OK n xs.1 _) h)
def Tf (n:Nat):List Entry:=cw n::vc n
theorem zp (n:Nat):AllOk Tryz.prog gl (Tf n):=.cons (jJ n) (si n)
def Ud (n:Nat) {R:Type} (l1:(Sq Int)) (i:Int) (m0:(Sq Int)) (kn:(Sq Int)→Int→(Sq Int)→Option R) (ko:((Sq Int))→Option R) (kr:Unit→Option R) (kp:Int→Option R):Option R:=
 if (decide (i<(l1.n:Int)))=true then
 if 0≤i∧i<(l1.n:Int) then
  if Ta (m0.n+1) 8=true then
  kn l1 (IntKind.wrap .i64 (i+(1:Int))) (⟨(m0.n+1),fun q=>if q<m0.n then m0.at' q else (fun q=>List.getD (α:=Int) [(l1.at' (Int.toNat i))] q (Aa (.int .i64))) (q - m0.n)⟩:Sq Int)
  else
  none
 else
  none
 else
 ko m0
def ob (n:Nat):Nat→(Sq Int)→Int→(Sq Int)→Option (Lx ((Sq Int)) Unit)
 | 0,_,_,_=>none
 | m+1,l1,i,m0=>Ud n l1 i m0 (ob n m) (fun a=>some (.out a)) (fun a=>some (.ret a)) (fun p=>some (.pan p))
theorem CE (n m:Nat) {S:Type}:∀ l1 i m0 (φ:_→Option S),(ob n (m+1) l1 i m0).bind φ=Ud n l1 i m0 (fun l1 i m0=>(ob n m l1 i m0).bind φ) (fun a=>φ (.out a)) (fun a=>φ (.ret a)) (fun p=>φ (.pan p)):=by
 intros;first | (simp only [ob,Ud,fa,ba,iB,bB,oL,oX,nB,Option.bind_some]) | rfl
def Wi:List Sl:=.dat (.sl (.int .i64))::.top::.top::.row 0::.dat (.int .i64)::tp 14 []
def Vi:List RS:=[.row 3 1 (.int .i64) true false]
def Hv:List Sl:=.top::.top::.top::.row 0::tp 15 []
def Gv:List RS:=[.row 3 1 (.int .i64) true false]
def cc (K:XE→List AV→ia→Option Out):Lx ((Sq Int)) Unit→Option Out:=fun x=>onL x (fun a=>Bk Hv Gv () (a,()) (K (.exit 0))) (fun _=>none) (fun _=>none)
def nj (n:Nat) {R:Type} (l:(Sq Int)) (k:(Sq Int)→Option R):Option R:=
 (ob n n l (0:Int) (⟨0,fun _=>Aa (.int .i64)⟩:Sq Int)).bind fun x_1=>onL x_1
 (fun a_2=>
  k a_2)
 (fun _=>none)
 (fun _=>none)
def Pd (n:Nat) (l:(Sq Int)):Option (Sq Int):=nj n l some
theorem oK (n:Nat) {S:Type}:∀ l (φ:_→Option S),(Pd n l).bind φ=nj n l φ:=by
 intros;unfold Pd nj;first | (simp only [fa,ba,iB,bB,oL,oX,nB,Option.bind_some]) | rfl
def ug (n:Nat):Hint Out:={ live:=fun c=>(cond (Nat.beq c 0) [(0,some (.sl (.int .i64))),(3,some (.sl (.int .i64))),(4,none)] []),run:=fun c=>(cond (Nat.beq c 0) (some (Ms Wi Vi fun σ ρ K=>(ob n n σ.1 σ.2.1 ρ.1).bind (cc K))) none),xm:=fun c q=>(cond (Nat.beq c 0&&Nat.beq (q.getD 1000000) 0&&q.isSome) (some [(3,some (.sl (.int .i64)))]) none) }
def tg (n:Nat) (K:XE→List AV→ia→Option Out) (m:Nat) (l1:(Sq Int)) (i:Int) (m0:(Sq Int)):Option Out:=Ef tys (da Out (Tf n)) (ug n) n (Fa [1,1,0,1,0,0] (aa Tryz.f10)) 0 Wi Vi K m (l1,(i,())) (m0,())
theorem Dr (n:Nat) (K:XE→List AV→ia→Option Out):∀ (m:Nat) l1 i m0,tg n K m l1 i m0=(ob n m l1 i m0).bind (cc K)
 | 0,_,_,_=>by kernel_rfl
 | m+1,l1,i,m0=>by
  have h1:tg n K (m+1) l1 i m0=Ud n l1 i m0 (tg n K m) (fun a=>cc K (.out a)) (fun a=>cc K (.ret a)) (fun p=>cc K (.pan p)):=by kernel_rfl
  have h2:tg n K m=fun l1 i m0=>(ob n m l1 i m0).bind (cc K):=by
   repeat (refine funext fun _=>?_)
   exact Dr n K m _ _ _
  rw [h1,h2];exact (CE n m _ _ _ (cc K)).symm
theorem DC (n:Nat):Pe tys (da Out (Tf n)) (ug n) n (Fa [1,1,0,1,0,0] (aa Tryz.f10)) 0:=Qa (sp:=Wi) (rp:=Vi) (by kernel_rfl) fun K σ ρ=>Dr n K n σ.1 σ.2.1 ρ.1
theorem DE (n:Nat):ua tys (da Out (Tf n)) (ug n) n (aa Tryz.f10) 0:=⟨trivial,⟨trivial,⟨⟨trivial,⟨DC n,⟨⟨trivial,⟨trivial,trivial⟩⟩,⟨trivial,trivial⟩⟩⟩⟩,⟨trivial,trivial⟩⟩⟩⟩
theorem qG (n:Nat):Enters Tryz.prog 10:=enters_of (c:=aa Tryz.f10) Tryz.func10 (by kernel_rfl) (by kernel_rfl)
def Iv (n:Nat):Entry:=⟨10,pcT (.pair (.sl (.int .i64)) .unit) (.one (.sl (.int .i64))) (fun xs=>Pd n xs.1),none,none⟩
theorem yI (n:Nat):EntryOk Tryz.prog gl (Iv n):=
 Oa (qG n) fun xs y h=>ra tys_ok (zp n) mixed (hint:=ug n) (n:=n) Tryz.func10 (Na (DE n)) (la (φ:=(fun y=>some (Out.ret (Kf (.one (.sl (.int .i64))) y)))) (by kernel_rfl) (oK n xs.1 _) h)
def tm (n:Nat):List Entry:=Iv n::Tf n
theorem ep (n:Nat):AllOk Tryz.prog gl (tm n):=.cons (yI n) (zp n)
def rg (n:Nat) {R:Type} (lmtp:Bool) (refuse:(Sq Int)) (k:U5→Option R):Option R:=
 (Pd n refuse).bind fun v=>
 k (lmtp,(v,((0:Int),((⟨#[]⟩:BA),(false,((⟨#[]⟩:BA),(false,((⟨#[]⟩:BA),((⟨0,fun _=>Aa (.pair .str (.pair .str .unit))⟩:Sq U1),((⟨0,fun _=>Aa .str⟩:Sq BA),()))))))))))
def Uc (n:Nat) (lmtp:Bool) (refuse:(Sq Int)):Option U5:=rg n lmtp refuse some
theorem yE (n:Nat) {S:Type}:∀ lmtp refuse (φ:_→Option S),(Uc n lmtp refuse).bind φ=rg n lmtp refuse φ:=by
 intros;unfold Uc rg;first | (simp only [fa,ba,iB,bB,oL,oX,nB,Option.bind_some]) | rfl
def cm (n:Nat):Hint OutS:={ live:=fun c=>[],run:=fun c=>none,xm:=fun c q=>none,nb:=[(74,1,.frz (.int .i64)),(74,6,.prm 47),(74,9,.prm 9)],na:=true }
theorem ry (n:Nat):ua tys (da OutS (tm n)).keep (cm n) n (aa Tryz.f12) 0:=ma (fun _=>rfl) _ _ (by kernel_rfl)
theorem iA (n:Nat):Enters Tryz.prog 12:=enters_of (c:=aa Tryz.f12) Tryz.func12 (by kernel_rfl) (by kernel_rfl)
def ap:List RSp:=[.one (.dat .bool),.one (.dat (.sl (.int .i64)))]
def Zo:List RS:=[]
def jA:List Sl:=[.top,.top]
def kA:List RSp:=[.one (.ptr 0 0 0)]
def ff:List RS:=[.box 74 10 false [.dat .bool,.dat (.sl (.int .i64)),.dat (.int .i64),.dat .str,.dat .bool,.dat .str,.row 1,.dat .bool,.dat .str,.row 2],.row 47 2 (.pair .str (.pair .str .unit)) true true,.row 9 1 .str true true]
def Qj (y:U5):OutS:=⟨false,Kl (Yb ff ((y.1,(y.2.1,(y.2.2.1,(y.2.2.2.1,(y.2.2.2.2.1,(y.2.2.2.2.2.1,(y.2.2.2.2.2.2.1,(y.2.2.2.2.2.2.2.1,())))))))),(y.2.2.2.2.2.2.2.2.1,(y.2.2.2.2.2.2.2.2.2.1,())))) jA (),Xu (Us (Yb ff ((y.1,(y.2.1,(y.2.2.1,(y.2.2.2.1,(y.2.2.2.2.1,(y.2.2.2.2.2.1,(y.2.2.2.2.2.2.1,(y.2.2.2.2.2.2.2.1,())))))))),(y.2.2.2.2.2.2.2.2.1,(y.2.2.2.2.2.2.2.2.2.1,())))) kA ((),())),ao (Yb ff ((y.1,(y.2.1,(y.2.2.1,(y.2.2.2.1,(y.2.2.2.2.1,(y.2.2.2.2.2.1,(y.2.2.2.2.2.2.1,(y.2.2.2.2.2.2.2.1,())))))))),(y.2.2.2.2.2.2.2.2.1,(y.2.2.2.2.2.2.2.2.2.1,())))) ff ((y.1,(y.2.1,(y.2.2.1,(y.2.2.2.1,(y.2.2.2.2.1,(y.2.2.2.2.2.1,(y.2.2.2.2.2.2.1,(y.2.2.2.2.2.2.2.1,())))))))),(y.2.2.2.2.2.2.2.2.1,(y.2.2.2.2.2.2.2.2.2.1,())))⟩
theorem AC (n:Nat):EntryOk Tryz.prog gl ⟨12,Re,none,some (csT ap Zo (fun σ ρ=>Uc n σ.1.1 σ.2.1.1) Qj)⟩:=
 Lc (iA n) fun σ ρ y h=>Xa tys_ok (ep n) mixed (hint:=cm n) (n:=n) Tryz.func12 (Na (ry n)) (la (φ:=fun y=>some (Qj y)) (by kernel_rfl) (yE n σ.1.1 σ.2.1.1 _) h)
def Kd (n:Nat):List Entry:=⟨12,Re,none,some (csT ap Zo (fun σ ρ=>Uc n σ.1.1 σ.2.1.1) Qj)⟩::tm n
theorem Wk (n:Nat):AllOk Tryz.prog gl (Kd n):=.cons (AC n) (ep n)
def Of (n:Nat) {R:Type} (l1:(Sq Int)) (i:Int) (m0:(Sq Int)) (kn:(Sq Int)→Int→(Sq Int)→Option R) (ko:((Sq Int))→Option R) (kr:Unit→Option R) (kp:Int→Option R):Option R:=
 if (decide (i<(l1.n:Int)))=true then
 if 0≤i∧i<(l1.n:Int) then
  if Ta (m0.n+1) 1=true then
  kn l1 (IntKind.wrap .i64 (i+(1:Int))) (⟨(m0.n+1),fun q=>if q<m0.n then m0.at' q else (fun q=>List.getD (α:=Int) [(l1.at' (Int.toNat i))] q (Aa (.int .u8))) (q - m0.n)⟩:Sq Int)
  else
  none
 else
  none
 else
 ko m0
def Kb (n:Nat):Nat→(Sq Int)→Int→(Sq Int)→Option (Lx ((Sq Int)) Unit)
 | 0,_,_,_=>none
 | m+1,l1,i,m0=>Of n l1 i m0 (Kb n m) (fun a=>some (.out a)) (fun a=>some (.ret a)) (fun p=>some (.pan p))
theorem wI (n m:Nat) {S:Type}:∀ l1 i m0 (φ:_→Option S),(Kb n (m+1) l1 i m0).bind φ=Of n l1 i m0 (fun l1 i m0=>(Kb n m l1 i m0).bind φ) (fun a=>φ (.out a)) (fun a=>φ (.ret a)) (fun p=>φ (.pan p)):=by
 intros;first | (simp only [Kb,Of,fa,ba,iB,bB,oL,oX,nB,Option.bind_some]) | rfl
def il:List Sl:=.dat (.sl (.int .u8))::.top::.top::.row 0::.dat (.int .i64)::tp 14 []
def fl:List RS:=[.row 5 1 (.int .u8) true false]
def wy:List Sl:=.top::.top::.top::.row 0::tp 15 []
def uy:List RS:=[.row 5 1 (.int .u8) true false]
def Vc (K:XE→List AV→ia→Option Out):Lx ((Sq Int)) Unit→Option Out:=fun x=>onL x (fun a=>Bk wy uy () (a,()) (K (.exit 0))) (fun _=>none) (fun _=>none)
def Vm (n:Nat) {R:Type} (l:(Sq Int)) (k:(Sq Int)→Option R):Option R:=
 (Kb n n l (0:Int) (⟨0,fun _=>Aa (.int .u8)⟩:Sq Int)).bind fun x_1=>onL x_1
 (fun a_2=>
  k a_2)
 (fun _=>none)
 (fun _=>none)
def lk (n:Nat) (l:(Sq Int)):Option (Sq Int):=Vm n l some
theorem VN (n:Nat) {S:Type}:∀ l (φ:_→Option S),(lk n l).bind φ=Vm n l φ:=by
 intros;unfold lk Vm;first | (simp only [fa,ba,iB,bB,oL,oX,nB,Option.bind_some]) | rfl
def bi (n:Nat):Hint Out:={ live:=fun c=>(cond (Nat.beq c 0) [(0,some (.sl (.int .u8))),(3,some (.sl (.int .u8))),(4,none)] []),run:=fun c=>(cond (Nat.beq c 0) (some (Ms il fl fun σ ρ K=>(Kb n n σ.1 σ.2.1 ρ.1).bind (Vc K))) none),xm:=fun c q=>(cond (Nat.beq c 0&&Nat.beq (q.getD 1000000) 0&&q.isSome) (some [(3,some (.sl (.int .u8)))]) none) }
def ai (n:Nat) (K:XE→List AV→ia→Option Out) (m:Nat) (l1:(Sq Int)) (i:Int) (m0:(Sq Int)):Option Out:=Ef tys (da Out (Kd n)) (bi n) n (Fa [1,1,0,1,0,0] (aa Tryz.f13)) 0 il fl K m (l1,(i,())) (m0,())
theorem Fv (n:Nat) (K:XE→List AV→ia→Option Out):∀ (m:Nat) l1 i m0,ai n K m l1 i m0=(Kb n m l1 i m0).bind (Vc K)
 | 0,_,_,_=>by kernel_rfl
 | m+1,l1,i,m0=>by
  have h1:ai n K (m+1) l1 i m0=Of n l1 i m0 (ai n K m) (fun a=>Vc K (.out a)) (fun a=>Vc K (.ret a)) (fun p=>Vc K (.pan p)):=by kernel_rfl
  have h2:ai n K m=fun l1 i m0=>(Kb n m l1 i m0).bind (Vc K):=by
   repeat (refine funext fun _=>?_)
   exact Fv n K m _ _ _
  rw [h1,h2];exact (wI n m _ _ _ (Vc K)).symm
theorem pG (n:Nat):Pe tys (da Out (Kd n)) (bi n) n (Fa [1,1,0,1,0,0] (aa Tryz.f13)) 0:=Qa (sp:=il) (rp:=fl) (by kernel_rfl) fun K σ ρ=>Fv n K n σ.1 σ.2.1 ρ.1
theorem xI (n:Nat):ua tys (da Out (Kd n)) (bi n) n (aa Tryz.f13) 0:=⟨trivial,⟨trivial,⟨⟨trivial,⟨pG n,⟨⟨trivial,⟨trivial,trivial⟩⟩,⟨trivial,trivial⟩⟩⟩⟩,⟨trivial,trivial⟩⟩⟩⟩
theorem nK (n:Nat):Enters Tryz.prog 13:=enters_of (c:=aa Tryz.f13) Tryz.func13 (by kernel_rfl) (by kernel_rfl)
def mA (n:Nat):Entry:=⟨13,pcT (.pair (.sl (.int .u8)) .unit) (.one (.sl (.int .u8))) (fun xs=>lk n xs.1),none,none⟩
theorem dM (n:Nat):EntryOk Tryz.prog gl (mA n):=
 Oa (nK n) fun xs y h=>ra tys_ok (Wk n) mixed (hint:=bi n) (n:=n) Tryz.func13 (Na (xI n)) (la (φ:=(fun y=>some (Out.ret (Kf (.one (.sl (.int .u8))) y)))) (by kernel_rfl) (VN n xs.1 _) h)
def Kh (n:Nat):List Entry:=mA n::Kd n
theorem jt (n:Nat):AllOk Tryz.prog gl (Kh n):=.cons (dM n) (Wk n)
def Jc (n:Nat) {R:Type} (t25:(Sq U2)) (t26 t27:Int) (p:Bool) (p1:(Sq Int)) (p2:BA) (p3:Bool) (p4 p5:BA) (p6:Bool) (p7:BA) (r11 r21:(Sq BA)) (kn:(Sq U2)→Int→Int→Bool→(Sq Int)→BA→Bool→BA→BA→Bool→BA→(Sq BA)→(Sq BA)→Option R) (ko:U8→Option R) (kr:Unit→Option R) (kp:Int→Option R):Option R:=
 if (decide (t27<t26))=true then
 if 0≤t27∧t27<(t25.n:Int) then
  (Ba n (((t25.at' (Int.toNat t27))).1,((((t25.at' (Int.toNat t27))).2).1,())) p p1 p2 p3 p4 p5 p6 p7 r11 r21).bind fun v1=>
  kn t25 t26 (IntKind.wrap .i64 (t27+(1:Int))) v1.1 v1.2.1 v1.2.2.1 v1.2.2.2.1 v1.2.2.2.2.1 v1.2.2.2.2.2.1 v1.2.2.2.2.2.2.1 v1.2.2.2.2.2.2.2.1 v1.2.2.2.2.2.2.2.2.1 v1.2.2.2.2.2.2.2.2.2.1
 else
  none
 else
 ko (p,p1,p2,p3,p4,p5,p6,p7,r11,r21)
def Ra (n:Nat):Nat→(Sq U2)→Int→Int→Bool→(Sq Int)→BA→Bool→BA→BA→Bool→BA→(Sq BA)→(Sq BA)→Option (Lx U8 Unit)
 | 0,_,_,_,_,_,_,_,_,_,_,_,_,_=>none
 | m+1,t25,t26,t27,p,p1,p2,p3,p4,p5,p6,p7,r11,r21=>Jc n t25 t26 t27 p p1 p2 p3 p4 p5 p6 p7 r11 r21 (Ra n m) (fun a=>some (.out a)) (fun a=>some (.ret a)) (fun p=>some (.pan p))
theorem Tx (n m:Nat) {S:Type}:∀ t25 t26 t27 p p1 p2 p3 p4 p5 p6 p7 r11 r21 (φ:_→Option S),(Ra n (m+1) t25 t26 t27 p p1 p2 p3 p4 p5 p6 p7 r11 r21).bind φ=Jc n t25 t26 t27 p p1 p2 p3 p4 p5 p6 p7 r11 r21 (fun t25 t26 t27 p p1 p2 p3 p4 p5 p6 p7 r11 r21=>(Ra n m t25 t26 t27 p p1 p2 p3 p4 p5 p6 p7 r11 r21).bind φ) (fun a=>φ (.out a)) (fun a=>φ (.ret a)) (fun p=>φ (.pan p)):=by
 intros;first | (simp only [Ra,Jc,fa,ba,iB,bB,oL,oX,nB,Option.bind_some]) | rfl
def mg:List Sl:=.ptr 0 0 0::tp 24 (.dat (.sl (.pair .str (.pair .bool .unit)))::.dat (.int .i64)::.dat (.int .i64)::tp 11 [])
def kg:List RS:=[.box 71 10 false [.dat .bool,.dat (.sl (.int .i64)),.dat .str,.dat .bool,.dat .str,.row 1,.dat .str,.dat .bool,.row 2,.dat .str],.row 9 1 .str true true,.row 9 1 .str true true,.ghost [.ptr 0 0 0,.top]]
def Wq:List Sl:=.ptr 0 0 0::tp 38 []
def Vq:List RS:=[.box 71 10 false [.dat .bool,.dat (.sl (.int .i64)),.dat .str,.dat .bool,.dat .str,.row 1,.dat .str,.dat .bool,.row 2,.dat .str],.row 9 1 .str true true,.row 9 1 .str true true,.ghost [.ptr 0 0 0,.top]]
def Fb (K:XE→List AV→ia→Option OutS):Lx U8 Unit→Option OutS:=fun x=>onL x (fun a=>Bk Wq Vq () ((a.1,(a.2.1,(a.2.2.1,(a.2.2.2.1,(a.2.2.2.2.1,(a.2.2.2.2.2.1,(a.2.2.2.2.2.2.1,(a.2.2.2.2.2.2.2.1,())))))))),(a.2.2.2.2.2.2.2.2.1,(a.2.2.2.2.2.2.2.2.2,((),())))) (K (.exit 0))) (fun _=>none) (fun _=>none)
def jg (n:Nat) {R:Type} (b:(Sq Int)) (b0:Bool) (b01:(Sq Int)) (b02:BA) (b03:Bool) (b04 b05:BA) (b06:Bool) (b07:BA) (r1 r2:(Sq BA)) (k:U4→Option R):Option R:=
 (yn n (b02,(b03,())) b).bind fun v=>
 (Ra n n v.2.1 (v.2.1.n:Int) (0:Int) b0 b01 v.1.1 v.1.2.1 b04 b05 b06 (⟨#[]⟩:BA) r1 r2).bind fun x_1=>onL x_1
 (fun a_2=>
  k (a_2.2.2.2.2.2.2.2.1,(a_2.1,(a_2.2.1,(a_2.2.2.1,(a_2.2.2.2.1,(a_2.2.2.2.2.1,(a_2.2.2.2.2.2.1,(a_2.2.2.2.2.2.2.1,(a_2.2.2.2.2.2.2.2.1,(a_2.2.2.2.2.2.2.2.2.1,(a_2.2.2.2.2.2.2.2.2.2,()))))))))))))
 (fun _=>none)
 (fun _=>none)
def Qc (n:Nat) (b:(Sq Int)) (b0:Bool) (b01:(Sq Int)) (b02:BA) (b03:Bool) (b04 b05:BA) (b06:Bool) (b07:BA) (r1 r2:(Sq BA)):Option U4:=jg n b b0 b01 b02 b03 b04 b05 b06 b07 r1 r2 some
theorem lE (n:Nat) {S:Type}:∀ b b0 b01 b02 b03 b04 b05 b06 b07 r1 r2 (φ:_→Option S),(Qc n b b0 b01 b02 b03 b04 b05 b06 b07 r1 r2).bind φ=jg n b b0 b01 b02 b03 b04 b05 b06 b07 r1 r2 φ:=by
 intros;unfold Qc jg;first | (simp only [fa,ba,iB,bB,oL,oX,nB,Option.bind_some]) | rfl
def ve (n:Nat):Hint OutS:={ live:=fun c=>(cond (Nat.beq c 0) [(0,none),(25,some (.sl (.pair .str (.pair .bool .unit)))),(26,none),(27,none)] []),run:=fun c=>(cond (Nat.beq c 0) (some (Ms mg kg fun σ ρ K=>(Ra n n σ.1 σ.2.1 σ.2.2.1 ρ.1.1 ρ.1.2.1 ρ.1.2.2.1 ρ.1.2.2.2.1 ρ.1.2.2.2.2.1 ρ.1.2.2.2.2.2.1 ρ.1.2.2.2.2.2.2.1 ρ.1.2.2.2.2.2.2.2.1 ρ.2.1 ρ.2.2.1).bind (Fb K))) none),xm:=fun c q=>(cond (Nat.beq c 0&&Nat.beq (q.getD 1000000) 0&&q.isSome) (some [(0,none)]) none),nb:=[(71,1,.frz (.int .i64)),(71,5,.prm 9),(71,8,.prm 9)],na:=true }
def ue (n:Nat) (K:XE→List AV→ia→Option OutS) (m:Nat) (t25:(Sq U2)) (t26:Int) (t27:Int) (p:Bool) (p1:(Sq Int)) (p2:BA) (p3:Bool) (p4:BA) (p5:BA) (p6:Bool) (p7:BA) (r11:(Sq BA)) (r21:(Sq BA)):Option OutS:=Ef tys (da OutS (Kh n)).keep (ve n) n (Fa [1,1,1,0,1,0,0] (aa Tryz.f14)) 0 mg kg K m (t25,(t26,(t27,()))) ((p,(p1,(p2,(p3,(p4,(p5,(p6,(p7,())))))))),(r11,(r21,((),()))))
theorem Pl (n:Nat) (K:XE→List AV→ia→Option OutS):∀ (m:Nat) t25 t26 t27 p p1 p2 p3 p4 p5 p6 p7 r11 r21,ue n K m t25 t26 t27 p p1 p2 p3 p4 p5 p6 p7 r11 r21=(Ra n m t25 t26 t27 p p1 p2 p3 p4 p5 p6 p7 r11 r21).bind (Fb K)
 | 0,_,_,_,_,_,_,_,_,_,_,_,_,_=>by kernel_rfl
 | m+1,t25,t26,t27,p,p1,p2,p3,p4,p5,p6,p7,r11,r21=>by
  have h1:ue n K (m+1) t25 t26 t27 p p1 p2 p3 p4 p5 p6 p7 r11 r21=Jc n t25 t26 t27 p p1 p2 p3 p4 p5 p6 p7 r11 r21 (ue n K m) (fun a=>Fb K (.out a)) (fun a=>Fb K (.ret a)) (fun p=>Fb K (.pan p)):=by kernel_rfl
  have h2:ue n K m=fun t25 t26 t27 p p1 p2 p3 p4 p5 p6 p7 r11 r21=>(Ra n m t25 t26 t27 p p1 p2 p3 p4 p5 p6 p7 r11 r21).bind (Fb K):=by
   repeat (refine funext fun _=>?_)
   exact Pl n K m _ _ _ _ _ _ _ _ _ _ _ _ _
  rw [h1,h2];exact (Tx n m _ _ _ _ _ _ _ _ _ _ _ _ _ (Fb K)).symm
theorem Cw (n:Nat):Pe tys (da OutS (Kh n)).keep (ve n) n (Fa [1,1,1,0,1,0,0] (aa Tryz.f14)) 0:=Qa (sp:=mg) (rp:=kg) (by kernel_rfl) fun K σ ρ=>Pl n K n σ.1 σ.2.1 σ.2.2.1 ρ.1.1 ρ.1.2.1 ρ.1.2.2.1 ρ.1.2.2.2.1 ρ.1.2.2.2.2.1 ρ.1.2.2.2.2.2.1 ρ.1.2.2.2.2.2.2.1 ρ.1.2.2.2.2.2.2.2.1 ρ.2.1 ρ.2.2.1
theorem Ux (n:Nat):ua tys (da OutS (Kh n)).keep (ve n) n (aa Tryz.f14) 0:=⟨trivial,⟨trivial,⟨trivial,⟨⟨trivial,⟨Cw n,⟨trivial,⟨⟨trivial,trivial⟩,⟨⟨trivial,trivial⟩,trivial⟩⟩⟩⟩⟩,⟨trivial,trivial⟩⟩⟩⟩⟩
theorem rz (n:Nat):Enters Tryz.prog 14:=enters_of (c:=aa Tryz.f14) Tryz.func14 (by kernel_rfl) (by kernel_rfl)
def Ho:List RSp:=[.one (.ptr 0 0 0),.one (.dat (.sl (.int .u8)))]
def Fo:List RS:=[.box 71 10 false [.dat .bool,.dat (.sl (.int .i64)),.dat .str,.dat .bool,.dat .str,.row 1,.dat .str,.dat .bool,.row 2,.dat .str],.row 9 1 .str true true,.row 9 1 .str true true]
def tz:List Sl:=[.ptr 0 0 0,.top]
def uz:List RSp:=[.one (.dat .str)]
def Ve:List RS:=[.box 71 10 false [.dat .bool,.dat (.sl (.int .i64)),.dat .str,.dat .bool,.dat .str,.row 1,.dat .str,.dat .bool,.row 2,.dat .str],.row 9 1 .str true true,.row 9 1 .str true true]
def Cj (y:U4):OutS:=⟨false,Kl (Yb Ve ((y.2.1,(y.2.2.1,(y.2.2.2.1,(y.2.2.2.2.1,(y.2.2.2.2.2.1,(y.2.2.2.2.2.2.1,(y.2.2.2.2.2.2.2.1,(y.2.2.2.2.2.2.2.2.1,())))))))),(y.2.2.2.2.2.2.2.2.2.1,(y.2.2.2.2.2.2.2.2.2.2.1,())))) tz (),Xu (Us (Yb Ve ((y.2.1,(y.2.2.1,(y.2.2.2.1,(y.2.2.2.2.1,(y.2.2.2.2.2.1,(y.2.2.2.2.2.2.1,(y.2.2.2.2.2.2.2.1,(y.2.2.2.2.2.2.2.2.1,())))))))),(y.2.2.2.2.2.2.2.2.2.1,(y.2.2.2.2.2.2.2.2.2.2.1,())))) uz ((y.1,()),())),ao (Yb Ve ((y.2.1,(y.2.2.1,(y.2.2.2.1,(y.2.2.2.2.1,(y.2.2.2.2.2.1,(y.2.2.2.2.2.2.1,(y.2.2.2.2.2.2.2.1,(y.2.2.2.2.2.2.2.2.1,())))))))),(y.2.2.2.2.2.2.2.2.2.1,(y.2.2.2.2.2.2.2.2.2.2.1,())))) Ve ((y.2.1,(y.2.2.1,(y.2.2.2.1,(y.2.2.2.2.1,(y.2.2.2.2.2.1,(y.2.2.2.2.2.2.1,(y.2.2.2.2.2.2.2.1,(y.2.2.2.2.2.2.2.2.1,())))))))),(y.2.2.2.2.2.2.2.2.2.1,(y.2.2.2.2.2.2.2.2.2.2.1,())))⟩
theorem gC (n:Nat):EntryOk Tryz.prog gl ⟨14,Re,none,some (csT Ho Fo (fun σ ρ=>Qc n σ.2.1.1 ρ.1.1 ρ.1.2.1 ρ.1.2.2.1 ρ.1.2.2.2.1 ρ.1.2.2.2.2.1 ρ.1.2.2.2.2.2.1 ρ.1.2.2.2.2.2.2.1 ρ.1.2.2.2.2.2.2.2.1 ρ.2.1 ρ.2.2.1) Cj)⟩:=
 Lc (rz n) fun σ ρ y h=>Xa tys_ok (jt n) mixed (hint:=ve n) (n:=n) Tryz.func14 (Na (Ux n)) (la (φ:=fun y=>some (Cj y)) (by kernel_rfl) (lE n σ.2.1.1 ρ.1.1 ρ.1.2.1 ρ.1.2.2.1 ρ.1.2.2.2.1 ρ.1.2.2.2.2.1 ρ.1.2.2.2.2.2.1 ρ.1.2.2.2.2.2.2.1 ρ.1.2.2.2.2.2.2.2.1 ρ.2.1 ρ.2.2.1 _) h)
def Hi (n:Nat):List Entry:=⟨14,Re,none,some (csT Ho Fo (fun σ ρ=>Qc n σ.2.1.1 ρ.1.1 ρ.1.2.1 ρ.1.2.2.1 ρ.1.2.2.2.1 ρ.1.2.2.2.2.1 ρ.1.2.2.2.2.2.1 ρ.1.2.2.2.2.2.2.1 ρ.1.2.2.2.2.2.2.2.1 ρ.2.1 ρ.2.2.1) Cj)⟩::Kh n
theorem Gk (n:Nat):AllOk Tryz.prog gl (Hi n):=.cons (gC n) (jt n)
def RG (n:Nat) {R:Type} (c:Int) (k:BA→Option R):Option R:=
 if (c==(13:Int))=true then
 k (⟨#[13]⟩:BA)
 else
 k (⟨#[]⟩:BA)
def vA (n:Nat) (c:Int):Option BA:=RG n c some
theorem CZ (n:Nat) {S:Type}:∀ c (φ:_→Option S),(vA n c).bind φ=RG n c φ:=by
 intros;unfold vA RG;first | (simp only [fa,ba,iB,bB,oL,oX,nB,Option.bind_some]) | rfl
def KJ (n:Nat):Hint Out:={ live:=fun c=>[],run:=fun c=>none,xm:=fun c q=>none }
theorem OS (n:Nat):ua tys (da Out (Hi n)) (KJ n) n (aa Tryz.f63) 0:=ma (fun _=>rfl) _ _ (by kernel_rfl)
theorem PU (n:Nat):Enters Tryz.prog 63:=enters_of (c:=aa Tryz.f63) Tryz.func63 (by kernel_rfl) (by kernel_rfl)
def eP (n:Nat):Entry:=⟨63,pcT (.pair (.int .u8) .unit) (.one .str) (fun xs=>vA n xs.1),none,none⟩
theorem xX (n:Nat):EntryOk Tryz.prog gl (eP n):=
 Oa (PU n) fun xs y h=>ra tys_ok (Gk n) mixed (hint:=KJ n) (n:=n) Tryz.func63 (Na (OS n)) (la (φ:=(fun y=>some (Out.ret (Kf (.one .str) y)))) (by kernel_rfl) (CZ n xs.1 _) h)
def HI (n:Nat):List Entry:=eP n::Hi n
theorem SG (n:Nat):AllOk Tryz.prog gl (HI n):=.cons (xX n) (Gk n)
def PG (n:Nat) {R:Type} (s:BA) (k:Bool→Option R):Option R:=
 if (decide ((s.size:Int)≥(2:Int)))=true then
 if 0≤(IntKind.wrap .i64 ((s.size:Int) - (2:Int)))∧(IntKind.wrap .i64 ((s.size:Int) - (2:Int)))<(s.size:Int) then
  if ((bt s (IntKind.wrap .i64 ((s.size:Int) - (2:Int))))==(13:Int))=true then
  if 0≤(IntKind.wrap .i64 ((s.size:Int) - (1:Int)))∧(IntKind.wrap .i64 ((s.size:Int) - (1:Int)))<(s.size:Int) then
   k ((bt s (IntKind.wrap .i64 ((s.size:Int) - (1:Int))))==(10:Int))
  else
   none
  else
  k false
 else
  none
 else
 k false
def uA (n:Nat) (s:BA):Option Bool:=PG n s some
theorem BZ (n:Nat) {S:Type}:∀ s (φ:_→Option S),(uA n s).bind φ=PG n s φ:=by
 intros;unfold uA PG;first | (simp only [fa,ba,iB,bB,oL,oX,nB,Option.bind_some]) | rfl
def JJ (n:Nat):Hint Out:={ live:=fun c=>[],run:=fun c=>none,xm:=fun c q=>none }
theorem NS (n:Nat):ua tys (da Out (HI n)) (JJ n) n (aa Tryz.f64) 0:=ma (fun _=>rfl) _ _ (by kernel_rfl)
theorem OU (n:Nat):Enters Tryz.prog 64:=enters_of (c:=aa Tryz.f64) Tryz.func64 (by kernel_rfl) (by kernel_rfl)
def dP (n:Nat):Entry:=⟨64,pcT (.pair .str .unit) (.one .bool) (fun xs=>uA n xs.1),none,none⟩
theorem wX (n:Nat):EntryOk Tryz.prog gl (dP n):=
 Oa (OU n) fun xs y h=>ra tys_ok (SG n) mixed (hint:=JJ n) (n:=n) Tryz.func64 (Na (NS n)) (la (φ:=(fun y=>some (Out.ret (Kf (.one .bool) y)))) (by kernel_rfl) (BZ n xs.1 _) h)
def Mv (n:Nat):List Entry:=dP n::HI n
theorem QG (n:Nat):AllOk Tryz.prog gl (Mv n):=.cons (wX n) (SG n)
def Qf (n:Nat) {R:Type} (b1:(Sq Int)) (i:Int) (f1:BA) (f2:Bool) (t4:BA) (t41:Bool) (l:(Sq U2)) (kn:(Sq Int)→Int→BA→Bool→BA→Bool→(Sq U2)→Option R) (ko:(BA×Bool×BA×Bool×(Sq U2))→Option R) (kr:Unit→Option R) (kp:Int→Option R):Option R:=
 if (decide (i<(b1.n:Int)))=true then
 if 0≤i∧i<(b1.n:Int) then
  if f2=true then
  if (f1.toList==(⟨#[13]⟩:BA).toList)=true then
   if ((b1.at' (Int.toNat i))==(10:Int))=true then
   if Ta (l.n+1) 24=true then
    kn b1 (IntKind.wrap .i64 (i+(1:Int))) (⟨#[]⟩:BA) false t4 t41 (⟨(l.n+1),fun q=>if q<l.n then l.at' q else (fun q=>List.getD (α:=U2) [((⟨#[]⟩:BA),(true,()))] q (Aa (.pair .str (.pair .bool .unit)))) (q - l.n)⟩:Sq U2)
   else
    none
   else
   (vA n (b1.at' (Int.toNat i))).bind fun v=>
   kn b1 (IntKind.wrap .i64 (i+(1:Int))) v f2 t4 t41 l
  else
   (vA n (b1.at' (Int.toNat i))).bind fun v1=>
   kn b1 (IntKind.wrap .i64 (i+(1:Int))) v1 f2 t4 t41 l
  else
  if 0≤(IntKind.wrap .i64 (i+(1:Int)))∧(IntKind.wrap .i64 (i+(1:Int)))≤(b1.n:Int) then
   if 0≤i∧i≤(IntKind.wrap .i64 (i+(1:Int))) then
   if Ca f1 (ah ((Int.toNat (IntKind.wrap .i64 (i+(1:Int)))) - (Int.toNat i)) (fun j_0=>b1.at' ((Int.toNat i)+j_0)))=true then
    (uA n (f1++(ah ((Int.toNat (IntKind.wrap .i64 (i+(1:Int)))) - (Int.toNat i)) (fun j_0=>b1.at' ((Int.toNat i)+j_0))))).bind fun v2=>
    if v2=true then
    if 0≤(IntKind.wrap .i64 (((f1++(ah ((Int.toNat (IntKind.wrap .i64 (i+(1:Int)))) - (Int.toNat i)) (fun j_0=>b1.at' ((Int.toNat i)+j_0)))).size:Int) - (2:Int)))∧(IntKind.wrap .i64 (((f1++(ah ((Int.toNat (IntKind.wrap .i64 (i+(1:Int)))) - (Int.toNat i)) (fun j_0=>b1.at' ((Int.toNat i)+j_0)))).size:Int) - (2:Int)))≤((f1++(ah ((Int.toNat (IntKind.wrap .i64 (i+(1:Int)))) - (Int.toNat i)) (fun j_0=>b1.at' ((Int.toNat i)+j_0)))).size:Int) then
     if Ta (l.n+1) 24=true then
     kn b1 (IntKind.wrap .i64 (i+(1:Int))) (⟨#[]⟩:BA) f2 t4 t41 (⟨(l.n+1),fun q=>if q<l.n then l.at' q else (fun q=>List.getD (α:=U2) [(((f1++(ah ((Int.toNat (IntKind.wrap .i64 (i+(1:Int)))) - (Int.toNat i)) (fun j_0=>b1.at' ((Int.toNat i)+j_0)))).extract (Int.toNat (0:Int)) (Int.toNat (IntKind.wrap .i64 (((f1++(ah ((Int.toNat (IntKind.wrap .i64 (i+(1:Int)))) - (Int.toNat i)) (fun j_0=>b1.at' ((Int.toNat i)+j_0)))).size:Int) - (2:Int))))),(false,()))] q (Aa (.pair .str (.pair .bool .unit)))) (q - l.n)⟩:Sq U2)
     else
     none
    else
     none
    else
    if (decide (((f1++(ah ((Int.toNat (IntKind.wrap .i64 (i+(1:Int)))) - (Int.toNat i)) (fun j_0=>b1.at' ((Int.toNat i)+j_0)))).size:Int)≥(512:Int)))=true then
     (vA n (b1.at' (Int.toNat i))).bind fun v3=>
     kn b1 (IntKind.wrap .i64 (i+(1:Int))) v3 true t4 t41 l
    else
     kn b1 (IntKind.wrap .i64 (i+(1:Int))) (f1++(ah ((Int.toNat (IntKind.wrap .i64 (i+(1:Int)))) - (Int.toNat i)) (fun j_0=>b1.at' ((Int.toNat i)+j_0)))) f2 t4 t41 l
   else
    none
   else
   none
  else
   none
 else
  none
 else
 ko (f1,f2,t4,t41,l)
def jc (n:Nat):Nat→(Sq Int)→Int→BA→Bool→BA→Bool→(Sq U2)→Option (Lx (BA×Bool×BA×Bool×(Sq U2)) Unit)
 | 0,_,_,_,_,_,_,_=>none
 | m+1,b1,i,f1,f2,t4,t41,l=>Qf n b1 i f1 f2 t4 t41 l (jc n m) (fun a=>some (.out a)) (fun a=>some (.ret a)) (fun p=>some (.pan p))
theorem KS (n m:Nat) {S:Type}:∀ b1 i f1 f2 t4 t41 l (φ:_→Option S),(jc n (m+1) b1 i f1 f2 t4 t41 l).bind φ=Qf n b1 i f1 f2 t4 t41 l (fun b1 i f1 f2 t4 t41 l=>(jc n m b1 i f1 f2 t4 t41 l).bind φ) (fun a=>φ (.out a)) (fun a=>φ (.ret a)) (fun p=>φ (.pan p)):=by
 intros;first | (simp only [jc,Qf,fa,ba,iB,bB,oL,oX,nB,Option.bind_some]) | rfl
def Qw:List Sl:=.top::.dat (.sl (.int .u8))::.ptr 0 0 0::.top::.ptr 1 0 0::.top::.row 2::.dat (.int .i64)::tp 62 []
def Pw:List RS:=[.box 45 2 true [.dat .str,.dat .bool],.box 45 2 true [.dat .str,.dat .bool],.row 60 2 (.pair .str (.pair .bool .unit)) true false]
def EI:List Sl:=.top::.top::.ptr 0 0 0::.top::.ptr 1 0 0::.top::.row 2::tp 63 []
def DI:List RS:=[.box 45 2 true [.dat .str,.dat .bool],.box 45 2 true [.dat .str,.dat .bool],.row 60 2 (.pair .str (.pair .bool .unit)) true false]
def Ph (K:XE→List AV→ia→Option Out):Lx (BA×Bool×BA×Bool×(Sq U2)) Unit→Option Out:=fun x=>onL x (fun a=>Bk EI DI () ((a.1,(a.2.1,())),((a.2.2.1,(a.2.2.2.1,())),(a.2.2.2.2,()))) (K (.exit 0))) (fun _=>none) (fun _=>none)
def LG (n:Nat) {R:Type} (f:U2) (b:(Sq Int)) (k:(U2×(Sq U2)×Unit)→Option R):Option R:=
 (jc n n b (0:Int) f.1 f.2.1 (⟨#[]⟩:BA) false (⟨0,fun _=>Aa (.pair .str (.pair .bool .unit))⟩:Sq U2)).bind fun x_1=>onL x_1
 (fun a_2=>
  k ((a_2.1,(a_2.2.1,())),(a_2.2.2.2.2,())))
 (fun _=>none)
 (fun _=>none)
def CI (n:Nat) (f:U2) (b:(Sq Int)):Option (U2×(Sq U2)×Unit):=LG n f b some
theorem zZ (n:Nat) {S:Type}:∀ f b (φ:_→Option S),(CI n f b).bind φ=LG n f b φ:=by
 intros;unfold CI LG;first | (simp only [fa,ba,iB,bB,oL,oX,nB,Option.bind_some]) | rfl
def tt (n:Nat):Hint Out:={ live:=fun c=>(cond (Nat.beq c 0) [(1,some (.sl (.int .u8))),(2,none),(4,none),(6,some (.sl (.pair .str (.pair .bool .unit)))),(7,none)] []),run:=fun c=>(cond (Nat.beq c 0) (some (Ms Qw Pw fun σ ρ K=>(jc n n σ.1 σ.2.1 ρ.1.1 ρ.1.2.1 ρ.2.1.1 ρ.2.1.2.1 ρ.2.2.1).bind (Ph K))) none),xm:=fun c q=>(cond (Nat.beq c 0&&Nat.beq (q.getD 1000000) 0&&q.isSome) (some [(2,none),(4,none),(6,some (.sl (.pair .str (.pair .bool .unit))))]) none) }
def rt (n:Nat) (K:XE→List AV→ia→Option Out) (m:Nat) (b1:(Sq Int)) (i:Int) (f1:BA) (f2:Bool) (t4:BA) (t41:Bool) (l:(Sq U2)):Option Out:=Ef tys (da Out (Mv n)) (tt n) n (Fa [1,1,0,1,0,0] (aa Tryz.f36)) 0 Qw Pw K m (b1,(i,())) ((f1,(f2,())),((t4,(t41,())),(l,())))
theorem HJ (n:Nat) (K:XE→List AV→ia→Option Out):∀ (m:Nat) b1 i f1 f2 t4 t41 l,rt n K m b1 i f1 f2 t4 t41 l=(jc n m b1 i f1 f2 t4 t41 l).bind (Ph K)
 | 0,_,_,_,_,_,_,_=>by kernel_rfl
 | m+1,b1,i,f1,f2,t4,t41,l=>by
  have h1:rt n K (m+1) b1 i f1 f2 t4 t41 l=Qf n b1 i f1 f2 t4 t41 l (rt n K m) (fun a=>Ph K (.out a)) (fun a=>Ph K (.ret a)) (fun p=>Ph K (.pan p)):=by kernel_rfl
  have h2:rt n K m=fun b1 i f1 f2 t4 t41 l=>(jc n m b1 i f1 f2 t4 t41 l).bind (Ph K):=by
   repeat (refine funext fun _=>?_)
   exact HJ n K m _ _ _ _ _ _ _
  rw [h1,h2];exact (KS n m _ _ _ _ _ _ _ (Ph K)).symm
theorem wQ (n:Nat):Pe tys (da Out (Mv n)) (tt n) n (Fa [1,1,0,1,0,0] (aa Tryz.f36)) 0:=Qa (sp:=Qw) (rp:=Pw) (by kernel_rfl) fun K σ ρ=>HJ n K n σ.1 σ.2.1 ρ.1.1 ρ.1.2.1 ρ.2.1.1 ρ.2.1.2.1 ρ.2.2.1
theorem LS (n:Nat):ua tys (da Out (Mv n)) (tt n) n (aa Tryz.f36) 0:=⟨trivial,⟨trivial,⟨⟨trivial,⟨wQ n,⟨⟨trivial,⟨trivial,trivial⟩⟩,⟨⟨trivial,⟨⟨trivial,⟨⟨⟨trivial,⟨⟨trivial,trivial⟩,trivial⟩⟩,trivial⟩,trivial⟩⟩,⟨trivial,⟨trivial,⟨⟨trivial,trivial⟩,⟨trivial,⟨trivial,trivial⟩⟩⟩⟩⟩⟩⟩,trivial⟩⟩⟩⟩,⟨trivial,trivial⟩⟩⟩⟩
theorem MU (n:Nat):Enters Tryz.prog 36:=enters_of (c:=aa Tryz.f36) Tryz.func36 (by kernel_rfl) (by kernel_rfl)
def aP (n:Nat):Entry:=⟨36,pcT K1 (.many K0) (fun xs=>CI n xs.1 xs.2.1),none,none⟩
theorem uX (n:Nat):EntryOk Tryz.prog gl (aP n):=
 Oa (MU n) fun xs y h=>ra tys_ok (QG n) mixed (hint:=tt n) (n:=n) Tryz.func36 (Na (LS n)) (la (φ:=(fun y=>some (Out.ret (Kf (.many K0) y)))) (by kernel_rfl) (zZ n xs.1 xs.2.1 _) h)
def Lv (n:Nat):List Entry:=aP n::Mv n
theorem MG (n:Nat):AllOk Tryz.prog gl (Lv n):=.cons (uX n) (QG n)
def WK (n:Nat) {R:Type} (l1:(Sq Int)) (n01 i:Int) (kn:(Sq Int)→Int→Int→Option R) (ko:(Unit)→Option R) (kr:(Int)→Option R) (kp:Int→Option R):Option R:=
 if (decide (i<(l1.n:Int)))=true then
 if 0≤i∧i<(l1.n:Int) then
  if ((l1.at' (Int.toNat i))==n01)=true then
  kr i
  else
  kn l1 n01 (IntKind.wrap .i64 (i+(1:Int)))
 else
  none
 else
 ko ()
def nt (n:Nat):Nat→(Sq Int)→Int→Int→Option (Lx (Unit) (Int))
 | 0,_,_,_=>none
 | m+1,l1,n01,i=>WK n l1 n01 i (nt n m) (fun a=>some (.out a)) (fun a=>some (.ret a)) (fun p=>some (.pan p))
theorem nX (n m:Nat) {S:Type}:∀ l1 n01 i (φ:_→Option S),(nt n (m+1) l1 n01 i).bind φ=WK n l1 n01 i (fun l1 n01 i=>(nt n m l1 n01 i).bind φ) (fun a=>φ (.out a)) (fun a=>φ (.ret a)) (fun p=>φ (.pan p)):=by
 intros;first | (simp only [nt,WK,fa,ba,iB,bB,oL,oX,nB,Option.bind_some]) | rfl
def GE:List Sl:=.dat (.sl (.int .i64))::.dat (.int .i64)::.top::.top::.top::.dat (.int .i64)::tp 13 []
def FE:List RS:=[]
def lM:List Sl:=tp 19 []
def kM:List RS:=[]
def nM:List Sl:=tp 4 (.dat (.int .i64)::tp 14 [])
def mM:List RS:=[]
def um (K:XE→List AV→ia→Option Out):Lx (Unit) (Int)→Option Out:=fun x=>onL x (fun a=>Bk lM kM () () (K (.exit 0))) (fun a=>Bk nM mM (a,()) () (K .ret)) (fun _=>none)
def GU (n:Nat) {R:Type} (l:(Sq Int)) (n0:Int) (k:Int→Option R):Option R:=
 (nt n n l n0 (0:Int)).bind fun x_1=>onL x_1
 (fun a_2=>
  k (-1:Int))
 (fun a_3=>
  k a_3)
 (fun _=>none)
def B2 (n:Nat) (l:(Sq Int)) (n0:Int):Option Int:=GU n l n0 some
theorem S5 (n:Nat) {S:Type}:∀ l n0 (φ:_→Option S),(B2 n l n0).bind φ=GU n l n0 φ:=by
 intros;unfold B2 GU;first | (simp only [fa,ba,iB,bB,oL,oX,nB,Option.bind_some]) | rfl
def AB (n:Nat):Hint Out:={ live:=fun c=>(cond (Nat.beq c 0) [(0,some (.sl (.int .i64))),(1,none),(5,none)] []),run:=fun c=>(cond (Nat.beq c 0) (some (Ms GE FE fun σ ρ K=>(nt n n σ.1 σ.2.1 σ.2.2.1).bind (um K))) none),xm:=fun c q=>(cond (Nat.beq c 0&&Nat.beq (q.getD 1000000) 0&&q.isSome) (some []) (cond (Nat.beq c 1&&q.isNone) (some [(4,none)]) none)) }
def zB (n:Nat) (K:XE→List AV→ia→Option Out) (m:Nat) (l1:(Sq Int)) (n01:Int) (i:Int):Option Out:=Ef tys (da Out (Lv n)) (AB n) n (Fa [1,0,1,0,0] (aa Tryz.f98)) 0 GE FE K m (l1,(n01,(i,()))) ()
theorem ZO (n:Nat) (K:XE→List AV→ia→Option Out):∀ (m:Nat) l1 n01 i,zB n K m l1 n01 i=(nt n m l1 n01 i).bind (um K)
 | 0,_,_,_=>by kernel_rfl
 | m+1,l1,n01,i=>by
  have h1:zB n K (m+1) l1 n01 i=WK n l1 n01 i (zB n K m) (fun a=>um K (.out a)) (fun a=>um K (.ret a)) (fun p=>um K (.pan p)):=by kernel_rfl
  have h2:zB n K m=fun l1 n01 i=>(nt n m l1 n01 i).bind (um K):=by
   repeat (refine funext fun _=>?_)
   exact ZO n K m _ _ _
  rw [h1,h2];exact (nX n m _ _ _ (um K)).symm
theorem HU (n:Nat):Pe tys (da Out (Lv n)) (AB n) n (Fa [1,0,1,0,0] (aa Tryz.f98)) 0:=Qa (sp:=GE) (rp:=FE) (by kernel_rfl) fun K σ ρ=>ZO n K n σ.1 σ.2.1 σ.2.2.1
theorem pX (n:Nat):ua tys (da Out (Lv n)) (AB n) n (aa Tryz.f98) 0:=⟨trivial,⟨⟨trivial,⟨HU n,⟨⟨trivial,⟨trivial,trivial⟩⟩,⟨⟨trivial,⟨⟨trivial,trivial⟩,trivial⟩⟩,trivial⟩⟩⟩⟩,⟨trivial,trivial⟩⟩⟩
theorem yZ (n:Nat):Enters Tryz.prog 98:=enters_of (c:=aa Tryz.f98) Tryz.func98 (by kernel_rfl) (by kernel_rfl)
def yW (n:Nat):Entry:=⟨98,pcT (.pair (.sl (.int .i64)) (.pair (.int .i64) .unit)) (.one (.int .i64)) (fun xs=>B2 n xs.1 xs.2.1),none,none⟩
theorem C2 (n:Nat):EntryOk Tryz.prog gl (yW n):=
 Oa (yZ n) fun xs y h=>ra tys_ok (MG n) mixed (hint:=AB n) (n:=n) Tryz.func98 (Na (pX n)) (la (φ:=(fun y=>some (Out.ret (Kf (.one (.int .i64)) y)))) (by kernel_rfl) (S5 n xs.1 xs.2.1 _) h)
def uG (n:Nat):List Entry:=yW n::Lv n
theorem oM (n:Nat):AllOk Tryz.prog gl (uG n):=.cons (C2 n) (MG n)
def Sp (n:Nat) {R:Type} (n01:Int) (s:BA) (kn:Int→BA→Option R) (ko:(Int×BA)→Option R) (kr:Unit→Option R) (kp:Int→Option R):Option R:=
 if (decide (n01≥(10:Int)))=true then
 if Ca (ah 1 (fun q=>List.getD (α:=Int) [(IntKind.wrap .u8 (IntKind.wrap .i64 ((48:Int)+(Int.tmod n01 (10:Int)))))] q (Aa (.int .u8)))) s=true then
  kn (IntKind.wrap .i64 (Int.tdiv n01 (10:Int))) ((ah 1 (fun q=>List.getD (α:=Int) [(IntKind.wrap .u8 (IntKind.wrap .i64 ((48:Int)+(Int.tmod n01 (10:Int)))))] q (Aa (.int .u8))))++s)
 else
  none
 else
 ko (n01,s)
def jf (n:Nat):Nat→Int→BA→Option (Lx (Int×BA) Unit)
 | 0,_,_=>none
 | m+1,n01,s=>Sp n n01 s (jf n m) (fun a=>some (.out a)) (fun a=>some (.ret a)) (fun p=>some (.pan p))
theorem eM (n m:Nat) {S:Type}:∀ n01 s (φ:_→Option S),(jf n (m+1) n01 s).bind φ=Sp n n01 s (fun n01 s=>(jf n m n01 s).bind φ) (fun a=>φ (.out a)) (fun a=>φ (.ret a)) (fun p=>φ (.pan p)):=by
 intros;first | (simp only [jf,Sp,fa,ba,iB,bB,oL,oX,nB,Option.bind_some]) | rfl
def mo:List Sl:=.dat (.int .i64)::.top::.top::.dat .str::tp 25 []
def io:List RS:=[]
def GC:List Sl:=.dat (.int .i64)::.top::.top::.dat .str::tp 25 []
def FC:List RS:=[]
def ge (K:XE→List AV→ia→Option Out):Lx (Int×BA) Unit→Option Out:=fun x=>onL x (fun a=>Bk GC FC (a.1,(a.2,())) () (K (.exit 0))) (fun _=>none) (fun _=>none)
def qA (n:Nat) {R:Type} (n0:Int) (k:BA→Option R):Option R:=
 if (decide (n0<(0:Int)))=true then
 none
 else
 (jf n n n0 (⟨#[]⟩:BA)).bind fun x_1=>onL x_1
  (fun a_2=>
  if Ca (ah 1 (fun q=>List.getD (α:=Int) [(IntKind.wrap .u8 (IntKind.wrap .i64 ((48:Int)+a_2.1)))] q (Aa (.int .u8)))) a_2.2=true then
   k ((ah 1 (fun q=>List.getD (α:=Int) [(IntKind.wrap .u8 (IntKind.wrap .i64 ((48:Int)+a_2.1)))] q (Aa (.int .u8))))++a_2.2)
  else
   none)
  (fun _=>none)
  (fun _=>none)
def Jv (n:Nat) (n0:Int):Option BA:=qA n n0 some
theorem ES (n:Nat) {S:Type}:∀ n0 (φ:_→Option S),(Jv n n0).bind φ=qA n n0 φ:=by
 intros;unfold Jv qA;first | (simp only [fa,ba,iB,bB,oL,oX,nB,Option.bind_some]) | rfl
def ol (n:Nat):Hint Out:={ live:=fun c=>(cond (Nat.beq c 0) [(0,none),(3,none)] []),run:=fun c=>(cond (Nat.beq c 0) (some (Ms mo io fun σ ρ K=>(jf n n σ.1 σ.2.1).bind (ge K))) none),xm:=fun c q=>(cond (Nat.beq c 0&&Nat.beq (q.getD 1000000) 0&&q.isSome) (some [(0,none),(3,none)]) none) }
def ml (n:Nat) (K:XE→List AV→ia→Option Out) (m:Nat) (n01:Int) (s:BA):Option Out:=Ef tys (da Out (uG n)) (ol n) n (Fa [1,1,1,0,0,0] (aa Tryz.f121)) 0 mo io K m (n01,(s,())) ()
theorem rA (n:Nat) (K:XE→List AV→ia→Option Out):∀ (m:Nat) n01 s,ml n K m n01 s=(jf n m n01 s).bind (ge K)
 | 0,_,_=>by kernel_rfl
 | m+1,n01,s=>by
  have h1:ml n K (m+1) n01 s=Sp n n01 s (ml n K m) (fun a=>ge K (.out a)) (fun a=>ge K (.ret a)) (fun p=>ge K (.pan p)):=by kernel_rfl
  have h2:ml n K m=fun n01 s=>(jf n m n01 s).bind (ge K):=by
   repeat (refine funext fun _=>?_)
   exact rA n K m _ _
  rw [h1,h2];exact (eM n m _ _ (ge K)).symm
theorem pK (n:Nat):Pe tys (da Out (uG n)) (ol n) n (Fa [1,1,1,0,0,0] (aa Tryz.f121)) 0:=Qa (sp:=mo) (rp:=io) (by kernel_rfl) fun K σ ρ=>rA n K n σ.1 σ.2.1
theorem fM (n:Nat):ua tys (da Out (uG n)) (ol n) n (aa Tryz.f121) 0:=⟨trivial,⟨⟨trivial,⟨⟨trivial,trivial⟩,trivial⟩⟩,⟨trivial,⟨⟨pK n,⟨⟨trivial,⟨trivial,trivial⟩⟩,⟨trivial,trivial⟩⟩⟩,⟨trivial,trivial⟩⟩⟩⟩⟩
theorem WN (n:Nat):Enters Tryz.prog 121:=enters_of (c:=aa Tryz.f121) Tryz.func121 (by kernel_rfl) (by kernel_rfl)
def rG (n:Nat):Entry:=⟨121,pcT (.pair (.int .i64) .unit) (.one .str) (fun xs=>Jv n xs.1),none,none⟩
theorem mQ (n:Nat):EntryOk Tryz.prog gl (rG n):=
 Oa (WN n) fun xs y h=>ra tys_ok (oM n) mixed (hint:=ol n) (n:=n) Tryz.func121 (Na (fM n)) (la (φ:=(fun y=>some (Out.ret (Kf (.one .str) y)))) (by kernel_rfl) (ES n xs.1 _) h)
def nl (n:Nat):List Entry:=rG n::uG n
theorem Dx (n:Nat):AllOk Tryz.prog gl (nl n):=.cons (mQ n) (oM n)
def Ow (n:Nat) {R:Type} (s:BA) (i r1:Int) (r2:(Sq BA)) (kn:BA→Int→Int→(Sq BA)→Option R) (ko:(BA)→Option R) (kr:Unit→Option R) (kp:Int→Option R):Option R:=
 if (decide (i<(r2.n:Int)))=true then
 if (i==(IntKind.wrap .i64 ((r2.n:Int) - (1:Int))))=true then
  (Jv n r1).bind fun v=>
  if Ca s v=true then
  if Ca (s++v) (⟨#[32]⟩:BA)=true then
   if 0≤i∧i<(r2.n:Int) then
   if Ca ((s++v)++(⟨#[32]⟩:BA)) (r2.at' (Int.toNat i))=true then
    if Ca (((s++v)++(⟨#[32]⟩:BA))++(r2.at' (Int.toNat i))) (⟨#[13,10]⟩:BA)=true then
    kn ((((s++v)++(⟨#[32]⟩:BA))++(r2.at' (Int.toNat i)))++(⟨#[13,10]⟩:BA)) (IntKind.wrap .i64 (i+(1:Int))) r1 r2
    else
    none
   else
    none
   else
   none
  else
   none
  else
  none
 else
  (Jv n r1).bind fun v1=>
  if Ca s v1=true then
  if Ca (s++v1) (⟨#[45]⟩:BA)=true then
   if 0≤i∧i<(r2.n:Int) then
   if Ca ((s++v1)++(⟨#[45]⟩:BA)) (r2.at' (Int.toNat i))=true then
    if Ca (((s++v1)++(⟨#[45]⟩:BA))++(r2.at' (Int.toNat i))) (⟨#[13,10]⟩:BA)=true then
    kn ((((s++v1)++(⟨#[45]⟩:BA))++(r2.at' (Int.toNat i)))++(⟨#[13,10]⟩:BA)) (IntKind.wrap .i64 (i+(1:Int))) r1 r2
    else
    none
   else
    none
   else
   none
  else
   none
  else
  none
 else
 ko s
def Oh (n:Nat):Nat→BA→Int→Int→(Sq BA)→Option (Lx (BA) Unit)
 | 0,_,_,_,_=>none
 | m+1,s,i,r1,r2=>Ow n s i r1 r2 (Oh n m) (fun a=>some (.out a)) (fun a=>some (.ret a)) (fun p=>some (.pan p))
theorem uQ (n m:Nat) {S:Type}:∀ s i r1 r2 (φ:_→Option S),(Oh n (m+1) s i r1 r2).bind φ=Ow n s i r1 r2 (fun s i r1 r2=>(Oh n m s i r1 r2).bind φ) (fun a=>φ (.out a)) (fun a=>φ (.ret a)) (fun p=>φ (.pan p)):=by
 intros;first | (simp only [Oh,Ow,fa,ba,iB,bB,oL,oX,nB,Option.bind_some]) | rfl
def Cu:List Sl:=.top::.ptr 0 0 0::.top::.dat .str::.dat (.int .i64)::tp 29 []
def Bu:List RS:=[.box 94 2 true [.dat (.int .i64),.dat (.sl .str)]]
def KG:List Sl:=.top::.top::.top::.dat .str::tp 30 []
def JG:List RS:=[]
def Bg (K:XE→List AV→ia→Option Out):Lx (BA) Unit→Option Out:=fun x=>onL x (fun a=>Bk KG JG (a,()) () (K (.exit 0))) (fun _=>none) (fun _=>none)
def BI (n:Nat) {R:Type} (r:U17) (k:BA→Option R):Option R:=
 (Oh n n (⟨#[]⟩:BA) (0:Int) r.1 r.2.1).bind fun x_1=>onL x_1
 (fun a_2=>
  k a_2)
 (fun _=>none)
 (fun _=>none)
def HG (n:Nat) (r:U17):Option BA:=BI n r some
theorem tX (n:Nat) {S:Type}:∀ r (φ:_→Option S),(HG n r).bind φ=BI n r φ:=by
 intros;unfold HG BI;first | (simp only [fa,ba,iB,bB,oL,oX,nB,Option.bind_some]) | rfl
def aq (n:Nat):Hint Out:={ live:=fun c=>(cond (Nat.beq c 0) (lv [1,3,4]) []),run:=fun c=>(cond (Nat.beq c 0) (some (Ms Cu Bu fun σ ρ K=>(Oh n n σ.1 σ.2.1 ρ.1.1 ρ.1.2.1).bind (Bg K))) none),xm:=fun c q=>(cond (Nat.beq c 0&&Nat.beq (q.getD 1000000) 0&&q.isSome) (some [(3,none)]) none) }
def Zp (n:Nat) (K:XE→List AV→ia→Option Out) (m:Nat) (s:BA) (i:Int) (r1:Int) (r2:(Sq BA)):Option Out:=Ef tys (da Out (nl n)) (aq n) n (Fa [1,1,0,1,0,0] (aa Tryz.f99)) 0 Cu Bu K m (s,(i,())) ((r1,(r2,())),())
theorem IG (n:Nat) (K:XE→List AV→ia→Option Out):∀ (m:Nat) s i r1 r2,Zp n K m s i r1 r2=(Oh n m s i r1 r2).bind (Bg K)
 | 0,_,_,_,_=>by kernel_rfl
 | m+1,s,i,r1,r2=>by
  have h1:Zp n K (m+1) s i r1 r2=Ow n s i r1 r2 (Zp n K m) (fun a=>Bg K (.out a)) (fun a=>Bg K (.ret a)) (fun p=>Bg K (.pan p)):=by kernel_rfl
  have h2:Zp n K m=fun s i r1 r2=>(Oh n m s i r1 r2).bind (Bg K):=by
   repeat (refine funext fun _=>?_)
   exact IG n K m _ _ _ _
  rw [h1,h2];exact (uQ n m _ _ _ _ (Bg K)).symm
theorem cO (n:Nat):Pe tys (da Out (nl n)) (aq n) n (Fa [1,1,0,1,0,0] (aa Tryz.f99)) 0:=Qa (sp:=Cu) (rp:=Bu) (by kernel_rfl) fun K σ ρ=>IG n K n σ.1 σ.2.1 ρ.1.1 ρ.1.2.1
theorem vQ (n:Nat):ua tys (da Out (nl n)) (aq n) n (aa Tryz.f99) 0:=⟨trivial,⟨trivial,⟨⟨trivial,⟨cO n,⟨⟨trivial,⟨trivial,trivial⟩⟩,⟨⟨trivial,⟨⟨trivial,⟨trivial,trivial⟩⟩,trivial⟩⟩,trivial⟩⟩⟩⟩,⟨trivial,trivial⟩⟩⟩⟩
theorem JS (n:Nat):Enters Tryz.prog 99:=enters_of (c:=aa Tryz.f99) Tryz.func99 (by kernel_rfl) (by kernel_rfl)
def sM (n:Nat):Entry:=⟨99,pcT (.pair (.pair (.int .i64) (.pair (.sl .str) .unit)) .unit) (.one .str) (fun xs=>HG n xs.1),none,none⟩
theorem LU (n:Nat):EntryOk Tryz.prog gl (sM n):=
 Oa (JS n) fun xs y h=>ra tys_ok (Dx n) mixed (hint:=aq n) (n:=n) Tryz.func99 (Na (vQ n)) (la (φ:=(fun y=>some (Out.ret (Kf (.one .str) y)))) (by kernel_rfl) (tX n xs.1 _) h)
def JE (n:Nat):List Entry:=sM n::nl n
theorem uD (n:Nat):AllOk Tryz.prog gl (JE n):=.cons (LU n) (Dx n)
def sm (n:Nat) {R:Type} (code:Int) (k:BA→Option R):Option R:=
 (B2 n (⟨6,fun q=>List.getD (α:=Int) [(220:Int),(250:Int),(354:Int),(221:Int),(500:Int),(503:Int)] q (Aa (.int .i64))⟩:Sq Int) code).bind fun v=>
 if (decide (v≥(0:Int)))=true then
 if 0≤v∧v<(6:Int) then
  (HG n (code,((⟨1,fun q=>List.getD (α:=BA) [((fun q=>List.getD (α:=BA) [(⟨#[104,101,114,101]⟩:BA),(⟨#[111,107]⟩:BA),(⟨#[103,111,32,111,110]⟩:BA),(⟨#[98,121,101]⟩:BA),(⟨#[119,104,97,116,63]⟩:BA),(⟨#[110,111,116,32,121,101,116]⟩:BA)] q (Aa .str)) (Int.toNat v))] q (Aa .str)⟩:Sq BA),()))).bind fun v1=>
  k v1
 else
  none
 else
 (HG n (code,((⟨1,fun q=>List.getD (α:=BA) [(⟨#[110,111]⟩:BA)] q (Aa .str)⟩:Sq BA),()))).bind fun v2=>
 k v2
def oa (n:Nat) (code:Int):Option BA:=sm n code some
theorem vI (n:Nat) {S:Type}:∀ code (φ:_→Option S),(oa n code).bind φ=sm n code φ:=by
 intros;unfold oa sm;first | (simp only [fa,ba,iB,bB,oL,oX,nB,Option.bind_some]) | rfl
def dp (n:Nat):Hint Out:={ live:=fun c=>[],run:=fun c=>none,xm:=fun c q=>none }
theorem CC (n:Nat):ua tys (da Out (JE n)) (dp n) n (aa Tryz.f65) 0:=ma (fun _=>rfl) _ _ (by kernel_rfl)
theorem AE (n:Nat):Enters Tryz.prog 65:=enters_of (c:=aa Tryz.f65) Tryz.func65 (by kernel_rfl) (by kernel_rfl)
def ft (n:Nat):Entry:=⟨65,pcT (.pair (.int .i64) .unit) (.one .str) (fun xs=>oa n xs.1),none,none⟩
theorem nG (n:Nat):EntryOk Tryz.prog gl (ft n):=
 Oa (AE n) fun xs y h=>ra tys_ok (uD n) mixed (hint:=dp n) (n:=n) Tryz.func65 (Na (CC n)) (la (φ:=(fun y=>some (Out.ret (Kf (.one .str) y)))) (by kernel_rfl) (vI n xs.1 _) h)
def el (n:Nat):List Entry:=ft n::JE n
theorem Rn (n:Nat):AllOk Tryz.prog gl (el n):=.cons (nG n) (uD n)
def NG (n:Nat) {R:Type} (line:BA) (k:(BA×Bool×Unit)→Option R):Option R:=
 if (line.toList==(⟨#[46]⟩:BA).toList)=true then
 k ((⟨#[]⟩:BA),(true,()))
 else
 if (decide ((line.size:Int)>(0:Int)))=true then
  if 0≤(0:Int)∧(0:Int)<(line.size:Int) then
  if ((bt line (0:Int))==(46:Int))=true then
   if 0≤(1:Int)∧(1:Int)≤(line.size:Int) then
   k ((line.extract (Int.toNat (1:Int)) (Int.toNat (line.size:Int))),(false,()))
   else
   none
  else
   k (line,(false,()))
  else
  none
 else
  k (line,(false,()))
def FI (n:Nat) (line:BA):Option (BA×Bool×Unit):=NG n line some
theorem AZ (n:Nat) {S:Type}:∀ line (φ:_→Option S),(FI n line).bind φ=NG n line φ:=by
 intros;unfold FI NG;first | (simp only [fa,ba,iB,bB,oL,oX,nB,Option.bind_some]) | rfl
def IJ (n:Nat):Hint Out:={ live:=fun c=>[],run:=fun c=>none,xm:=fun c q=>none }
theorem MS (n:Nat):ua tys (da Out (el n)) (IJ n) n (aa Tryz.f66) 0:=ma (fun _=>rfl) _ _ (by kernel_rfl)
theorem NU (n:Nat):Enters Tryz.prog 66:=enters_of (c:=aa Tryz.f66) Tryz.func66 (by kernel_rfl) (by kernel_rfl)
def cP (n:Nat):Entry:=⟨66,pcT (.pair .str .unit) (.many (.pair .str (.pair .bool .unit))) (fun xs=>FI n xs.1),none,none⟩
theorem vX (n:Nat):EntryOk Tryz.prog gl (cP n):=
 Oa (NU n) fun xs y h=>ra tys_ok (Rn n) mixed (hint:=IJ n) (n:=n) Tryz.func66 (Na (MS n)) (la (φ:=(fun y=>some (Out.ret (Kf (.many (.pair .str (.pair .bool .unit))) y)))) (by kernel_rfl) (AZ n xs.1 _) h)
def GI (n:Nat):List Entry:=cP n::el n
theorem OG (n:Nat):AllOk Tryz.prog gl (GI n):=.cons (vX n) (Rn n)
def od (n:Nat) {R:Type} (b0:Bool) (b01:(Sq Int)) (b02:Int) (b03:BA) (b04:Bool) (b05:BA) (b06:Bool) (b07:BA) (r1:(Sq U1)) (r2:(Sq BA)) (k:U14→Option R):Option R:=
 if (decide (b02<(b01.n:Int)))=true then
 if 0≤b02∧b02<(b01.n:Int) then
  if (decide ((b01.at' (Int.toNat b02))≥(400:Int)))=true then
  if 0≤b02∧b02<(b01.n:Int) then
   if (decide ((b01.at' (Int.toNat b02))≤(599:Int)))=true then
   if 0≤b02∧b02<(b01.n:Int) then
    k ((b01.at' (Int.toNat b02)),(b0,(b01,((IntKind.wrap .i64 (b02+(1:Int))),(b03,(b04,(b05,(b06,(b07,(r1,(r2,())))))))))))
   else
    none
   else
   k ((250:Int),(b0,(b01,((IntKind.wrap .i64 (b02+(1:Int))),(b03,(b04,(b05,(b06,(b07,(r1,(r2,())))))))))))
  else
   none
  else
  k ((250:Int),(b0,(b01,((IntKind.wrap .i64 (b02+(1:Int))),(b03,(b04,(b05,(b06,(b07,(r1,(r2,())))))))))))
 else
  none
 else
 k ((250:Int),(b0,(b01,((IntKind.wrap .i64 (b02+(1:Int))),(b03,(b04,(b05,(b06,(b07,(r1,(r2,())))))))))))
def Ha (n:Nat) (b0:Bool) (b01:(Sq Int)) (b02:Int) (b03:BA) (b04:Bool) (b05:BA) (b06:Bool) (b07:BA) (r1:(Sq U1)) (r2:(Sq BA)):Option U14:=od n b0 b01 b02 b03 b04 b05 b06 b07 r1 r2 some
theorem ru (n:Nat) {S:Type}:∀ b0 b01 b02 b03 b04 b05 b06 b07 r1 r2 (φ:_→Option S),(Ha n b0 b01 b02 b03 b04 b05 b06 b07 r1 r2).bind φ=od n b0 b01 b02 b03 b04 b05 b06 b07 r1 r2 φ:=by
 intros;unfold Ha od;first | (simp only [fa,ba,iB,bB,oL,oX,nB,Option.bind_some]) | rfl
def th (n:Nat):Hint OutS:={ live:=fun c=>[],run:=fun c=>none,xm:=fun c q=>none,nb:=[(74,1,.frz (.int .i64)),(74,6,.prm 47),(74,9,.prm 9)] }
theorem Np (n:Nat):ua tys (da OutS (GI n)).keep (th n) n (aa Tryz.f70) 0:=ma (fun _=>rfl) _ _ (by kernel_rfl)
theorem tr (n:Nat):Enters Tryz.prog 70:=enters_of (c:=aa Tryz.f70) Tryz.func70 (by kernel_rfl) (by kernel_rfl)
def yi:List RSp:=[.one (.ptr 0 0 0)]
def xi:List RS:=[.box 74 10 false [.dat .bool,.dat (.sl (.int .i64)),.dat (.int .i64),.dat .str,.dat .bool,.dat .str,.row 1,.dat .bool,.dat .str,.row 2],.row 47 2 (.pair .str (.pair .str .unit)) true true,.row 9 1 .str true true]
def ur:List Sl:=[.ptr 0 0 0]
def vr:List RSp:=[.one (.dat (.int .i64))]
def zc:List RS:=[.box 74 10 false [.dat .bool,.dat (.sl (.int .i64)),.dat (.int .i64),.dat .str,.dat .bool,.dat .str,.row 1,.dat .bool,.dat .str,.row 2],.row 47 2 (.pair .str (.pair .str .unit)) true true,.row 9 1 .str true true]
def xf (y:U14):OutS:=⟨false,Kl (Yb zc ((y.2.1,(y.2.2.1,(y.2.2.2.1,(y.2.2.2.2.1,(y.2.2.2.2.2.1,(y.2.2.2.2.2.2.1,(y.2.2.2.2.2.2.2.1,(y.2.2.2.2.2.2.2.2.1,())))))))),(y.2.2.2.2.2.2.2.2.2.1,(y.2.2.2.2.2.2.2.2.2.2.1,())))) ur (),Xu (Us (Yb zc ((y.2.1,(y.2.2.1,(y.2.2.2.1,(y.2.2.2.2.1,(y.2.2.2.2.2.1,(y.2.2.2.2.2.2.1,(y.2.2.2.2.2.2.2.1,(y.2.2.2.2.2.2.2.2.1,())))))))),(y.2.2.2.2.2.2.2.2.2.1,(y.2.2.2.2.2.2.2.2.2.2.1,())))) vr ((y.1,()),())),ao (Yb zc ((y.2.1,(y.2.2.1,(y.2.2.2.1,(y.2.2.2.2.1,(y.2.2.2.2.2.1,(y.2.2.2.2.2.2.1,(y.2.2.2.2.2.2.2.1,(y.2.2.2.2.2.2.2.2.1,())))))))),(y.2.2.2.2.2.2.2.2.2.1,(y.2.2.2.2.2.2.2.2.2.2.1,())))) zc ((y.2.1,(y.2.2.1,(y.2.2.2.1,(y.2.2.2.2.1,(y.2.2.2.2.2.1,(y.2.2.2.2.2.2.1,(y.2.2.2.2.2.2.2.1,(y.2.2.2.2.2.2.2.2.1,())))))))),(y.2.2.2.2.2.2.2.2.2.1,(y.2.2.2.2.2.2.2.2.2.2.1,())))⟩
theorem Js (n:Nat):EntryOk Tryz.prog gl ⟨70,Re,none,some (csT yi xi (fun σ ρ=>Ha n ρ.1.1 ρ.1.2.1 ρ.1.2.2.1 ρ.1.2.2.2.1 ρ.1.2.2.2.2.1 ρ.1.2.2.2.2.2.1 ρ.1.2.2.2.2.2.2.1 ρ.1.2.2.2.2.2.2.2.1 ρ.2.1 ρ.2.2.1) xf)⟩:=
 Lc (tr n) fun σ ρ y h=>Xa tys_ok (OG n) mixed (hint:=th n) (n:=n) Tryz.func70 (Na (Np n)) (la (φ:=fun y=>some (xf y)) (by kernel_rfl) (ru n ρ.1.1 ρ.1.2.1 ρ.1.2.2.1 ρ.1.2.2.2.1 ρ.1.2.2.2.2.1 ρ.1.2.2.2.2.2.1 ρ.1.2.2.2.2.2.2.1 ρ.1.2.2.2.2.2.2.2.1 ρ.2.1 ρ.2.2.1 _) h)
def Ke (n:Nat):List Entry:=⟨70,Re,none,some (csT yi xi (fun σ ρ=>Ha n ρ.1.1 ρ.1.2.1 ρ.1.2.2.1 ρ.1.2.2.2.1 ρ.1.2.2.2.2.1 ρ.1.2.2.2.2.2.1 ρ.1.2.2.2.2.2.2.1 ρ.1.2.2.2.2.2.2.2.1 ρ.2.1 ρ.2.2.1) xf)⟩::GI n
theorem Wg (n:Nat):AllOk Tryz.prog gl (Ke n):=.cons (Js n) (OG n)
def aH (n:Nat) {R:Type} (m0:U1) (k:BA→Option R):Option R:=
 if Ca m0.1 (⟨#[64]⟩:BA)=true then
 if Ca (m0.1++(⟨#[64]⟩:BA)) m0.2.1=true then
  k ((m0.1++(⟨#[64]⟩:BA))++m0.2.1)
 else
  none
 else
 none
def Nr (n:Nat) (m0:U1):Option BA:=aH n m0 some
theorem FZ (n:Nat) {S:Type}:∀ m0 (φ:_→Option S),(Nr n m0).bind φ=aH n m0 φ:=by
 intros;unfold Nr aH;first | (simp only [fa,ba,iB,bB,oL,oX,nB,Option.bind_some]) | rfl
def OJ (n:Nat):Hint Out:={ live:=fun c=>[],run:=fun c=>none,xm:=fun c q=>none }
theorem XS (n:Nat):ua tys (da Out (Ke n)) (OJ n) n (aa Tryz.f100) 0:=ma (fun _=>rfl) _ _ (by kernel_rfl)
theorem VU (n:Nat):Enters Tryz.prog 100:=enters_of (c:=aa Tryz.f100) Tryz.func100 (by kernel_rfl) (by kernel_rfl)
def gP (n:Nat):Entry:=⟨100,pcT (.pair (.pair .str (.pair .str .unit)) .unit) (.one .str) (fun xs=>Nr n xs.1),none,none⟩
theorem CX (n:Nat):EntryOk Tryz.prog gl (gP n):=
 Oa (VU n) fun xs y h=>ra tys_ok (Wg n) mixed (hint:=OJ n) (n:=n) Tryz.func100 (Na (XS n)) (la (φ:=(fun y=>some (Out.ret (Kf (.one .str) y)))) (by kernel_rfl) (FZ n xs.1 _) h)
def JI (n:Nat):List Entry:=gP n::Ke n
theorem bH (n:Nat):AllOk Tryz.prog gl (JI n):=.cons (CX n) (Wg n)
def uf (n:Nat) {R:Type} (b0:Bool) (b01:(Sq Int)) (b02:Int) (b03:BA) (b04:Bool) (b05:BA) (b06:Bool) (b07:BA) (r1:(Sq U1)) (r2:(Sq BA)) (k:U5→Option R):Option R:=
 k (b0,(b01,(b02,(b03,(b04,((⟨#[]⟩:BA),(false,((⟨#[]⟩:BA),((⟨0,fun _=>Aa (.pair .str (.pair .str .unit))⟩:Sq U1),(r2,()))))))))))
def yb (n:Nat) (b0:Bool) (b01:(Sq Int)) (b02:Int) (b03:BA) (b04:Bool) (b05:BA) (b06:Bool) (b07:BA) (r1:(Sq U1)) (r2:(Sq BA)):Option U5:=uf n b0 b01 b02 b03 b04 b05 b06 b07 r1 r2 some
theorem qu (n:Nat) {S:Type}:∀ b0 b01 b02 b03 b04 b05 b06 b07 r1 r2 (φ:_→Option S),(yb n b0 b01 b02 b03 b04 b05 b06 b07 r1 r2).bind φ=uf n b0 b01 b02 b03 b04 b05 b06 b07 r1 r2 φ:=by
 intros;unfold yb uf;first | (simp only [fa,ba,iB,bB,oL,oX,nB,Option.bind_some]) | rfl
def sh (n:Nat):Hint OutS:={ live:=fun c=>[],run:=fun c=>none,xm:=fun c q=>none,nb:=[(74,1,.frz (.int .i64)),(74,6,.prm 47),(74,9,.prm 9)] }
theorem Mp (n:Nat):ua tys (da OutS (JI n)).keep (sh n) n (aa Tryz.f69) 0:=ma (fun _=>rfl) _ _ (by kernel_rfl)
theorem qr (n:Nat):Enters Tryz.prog 69:=enters_of (c:=aa Tryz.f69) Tryz.func69 (by kernel_rfl) (by kernel_rfl)
def wi:List RSp:=[.one (.ptr 0 0 0)]
def vi:List RS:=[.box 74 10 false [.dat .bool,.dat (.sl (.int .i64)),.dat (.int .i64),.dat .str,.dat .bool,.dat .str,.row 1,.dat .bool,.dat .str,.row 2],.row 47 2 (.pair .str (.pair .str .unit)) true true,.row 9 1 .str true true]
def rr:List Sl:=[.ptr 0 0 0]
def sr:List RSp:=[]
def yc:List RS:=[.box 74 10 false [.dat .bool,.dat (.sl (.int .i64)),.dat (.int .i64),.dat .str,.dat .bool,.dat .str,.row 1,.dat .bool,.dat .str,.row 2],.row 47 2 (.pair .str (.pair .str .unit)) true true,.row 9 1 .str true true]
def vf (y:U5):OutS:=⟨false,Kl (Yb yc ((y.1,(y.2.1,(y.2.2.1,(y.2.2.2.1,(y.2.2.2.2.1,(y.2.2.2.2.2.1,(y.2.2.2.2.2.2.1,(y.2.2.2.2.2.2.2.1,())))))))),(y.2.2.2.2.2.2.2.2.1,(y.2.2.2.2.2.2.2.2.2.1,())))) rr (),Xu (Us (Yb yc ((y.1,(y.2.1,(y.2.2.1,(y.2.2.2.1,(y.2.2.2.2.1,(y.2.2.2.2.2.1,(y.2.2.2.2.2.2.1,(y.2.2.2.2.2.2.2.1,())))))))),(y.2.2.2.2.2.2.2.2.1,(y.2.2.2.2.2.2.2.2.2.1,())))) sr ()),ao (Yb yc ((y.1,(y.2.1,(y.2.2.1,(y.2.2.2.1,(y.2.2.2.2.1,(y.2.2.2.2.2.1,(y.2.2.2.2.2.2.1,(y.2.2.2.2.2.2.2.1,())))))))),(y.2.2.2.2.2.2.2.2.1,(y.2.2.2.2.2.2.2.2.2.1,())))) yc ((y.1,(y.2.1,(y.2.2.1,(y.2.2.2.1,(y.2.2.2.2.1,(y.2.2.2.2.2.1,(y.2.2.2.2.2.2.1,(y.2.2.2.2.2.2.2.1,())))))))),(y.2.2.2.2.2.2.2.2.1,(y.2.2.2.2.2.2.2.2.2.1,())))⟩
theorem Is (n:Nat):EntryOk Tryz.prog gl ⟨69,Re,none,some (csT wi vi (fun σ ρ=>yb n ρ.1.1 ρ.1.2.1 ρ.1.2.2.1 ρ.1.2.2.2.1 ρ.1.2.2.2.2.1 ρ.1.2.2.2.2.2.1 ρ.1.2.2.2.2.2.2.1 ρ.1.2.2.2.2.2.2.2.1 ρ.2.1 ρ.2.2.1) vf)⟩:=
 Lc (qr n) fun σ ρ y h=>Xa tys_ok (bH n) mixed (hint:=sh n) (n:=n) Tryz.func69 (Na (Mp n)) (la (φ:=fun y=>some (vf y)) (by kernel_rfl) (qu n ρ.1.1 ρ.1.2.1 ρ.1.2.2.1 ρ.1.2.2.2.1 ρ.1.2.2.2.2.1 ρ.1.2.2.2.2.2.1 ρ.1.2.2.2.2.2.2.1 ρ.1.2.2.2.2.2.2.2.1 ρ.2.1 ρ.2.2.1 _) h)
def Ub (n:Nat):List Entry:=⟨69,Re,none,some (csT wi vi (fun σ ρ=>yb n ρ.1.1 ρ.1.2.1 ρ.1.2.2.1 ρ.1.2.2.2.1 ρ.1.2.2.2.2.1 ρ.1.2.2.2.2.2.1 ρ.1.2.2.2.2.2.2.1 ρ.1.2.2.2.2.2.2.2.1 ρ.2.1 ρ.2.2.1) vf)⟩::JI n
theorem Vg (n:Nat):AllOk Tryz.prog gl (Ub n):=.cons (Is n) (bH n)
def Da (n:Nat) {R:Type} (out:BA) (code i:Int) (p:Bool) (p1:(Sq Int)) (p2:Int) (p3:BA) (p4:Bool) (p5:BA) (p6:Bool) (p7:BA) (r11:(Sq U1)) (r21:(Sq BA)) (kn:BA→Int→Int→Bool→(Sq Int)→Int→BA→Bool→BA→Bool→BA→(Sq U1)→(Sq BA)→Option R) (ko:U7→Option R) (kr:Unit→Option R) (kp:Int→Option R):Option R:=
 if (decide (i<(r11.n:Int)))=true then
 if p=false then
  if (i==(0:Int))=true then
  (Ha n p p1 p2 p3 p4 p5 p6 p7 r11 r21).bind fun v=>
  (oa n v.1).bind fun v1=>
  if Ca out v1=true then
   if (v.1==(250:Int))=true then
   if 0≤i∧i<(v.2.2.2.2.2.2.2.2.2.1.n:Int) then
    o0 (
    (Nr n (((v.2.2.2.2.2.2.2.2.2.1.at' (Int.toNat i))).1,((((v.2.2.2.2.2.2.2.2.2.1.at' (Int.toNat i))).2).1,()))).bind fun v2=>
    if Ta (v.2.2.2.2.2.2.2.2.2.2.1.n+3) 16=true then
     kn (out++v1) v.1 (IntKind.wrap .i64 (i+(1:Int))) v.2.1 v.2.2.1 v.2.2.2.1 v.2.2.2.2.1 v.2.2.2.2.2.1 v.2.2.2.2.2.2.1 v.2.2.2.2.2.2.2.1 v.2.2.2.2.2.2.2.2.1 v.2.2.2.2.2.2.2.2.2.1 (⟨(v.2.2.2.2.2.2.2.2.2.2.1.n+3),fun q=>if q<v.2.2.2.2.2.2.2.2.2.2.1.n then v.2.2.2.2.2.2.2.2.2.2.1.at' q else (fun q=>List.getD (α:=BA) [v.2.2.2.2.2.2.1,v2,v.2.2.2.2.2.2.2.2.1] q (Aa .str)) (q - v.2.2.2.2.2.2.2.2.2.2.1.n)⟩:Sq BA)
    else
     none) (
    (Nr n (((v.2.2.2.2.2.2.2.2.2.1.at' (Int.toNat i))).1,((((v.2.2.2.2.2.2.2.2.2.1.at' (Int.toNat i))).2).1,()))).bind fun v3=>
    dup 1 (
     if Ta (v.2.2.2.2.2.2.2.2.2.2.1.n+3) 16=true then
     kn (out++v1) v.1 (IntKind.wrap .i64 (i+(1:Int))) v.2.1 v.2.2.1 v.2.2.2.1 v.2.2.2.2.1 v.2.2.2.2.2.1 v.2.2.2.2.2.2.1 v.2.2.2.2.2.2.2.1 v.2.2.2.2.2.2.2.2.1 v.2.2.2.2.2.2.2.2.2.1 (⟨(v.2.2.2.2.2.2.2.2.2.2.1.n+3),fun q=>if q<v.2.2.2.2.2.2.2.2.2.2.1.n then v.2.2.2.2.2.2.2.2.2.2.1.at' q else (fun q=>List.getD (α:=BA) [v.2.2.2.2.2.2.1,v3,v.2.2.2.2.2.2.2.2.1] q (Aa .str)) (q - v.2.2.2.2.2.2.2.2.2.2.1.n)⟩:Sq BA)
     else
     none))
   else
    none
   else
   kn (out++v1) v.1 (IntKind.wrap .i64 (i+(1:Int))) v.2.1 v.2.2.1 v.2.2.2.1 v.2.2.2.2.1 v.2.2.2.2.2.1 v.2.2.2.2.2.2.1 v.2.2.2.2.2.2.2.1 v.2.2.2.2.2.2.2.2.1 v.2.2.2.2.2.2.2.2.2.1 v.2.2.2.2.2.2.2.2.2.2.1
  else
   none
  else
  if (code==(250:Int))=true then
   if 0≤i∧i<(r11.n:Int) then
   o0 (
    (Nr n (((r11.at' (Int.toNat i))).1,((((r11.at' (Int.toNat i))).2).1,()))).bind fun v4=>
    if Ta (r21.n+3) 16=true then
    kn out code (IntKind.wrap .i64 (i+(1:Int))) p p1 p2 p3 p4 p5 p6 p7 r11 (⟨(r21.n+3),fun q=>if q<r21.n then r21.at' q else (fun q=>List.getD (α:=BA) [p5,v4,p7] q (Aa .str)) (q - r21.n)⟩:Sq BA)
    else
    none) (
    (Nr n (((r11.at' (Int.toNat i))).1,((((r11.at' (Int.toNat i))).2).1,()))).bind fun v5=>
    dup 1 (
    if Ta (r21.n+3) 16=true then
     kn out code (IntKind.wrap .i64 (i+(1:Int))) p p1 p2 p3 p4 p5 p6 p7 r11 (⟨(r21.n+3),fun q=>if q<r21.n then r21.at' q else (fun q=>List.getD (α:=BA) [p5,v5,p7] q (Aa .str)) (q - r21.n)⟩:Sq BA)
    else
     none))
   else
   none
  else
   kn out code (IntKind.wrap .i64 (i+(1:Int))) p p1 p2 p3 p4 p5 p6 p7 r11 r21
 else
  (Ha n p p1 p2 p3 p4 p5 p6 p7 r11 r21).bind fun v6=>
  (oa n v6.1).bind fun v7=>
  if Ca out v7=true then
  if (v6.1==(250:Int))=true then
   if 0≤i∧i<(v6.2.2.2.2.2.2.2.2.2.1.n:Int) then
   o0 (
    (Nr n (((v6.2.2.2.2.2.2.2.2.2.1.at' (Int.toNat i))).1,((((v6.2.2.2.2.2.2.2.2.2.1.at' (Int.toNat i))).2).1,()))).bind fun v8=>
    if Ta (v6.2.2.2.2.2.2.2.2.2.2.1.n+3) 16=true then
    kn (out++v7) v6.1 (IntKind.wrap .i64 (i+(1:Int))) v6.2.1 v6.2.2.1 v6.2.2.2.1 v6.2.2.2.2.1 v6.2.2.2.2.2.1 v6.2.2.2.2.2.2.1 v6.2.2.2.2.2.2.2.1 v6.2.2.2.2.2.2.2.2.1 v6.2.2.2.2.2.2.2.2.2.1 (⟨(v6.2.2.2.2.2.2.2.2.2.2.1.n+3),fun q=>if q<v6.2.2.2.2.2.2.2.2.2.2.1.n then v6.2.2.2.2.2.2.2.2.2.2.1.at' q else (fun q=>List.getD (α:=BA) [v6.2.2.2.2.2.2.1,v8,v6.2.2.2.2.2.2.2.2.1] q (Aa .str)) (q - v6.2.2.2.2.2.2.2.2.2.2.1.n)⟩:Sq BA)
    else
    none) (
    (Nr n (((v6.2.2.2.2.2.2.2.2.2.1.at' (Int.toNat i))).1,((((v6.2.2.2.2.2.2.2.2.2.1.at' (Int.toNat i))).2).1,()))).bind fun v9=>
    dup 1 (
    if Ta (v6.2.2.2.2.2.2.2.2.2.2.1.n+3) 16=true then
     kn (out++v7) v6.1 (IntKind.wrap .i64 (i+(1:Int))) v6.2.1 v6.2.2.1 v6.2.2.2.1 v6.2.2.2.2.1 v6.2.2.2.2.2.1 v6.2.2.2.2.2.2.1 v6.2.2.2.2.2.2.2.1 v6.2.2.2.2.2.2.2.2.1 v6.2.2.2.2.2.2.2.2.2.1 (⟨(v6.2.2.2.2.2.2.2.2.2.2.1.n+3),fun q=>if q<v6.2.2.2.2.2.2.2.2.2.2.1.n then v6.2.2.2.2.2.2.2.2.2.2.1.at' q else (fun q=>List.getD (α:=BA) [v6.2.2.2.2.2.2.1,v9,v6.2.2.2.2.2.2.2.2.1] q (Aa .str)) (q - v6.2.2.2.2.2.2.2.2.2.2.1.n)⟩:Sq BA)
    else
     none))
   else
   none
  else
   kn (out++v7) v6.1 (IntKind.wrap .i64 (i+(1:Int))) v6.2.1 v6.2.2.1 v6.2.2.2.1 v6.2.2.2.2.1 v6.2.2.2.2.2.1 v6.2.2.2.2.2.2.1 v6.2.2.2.2.2.2.2.1 v6.2.2.2.2.2.2.2.2.1 v6.2.2.2.2.2.2.2.2.2.1 v6.2.2.2.2.2.2.2.2.2.2.1
  else
  none
 else
 ko (out,p,p1,p2,p3,p4,p5,p6,p7,r11,r21)
def qa (n:Nat):Nat→BA→Int→Int→Bool→(Sq Int)→Int→BA→Bool→BA→Bool→BA→(Sq U1)→(Sq BA)→Option (Lx U7 Unit)
 | 0,_,_,_,_,_,_,_,_,_,_,_,_,_=>none
 | m+1,out,code,i,p,p1,p2,p3,p4,p5,p6,p7,r11,r21=>Da n out code i p p1 p2 p3 p4 p5 p6 p7 r11 r21 (qa n m) (fun a=>some (.out a)) (fun a=>some (.ret a)) (fun p=>some (.pan p))
theorem Qp (n m:Nat) {S:Type}:∀ out code i p p1 p2 p3 p4 p5 p6 p7 r11 r21 (φ:_→Option S),(qa n (m+1) out code i p p1 p2 p3 p4 p5 p6 p7 r11 r21).bind φ=Da n out code i p p1 p2 p3 p4 p5 p6 p7 r11 r21 (fun out code i p p1 p2 p3 p4 p5 p6 p7 r11 r21=>(qa n m out code i p p1 p2 p3 p4 p5 p6 p7 r11 r21).bind φ) (fun a=>φ (.out a)) (fun a=>φ (.ret a)) (fun p=>φ (.pan p)):=by
 intros;first | (simp only [qa,Da,fa,ba,iB,bB,oL,oX,nB,Option.bind_some]) | rfl
def Cd:List Sl:=.ptr 0 0 0::.top::.top::.dat .str::.dat (.int .i64)::.dat (.int .i64)::tp 53 []
def Bd:List RS:=[.box 74 10 false [.dat .bool,.dat (.sl (.int .i64)),.dat (.int .i64),.dat .str,.dat .bool,.dat .str,.row 1,.dat .bool,.dat .str,.row 2],.row 47 2 (.pair .str (.pair .str .unit)) true true,.row 9 1 .str true true,.ghost [.ptr 0 0 0]]
def bl:List Sl:=.ptr 0 0 0::.top::.top::.dat .str::tp 55 []
def Zk:List RS:=[.box 74 10 false [.dat .bool,.dat (.sl (.int .i64)),.dat (.int .i64),.dat .str,.dat .bool,.dat .str,.row 1,.dat .bool,.dat .str,.row 2],.row 47 2 (.pair .str (.pair .str .unit)) true true,.row 9 1 .str true true,.ghost [.ptr 0 0 0]]
def Va (K:XE→List AV→ia→Option OutS):Lx U7 Unit→Option OutS:=fun x=>onL x (fun a=>Bk bl Zk (a.1,()) ((a.2.1,(a.2.2.1,(a.2.2.2.1,(a.2.2.2.2.1,(a.2.2.2.2.2.1,(a.2.2.2.2.2.2.1,(a.2.2.2.2.2.2.2.1,(a.2.2.2.2.2.2.2.2.1,())))))))),(a.2.2.2.2.2.2.2.2.2.1,(a.2.2.2.2.2.2.2.2.2.2,((),())))) (K (.exit 0))) (fun _=>none) (fun _=>none)
def pd (n:Nat) {R:Type} (b0:Bool) (b01:(Sq Int)) (b02:Int) (b03:BA) (b04:Bool) (b05:BA) (b06:Bool) (b07:BA) (r1:(Sq U1)) (r2:(Sq BA)) (k:U3→Option R):Option R:=
 (qa n n (⟨#[]⟩:BA) (0:Int) (0:Int) b0 b01 b02 b03 b04 b05 b06 b07 r1 r2).bind fun x_1=>onL x_1
 (fun a_2=>
  (yb n a_2.2.1 a_2.2.2.1 a_2.2.2.2.1 a_2.2.2.2.2.1 a_2.2.2.2.2.2.1 a_2.2.2.2.2.2.2.1 a_2.2.2.2.2.2.2.2.1 a_2.2.2.2.2.2.2.2.2.1 a_2.2.2.2.2.2.2.2.2.2.1 a_2.2.2.2.2.2.2.2.2.2.2).bind fun v10=>
  k (a_2.1,(v10.1,(v10.2.1,(v10.2.2.1,(v10.2.2.2.1,(v10.2.2.2.2.1,(v10.2.2.2.2.2.1,(v10.2.2.2.2.2.2.1,(v10.2.2.2.2.2.2.2.1,(v10.2.2.2.2.2.2.2.2.1,(v10.2.2.2.2.2.2.2.2.2.1,()))))))))))))
 (fun _=>none)
 (fun _=>none)
def zb (n:Nat) (b0:Bool) (b01:(Sq Int)) (b02:Int) (b03:BA) (b04:Bool) (b05:BA) (b06:Bool) (b07:BA) (r1:(Sq U1)) (r2:(Sq BA)):Option U3:=pd n b0 b01 b02 b03 b04 b05 b06 b07 r1 r2 some
theorem tu (n:Nat) {S:Type}:∀ b0 b01 b02 b03 b04 b05 b06 b07 r1 r2 (φ:_→Option S),(zb n b0 b01 b02 b03 b04 b05 b06 b07 r1 r2).bind φ=pd n b0 b01 b02 b03 b04 b05 b06 b07 r1 r2 φ:=by
 intros;unfold zb pd;first | (simp only [fa,ba,iB,bB,oL,oX,nB,Option.bind_some]) | rfl
def rc (n:Nat):Hint OutS:={ live:=fun c=>(cond (Nat.beq c 0) (lv [0,3,4,5]) []),run:=fun c=>(cond (Nat.beq c 0) (some (Ms Cd Bd fun σ ρ K=>(qa n n σ.1 σ.2.1 σ.2.2.1 ρ.1.1 ρ.1.2.1 ρ.1.2.2.1 ρ.1.2.2.2.1 ρ.1.2.2.2.2.1 ρ.1.2.2.2.2.2.1 ρ.1.2.2.2.2.2.2.1 ρ.1.2.2.2.2.2.2.2.1 ρ.2.1 ρ.2.2.1).bind (Va K))) none),xm:=fun c q=>(cond (Nat.beq c 0&&Nat.beq (q.getD 1000000) 0&&q.isSome) (some [(0,none),(3,none)]) none),sch:=fun c=>(cond (Nat.beq c 10) (some [(0,0),(1,0),(2,0),(3,0),(5,0),(6,0),(7,0),(9,0),(10,0),(11,0),(13,0),(17,0),(18,0),(19,0),(8,1),(12,1),(14,0),(15,1),(20,1),(21,5),(4,7),(16,7),(22,2),(23,6),(24,6),(25,2)]) none),nb:=[(74,1,.frz (.int .i64)),(74,6,.prm 47),(74,9,.prm 9)] }
def qc (n:Nat) (K:XE→List AV→ia→Option OutS) (m:Nat) (out:BA) (code:Int) (i:Int) (p:Bool) (p1:(Sq Int)) (p2:Int) (p3:BA) (p4:Bool) (p5:BA) (p6:Bool) (p7:BA) (r11:(Sq U1)) (r21:(Sq BA)):Option OutS:=Ef tys (da OutS (Ub n)).keep (rc n) n (Fa [1,1,1,0,1,0,0] (aa Tryz.f67)) 0 Cd Bd K m (out,(code,(i,()))) ((p,(p1,(p2,(p3,(p4,(p5,(p6,(p7,())))))))),(r11,(r21,((),()))))
theorem vh (n:Nat) (K:XE→List AV→ia→Option OutS):∀ (m:Nat) out code i p p1 p2 p3 p4 p5 p6 p7 r11 r21,qc n K m out code i p p1 p2 p3 p4 p5 p6 p7 r11 r21=(qa n m out code i p p1 p2 p3 p4 p5 p6 p7 r11 r21).bind (Va K)
 | 0,_,_,_,_,_,_,_,_,_,_,_,_,_=>by kernel_rfl
 | m+1,out,code,i,p,p1,p2,p3,p4,p5,p6,p7,r11,r21=>by
  have h1:qc n K (m+1) out code i p p1 p2 p3 p4 p5 p6 p7 r11 r21=Da n out code i p p1 p2 p3 p4 p5 p6 p7 r11 r21 (qc n K m) (fun a=>Va K (.out a)) (fun a=>Va K (.ret a)) (fun p=>Va K (.pan p)):=by kernel_rfl
  have h2:qc n K m=fun out code i p p1 p2 p3 p4 p5 p6 p7 r11 r21=>(qa n m out code i p p1 p2 p3 p4 p5 p6 p7 r11 r21).bind (Va K):=by
   repeat (refine funext fun _=>?_)
   exact vh n K m _ _ _ _ _ _ _ _ _ _ _ _ _
  rw [h1,h2];exact (Qp n m _ _ _ _ _ _ _ _ _ _ _ _ _ (Va K)).symm
theorem eo (n:Nat):Pe tys (da OutS (Ub n)).keep (rc n) n (Fa [1,1,1,0,1,0,0] (aa Tryz.f67)) 0:=Qa (sp:=Cd) (rp:=Bd) (by kernel_rfl) fun K σ ρ=>vh n K n σ.1 σ.2.1 σ.2.2.1 ρ.1.1 ρ.1.2.1 ρ.1.2.2.1 ρ.1.2.2.2.1 ρ.1.2.2.2.2.1 ρ.1.2.2.2.2.2.1 ρ.1.2.2.2.2.2.2.1 ρ.1.2.2.2.2.2.2.2.1 ρ.2.1 ρ.2.2.1
theorem Rp (n:Nat):ua tys (da OutS (Ub n)).keep (rc n) n (aa Tryz.f67) 0:=⟨trivial,⟨trivial,⟨trivial,⟨⟨trivial,⟨eo n,⟨⟨trivial,⟨trivial,trivial⟩⟩,⟨⟨⟨trivial,⟨⟨trivial,trivial⟩,trivial⟩⟩,⟨trivial,⟨trivial,trivial⟩⟩⟩,trivial⟩⟩⟩⟩,⟨trivial,⟨trivial,trivial⟩⟩⟩⟩⟩⟩
theorem Ar (n:Nat):Enters Tryz.prog 67:=enters_of (c:=aa Tryz.f67) Tryz.func67 (by kernel_rfl) (by kernel_rfl)
def Ci:List RSp:=[.one (.ptr 0 0 0)]
def Bi:List RS:=[.box 74 10 false [.dat .bool,.dat (.sl (.int .i64)),.dat (.int .i64),.dat .str,.dat .bool,.dat .str,.row 1,.dat .bool,.dat .str,.row 2],.row 47 2 (.pair .str (.pair .str .unit)) true true,.row 9 1 .str true true]
def Br:List Sl:=[.ptr 0 0 0]
def Cr:List RSp:=[.one (.dat .str)]
def Bc:List RS:=[.box 74 10 false [.dat .bool,.dat (.sl (.int .i64)),.dat (.int .i64),.dat .str,.dat .bool,.dat .str,.row 1,.dat .bool,.dat .str,.row 2],.row 47 2 (.pair .str (.pair .str .unit)) true true,.row 9 1 .str true true]
def Af (y:U3):OutS:=⟨false,Kl (Yb Bc ((y.2.1,(y.2.2.1,(y.2.2.2.1,(y.2.2.2.2.1,(y.2.2.2.2.2.1,(y.2.2.2.2.2.2.1,(y.2.2.2.2.2.2.2.1,(y.2.2.2.2.2.2.2.2.1,())))))))),(y.2.2.2.2.2.2.2.2.2.1,(y.2.2.2.2.2.2.2.2.2.2.1,())))) Br (),Xu (Us (Yb Bc ((y.2.1,(y.2.2.1,(y.2.2.2.1,(y.2.2.2.2.1,(y.2.2.2.2.2.1,(y.2.2.2.2.2.2.1,(y.2.2.2.2.2.2.2.1,(y.2.2.2.2.2.2.2.2.1,())))))))),(y.2.2.2.2.2.2.2.2.2.1,(y.2.2.2.2.2.2.2.2.2.2.1,())))) Cr ((y.1,()),())),ao (Yb Bc ((y.2.1,(y.2.2.1,(y.2.2.2.1,(y.2.2.2.2.1,(y.2.2.2.2.2.1,(y.2.2.2.2.2.2.1,(y.2.2.2.2.2.2.2.1,(y.2.2.2.2.2.2.2.2.1,())))))))),(y.2.2.2.2.2.2.2.2.2.1,(y.2.2.2.2.2.2.2.2.2.2.1,())))) Bc ((y.2.1,(y.2.2.1,(y.2.2.2.1,(y.2.2.2.2.1,(y.2.2.2.2.2.1,(y.2.2.2.2.2.2.1,(y.2.2.2.2.2.2.2.1,(y.2.2.2.2.2.2.2.2.1,())))))))),(y.2.2.2.2.2.2.2.2.2.1,(y.2.2.2.2.2.2.2.2.2.2.1,())))⟩
theorem Ls (n:Nat):EntryOk Tryz.prog gl ⟨67,Re,none,some (csT Ci Bi (fun σ ρ=>zb n ρ.1.1 ρ.1.2.1 ρ.1.2.2.1 ρ.1.2.2.2.1 ρ.1.2.2.2.2.1 ρ.1.2.2.2.2.2.1 ρ.1.2.2.2.2.2.2.1 ρ.1.2.2.2.2.2.2.2.1 ρ.2.1 ρ.2.2.1) Af)⟩:=
 Lc (Ar n) fun σ ρ y h=>Xa tys_ok (Vg n) mixed (hint:=rc n) (n:=n) Tryz.func67 (Na (Rp n)) (la (φ:=fun y=>some (Af y)) (by kernel_rfl) (tu n ρ.1.1 ρ.1.2.1 ρ.1.2.2.1 ρ.1.2.2.2.1 ρ.1.2.2.2.2.1 ρ.1.2.2.2.2.2.1 ρ.1.2.2.2.2.2.2.1 ρ.1.2.2.2.2.2.2.2.1 ρ.2.1 ρ.2.2.1 _) h)
def Le (n:Nat):List Entry:=⟨67,Re,none,some (csT Ci Bi (fun σ ρ=>zb n ρ.1.1 ρ.1.2.1 ρ.1.2.2.1 ρ.1.2.2.2.1 ρ.1.2.2.2.2.1 ρ.1.2.2.2.2.2.1 ρ.1.2.2.2.2.2.2.1 ρ.1.2.2.2.2.2.2.2.1 ρ.2.1 ρ.2.2.1) Af)⟩::Ub n
theorem Yg (n:Nat):AllOk Tryz.prog gl (Le n):=.cons (Ls n) (Vg n)
def sg (n:Nat) {R:Type} (s with0:BA) (k:Bool→Option R):Option R:=
 if (decide ((s.size:Int)≥(with0.size:Int)))=true then
 if 0≤(with0.size:Int)∧(with0.size:Int)≤(s.size:Int) then
  k ((s.extract (Int.toNat (0:Int)) (Int.toNat (with0.size:Int))).toList==with0.toList)
 else
  none
 else
 k false
def db (n:Nat) (s with0:BA):Option Bool:=sg n s with0 some
theorem zE (n:Nat) {S:Type}:∀ s with0 (φ:_→Option S),(db n s with0).bind φ=sg n s with0 φ:=by
 intros;unfold db sg;first | (simp only [fa,ba,iB,bB,oL,oX,nB,Option.bind_some]) | rfl
def dm (n:Nat):Hint Out:={ live:=fun c=>[],run:=fun c=>none,xm:=fun c q=>none }
theorem sy (n:Nat):ua tys (da Out (Le n)) (dm n) n (aa Tryz.f68) 0:=ma (fun _=>rfl) _ _ (by kernel_rfl)
theorem lA (n:Nat):Enters Tryz.prog 68:=enters_of (c:=aa Tryz.f68) Tryz.func68 (by kernel_rfl) (by kernel_rfl)
def bp (n:Nat):Entry:=⟨68,pcT (.pair .str (.pair .str .unit)) (.one .bool) (fun xs=>db n xs.1 xs.2.1),none,none⟩
theorem BC (n:Nat):EntryOk Tryz.prog gl (bp n):=
 Oa (lA n) fun xs y h=>ra tys_ok (Yg n) mixed (hint:=dm n) (n:=n) Tryz.func68 (Na (sy n)) (la (φ:=(fun y=>some (Out.ret (Kf (.one .bool) y)))) (by kernel_rfl) (zE n xs.1 xs.2.1 _) h)
def Ld (n:Nat):List Entry:=bp n::Le n
theorem dl (n:Nat):AllOk Tryz.prog gl (Ld n):=.cons (BC n) (Yg n)
def Zc (n:Nat) {R:Type} (s1:BA) (i:Int) (b:(Sq Int)) (kn:BA→Int→(Sq Int)→Option R) (ko:(Unit)→Option R) (kr:(BA×Int×Bool)→Option R) (kp:Int→Option R):Option R:=
 if (decide (i<(s1.size:Int)))=true then
 if 0≤i∧i<(s1.size:Int) then
  if ((bt s1 i)==(34:Int))=true then
  kr ((ah b.n b.at'),(IntKind.wrap .i64 (i+(1:Int))),true)
  else
  if ((bt s1 i)==(92:Int))=true then
   if (decide ((IntKind.wrap .i64 (i+(1:Int)))≥(s1.size:Int)))=true then
   ko ()
   else
   if 0≤(IntKind.wrap .i64 (i+(1:Int)))∧(IntKind.wrap .i64 (i+(1:Int)))<(s1.size:Int) then
    if (decide ((bt s1 (IntKind.wrap .i64 (i+(1:Int))))<(32:Int)))=false then
    if (decide ((bt s1 (IntKind.wrap .i64 (i+(1:Int))))>(126:Int)))=true then
     ko ()
    else
     if Ta (b.n+1) 1=true then
     kn s1 (IntKind.wrap .i64 ((IntKind.wrap .i64 (i+(1:Int)))+(1:Int))) (⟨(b.n+1),fun q=>if q<b.n then b.at' q else (fun q=>List.getD (α:=Int) [(bt s1 (IntKind.wrap .i64 (i+(1:Int))))] q (Aa (.int .u8))) (q - b.n)⟩:Sq Int)
     else
     none
    else
    ko ()
   else
    none
  else
   if (decide ((bt s1 i)<(32:Int)))=false then
   if (decide ((bt s1 i)>(126:Int)))=true then
    ko ()
   else
    if Ta (b.n+1) 1=true then
    kn s1 (IntKind.wrap .i64 (i+(1:Int))) (⟨(b.n+1),fun q=>if q<b.n then b.at' q else (fun q=>List.getD (α:=Int) [(bt s1 i)] q (Aa (.int .u8))) (q - b.n)⟩:Sq Int)
    else
    none
   else
   ko ()
 else
  none
 else
 ko ()
def Ya (n:Nat):Nat→BA→Int→(Sq Int)→Option (Lx (Unit) (BA×Int×Bool))
 | 0,_,_,_=>none
 | m+1,s1,i,b=>Zc n s1 i b (Ya n m) (fun a=>some (.out a)) (fun a=>some (.ret a)) (fun p=>some (.pan p))
theorem DQ (n m:Nat) {S:Type}:∀ s1 i b (φ:_→Option S),(Ya n (m+1) s1 i b).bind φ=Zc n s1 i b (fun s1 i b=>(Ya n m s1 i b).bind φ) (fun a=>φ (.out a)) (fun a=>φ (.ret a)) (fun p=>φ (.pan p)):=by
 intros;first | (simp only [Ya,Zc,fa,ba,iB,bB,oL,oX,nB,Option.bind_some]) | rfl
def Hu:List Sl:=.dat .str::tp 4 (.row 0::.dat (.int .i64)::tp 37 [])
def Gu:List RS:=[.row 5 1 (.int .u8) true false]
def fH:List Sl:=tp 44 []
def eH:List RS:=[]
def iH:List Sl:=.top::.top::.dat .str::.dat (.int .i64)::.dat .bool::tp 39 []
def gH:List RS:=[]
def Eg (K:XE→List AV→ia→Option Out):Lx (Unit) (BA×Int×Bool)→Option Out:=fun x=>onL x (fun a=>Bk fH eH () () (K (.exit 0))) (fun a=>Bk iH gH (a.1,(a.2.1,(a.2.2,()))) () (K .ret)) (fun _=>none)
def IB (n:Nat) {R:Type} (s:BA) (k:(BA×Int×Bool×Unit)→Option R):Option R:=
 (Ya n n s (1:Int) (⟨0,fun _=>Aa (.int .u8)⟩:Sq Int)).bind fun x_1=>onL x_1
 (fun a_2=>
  k ((⟨#[]⟩:BA),((0:Int),(false,()))))
 (fun a_3=>
  k (a_3.1,(a_3.2.1,(a_3.2.2,()))))
 (fun _=>none)
def wt (n:Nat) (s:BA):Option (BA×Int×Bool×Unit):=IB n s some
theorem EX (n:Nat) {S:Type}:∀ s (φ:_→Option S),(wt n s).bind φ=IB n s φ:=by
 intros;unfold wt IB;first | (simp only [fa,ba,iB,bB,oL,oX,nB,Option.bind_some]) | rfl
def fq (n:Nat):Hint Out:={ live:=fun c=>(cond (Nat.beq c 0) [(0,none),(5,some (.sl (.int .u8))),(6,none)] []),run:=fun c=>(cond (Nat.beq c 0) (some (Ms Hu Gu fun σ ρ K=>(Ya n n σ.1 σ.2.1 ρ.1).bind (Eg K))) none),xm:=fun c q=>(cond (Nat.beq c 0&&Nat.beq (q.getD 1000000) 0&&q.isSome) (some []) (cond (Nat.beq c 1&&Nat.beq (q.getD 1000000) 0&&q.isSome) (some []) (cond (Nat.beq c 1&&q.isNone) (some (lv [2,3,4])) none))) }
def dq (n:Nat) (K:XE→List AV→ia→Option Out) (m:Nat) (s1:BA) (i:Int) (b:(Sq Int)):Option Out:=Ef tys (da Out (Ld n)) (fq n) n (Fa [1,1,0,1,0,0] (aa Tryz.f122)) 0 Hu Gu K m (s1,(i,())) (b,())
theorem dH (n:Nat) (K:XE→List AV→ia→Option Out):∀ (m:Nat) s1 i b,dq n K m s1 i b=(Ya n m s1 i b).bind (Eg K)
 | 0,_,_,_=>by kernel_rfl
 | m+1,s1,i,b=>by
  have h1:dq n K (m+1) s1 i b=Zc n s1 i b (dq n K m) (fun a=>Eg K (.out a)) (fun a=>Eg K (.ret a)) (fun p=>Eg K (.pan p)):=by kernel_rfl
  have h2:dq n K m=fun s1 i b=>(Ya n m s1 i b).bind (Eg K):=by
   repeat (refine funext fun _=>?_)
   exact dH n K m _ _ _
  rw [h1,h2];exact (DQ n m _ _ _ (Eg K)).symm
theorem iO (n:Nat):Pe tys (da Out (Ld n)) (fq n) n (Fa [1,1,0,1,0,0] (aa Tryz.f122)) 0:=Qa (sp:=Hu) (rp:=Gu) (by kernel_rfl) fun K σ ρ=>dH n K n σ.1 σ.2.1 ρ.1
theorem EQ (n:Nat):ua tys (da Out (Ld n)) (fq n) n (aa Tryz.f122) 0:=⟨trivial,⟨trivial,⟨⟨trivial,⟨iO n,⟨⟨trivial,⟨trivial,trivial⟩⟩,⟨⟨trivial,⟨⟨trivial,⟨⟨trivial,trivial⟩,trivial⟩⟩,⟨⟨trivial,⟨⟨trivial,⟨⟨trivial,⟨trivial,trivial⟩⟩,trivial⟩⟩,trivial⟩⟩,⟨⟨trivial,⟨trivial,trivial⟩⟩,trivial⟩⟩⟩⟩,trivial⟩⟩⟩⟩,⟨trivial,trivial⟩⟩⟩⟩
theorem ZS (n:Nat):Enters Tryz.prog 122:=enters_of (c:=aa Tryz.f122) Tryz.func122 (by kernel_rfl) (by kernel_rfl)
def EM (n:Nat):Entry:=⟨122,pcT (.pair .str .unit) (.many (.pair .str (.pair (.int .i64) (.pair .bool .unit)))) (fun xs=>wt n xs.1),none,none⟩
theorem XU (n:Nat):EntryOk Tryz.prog gl (EM n):=
 Oa (ZS n) fun xs y h=>ra tys_ok (dl n) mixed (hint:=fq n) (n:=n) Tryz.func122 (Na (EQ n)) (la (φ:=(fun y=>some (Out.ret (Kf (.many (.pair .str (.pair (.int .i64) (.pair .bool .unit)))) y)))) (by kernel_rfl) (EX n xs.1 _) h)
def Qr (n:Nat):List Entry:=EM n::Ld n
theorem BD (n:Nat):AllOk Tryz.prog gl (Qr n):=.cons (XU n) (dl n)
def Qh (n:Nat) {R:Type} (s1 q:BA) (i:Int) (kn:BA→BA→Int→Option R) (ko:(BA)→Option R) (kr:Unit→Option R) (kp:Int→Option R):Option R:=
 if (decide (i<(s1.size:Int)))=true then
 if 0≤i∧i<(s1.size:Int) then
  if ((bt s1 i)==(34:Int))=false then
  if 0≤i∧i<(s1.size:Int) then
   if ((bt s1 i)==(92:Int))=true then
   if Ca q (⟨#[92]⟩:BA)=true then
    if 0≤(IntKind.wrap .i64 (i+(1:Int)))∧(IntKind.wrap .i64 (i+(1:Int)))≤(s1.size:Int) then
    if 0≤i∧i≤(IntKind.wrap .i64 (i+(1:Int))) then
     if Ca (q++(⟨#[92]⟩:BA)) (s1.extract (Int.toNat i) (Int.toNat (IntKind.wrap .i64 (i+(1:Int)))))=true then
     kn s1 ((q++(⟨#[92]⟩:BA))++(s1.extract (Int.toNat i) (Int.toNat (IntKind.wrap .i64 (i+(1:Int)))))) (IntKind.wrap .i64 (i+(1:Int)))
     else
     none
    else
     none
    else
    none
   else
    none
   else
   if 0≤(IntKind.wrap .i64 (i+(1:Int)))∧(IntKind.wrap .i64 (i+(1:Int)))≤(s1.size:Int) then
    if 0≤i∧i≤(IntKind.wrap .i64 (i+(1:Int))) then
    if Ca q (s1.extract (Int.toNat i) (Int.toNat (IntKind.wrap .i64 (i+(1:Int)))))=true then
     kn s1 (q++(s1.extract (Int.toNat i) (Int.toNat (IntKind.wrap .i64 (i+(1:Int)))))) (IntKind.wrap .i64 (i+(1:Int)))
    else
     none
    else
    none
   else
    none
  else
   none
  else
  if Ca q (⟨#[92]⟩:BA)=true then
   if 0≤(IntKind.wrap .i64 (i+(1:Int)))∧(IntKind.wrap .i64 (i+(1:Int)))≤(s1.size:Int) then
   if 0≤i∧i≤(IntKind.wrap .i64 (i+(1:Int))) then
    if Ca (q++(⟨#[92]⟩:BA)) (s1.extract (Int.toNat i) (Int.toNat (IntKind.wrap .i64 (i+(1:Int)))))=true then
    kn s1 ((q++(⟨#[92]⟩:BA))++(s1.extract (Int.toNat i) (Int.toNat (IntKind.wrap .i64 (i+(1:Int)))))) (IntKind.wrap .i64 (i+(1:Int)))
    else
    none
   else
    none
   else
   none
  else
   none
 else
  none
 else
 ko q
def bd (n:Nat):Nat→BA→BA→Int→Option (Lx (BA) Unit)
 | 0,_,_,_=>none
 | m+1,s1,q,i=>Qh n s1 q i (bd n m) (fun a=>some (.out a)) (fun a=>some (.ret a)) (fun p=>some (.pan p))
theorem JQ (n m:Nat) {S:Type}:∀ s1 q i (φ:_→Option S),(bd n (m+1) s1 q i).bind φ=Qh n s1 q i (fun s1 q i=>(bd n m s1 q i).bind φ) (fun a=>φ (.out a)) (fun a=>φ (.ret a)) (fun p=>φ (.pan p)):=by
 intros;first | (simp only [bd,Qh,fa,ba,iB,bB,oL,oX,nB,Option.bind_some]) | rfl
def Nu:List Sl:=.dat .str::.top::.top::.dat .str::.dat (.int .i64)::tp 27 []
def Mu:List RS:=[]
def vH:List Sl:=.top::.top::.top::.dat .str::tp 28 []
def uH:List RS:=[]
def Hg (K:XE→List AV→ia→Option Out):Lx (BA) Unit→Option Out:=fun x=>onL x (fun a=>Bk vH uH (a,()) () (K (.exit 0))) (fun _=>none) (fun _=>none)
def KB (n:Nat) {R:Type} (s:BA) (k:BA→Option R):Option R:=
 (bd n n s (⟨#[34]⟩:BA) (0:Int)).bind fun x_1=>onL x_1
 (fun a_2=>
  if Ca a_2 (⟨#[34]⟩:BA)=true then
  k (a_2++(⟨#[34]⟩:BA))
  else
  none)
 (fun _=>none)
 (fun _=>none)
def Tw (n:Nat) (s:BA):Option BA:=KB n s some
theorem GX (n:Nat) {S:Type}:∀ s (φ:_→Option S),(Tw n s).bind φ=KB n s φ:=by
 intros;unfold Tw KB;first | (simp only [fa,ba,iB,bB,oL,oX,nB,Option.bind_some]) | rfl
def lq (n:Nat):Hint Out:={ live:=fun c=>(cond (Nat.beq c 0) (lv [0,3,4]) []),run:=fun c=>(cond (Nat.beq c 0) (some (Ms Nu Mu fun σ ρ K=>(bd n n σ.1 σ.2.1 σ.2.2.1).bind (Hg K))) none),xm:=fun c q=>(cond (Nat.beq c 0&&Nat.beq (q.getD 1000000) 0&&q.isSome) (some [(3,none)]) none) }
def kq (n:Nat) (K:XE→List AV→ia→Option Out) (m:Nat) (s1:BA) (q:BA) (i:Int):Option Out:=Ef tys (da Out (Qr n)) (lq n) n (Fa [1,1,0,1,0,0] (aa Tryz.f123)) 0 Nu Mu K m (s1,(q,(i,()))) ()
theorem tH (n:Nat) (K:XE→List AV→ia→Option Out):∀ (m:Nat) s1 q i,kq n K m s1 q i=(bd n m s1 q i).bind (Hg K)
 | 0,_,_,_=>by kernel_rfl
 | m+1,s1,q,i=>by
  have h1:kq n K (m+1) s1 q i=Qh n s1 q i (kq n K m) (fun a=>Hg K (.out a)) (fun a=>Hg K (.ret a)) (fun p=>Hg K (.pan p)):=by kernel_rfl
  have h2:kq n K m=fun s1 q i=>(bd n m s1 q i).bind (Hg K):=by
   repeat (refine funext fun _=>?_)
   exact tH n K m _ _ _
  rw [h1,h2];exact (JQ n m _ _ _ (Hg K)).symm
theorem mO (n:Nat):Pe tys (da Out (Qr n)) (lq n) n (Fa [1,1,0,1,0,0] (aa Tryz.f123)) 0:=Qa (sp:=Nu) (rp:=Mu) (by kernel_rfl) fun K σ ρ=>tH n K n σ.1 σ.2.1 σ.2.2.1
theorem KQ (n:Nat):ua tys (da Out (Qr n)) (lq n) n (aa Tryz.f123) 0:=⟨trivial,⟨trivial,⟨⟨trivial,⟨mO n,⟨⟨trivial,⟨trivial,trivial⟩⟩,⟨⟨⟨trivial,⟨trivial,trivial⟩⟩,trivial⟩,trivial⟩⟩⟩⟩,⟨trivial,trivial⟩⟩⟩⟩
theorem cT (n:Nat):Enters Tryz.prog 123:=enters_of (c:=aa Tryz.f123) Tryz.func123 (by kernel_rfl) (by kernel_rfl)
def GM (n:Nat):Entry:=⟨123,pcT (.pair .str .unit) (.one .str) (fun xs=>Tw n xs.1),none,none⟩
theorem aV (n:Nat):EntryOk Tryz.prog gl (GM n):=
 Oa (cT n) fun xs y h=>ra tys_ok (BD n) mixed (hint:=lq n) (n:=n) Tryz.func123 (Na (KQ n)) (la (φ:=(fun y=>some (Out.ret (Kf (.one .str) y)))) (by kernel_rfl) (GX n xs.1 _) h)
def Tr (n:Nat):List Entry:=GM n::Qr n
theorem ED (n:Nat):AllOk Tryz.prog gl (Tr n):=.cons (aV n) (BD n)
def vm (n:Nat) {R:Type} (s1:BA) (by01 from0 i:Int) (l:(Sq BA)) (kn:BA→Int→Int→Int→(Sq BA)→Option R) (ko:((Sq BA))→Option R) (kr:Unit→Option R) (kp:Int→Option R):Option R:=
 if (decide (i≤(s1.size:Int)))=true then
 if (i==(s1.size:Int))=false then
  if 0≤i∧i<(s1.size:Int) then
  if ((bt s1 i)==by01)=true then
   if 0≤i∧i≤(s1.size:Int) then
   if 0≤from0∧from0≤i then
    if Ta (l.n+1) 16=true then
    kn s1 by01 (IntKind.wrap .i64 (i+(1:Int))) (IntKind.wrap .i64 (i+(1:Int))) (⟨(l.n+1),fun q=>if q<l.n then l.at' q else (fun q=>List.getD (α:=BA) [(s1.extract (Int.toNat from0) (Int.toNat i))] q (Aa .str)) (q - l.n)⟩:Sq BA)
    else
    none
   else
    none
   else
   none
  else
   kn s1 by01 from0 (IntKind.wrap .i64 (i+(1:Int))) l
  else
  none
 else
  if 0≤i∧i≤(s1.size:Int) then
  if 0≤from0∧from0≤i then
   if Ta (l.n+1) 16=true then
   kn s1 by01 (IntKind.wrap .i64 (i+(1:Int))) (IntKind.wrap .i64 (i+(1:Int))) (⟨(l.n+1),fun q=>if q<l.n then l.at' q else (fun q=>List.getD (α:=BA) [(s1.extract (Int.toNat from0) (Int.toNat i))] q (Aa .str)) (q - l.n)⟩:Sq BA)
   else
   none
  else
   none
  else
  none
 else
 ko l
def je (n:Nat):Nat→BA→Int→Int→Int→(Sq BA)→Option (Lx ((Sq BA)) Unit)
 | 0,_,_,_,_,_=>none
 | m+1,s1,by01,from0,i,l=>vm n s1 by01 from0 i l (je n m) (fun a=>some (.out a)) (fun a=>some (.ret a)) (fun p=>some (.pan p))
theorem qQ (n m:Nat) {S:Type}:∀ s1 by01 from0 i l (φ:_→Option S),(je n (m+1) s1 by01 from0 i l).bind φ=vm n s1 by01 from0 i l (fun s1 by01 from0 i l=>(je n m s1 by01 from0 i l).bind φ) (fun a=>φ (.out a)) (fun a=>φ (.ret a)) (fun p=>φ (.pan p)):=by
 intros;first | (simp only [je,vm,fa,ba,iB,bB,oL,oX,nB,Option.bind_some]) | rfl
def xu:List Sl:=.dat .str::.dat (.int .u8)::.top::.top::.top::.row 0::.dat (.int .i64)::.dat (.int .i64)::tp 27 []
def wu:List RS:=[.row 9 1 .str true false]
def AG:List Sl:=tp 5 (.row 0::tp 29 [])
def zG:List RS:=[.row 9 1 .str true false]
def zg (K:XE→List AV→ia→Option Out):Lx ((Sq BA)) Unit→Option Out:=fun x=>onL x (fun a=>Bk AG zG () (a,()) (K (.exit 0))) (fun _=>none) (fun _=>none)
def CB (n:Nat) {R:Type} (s:BA) (by0:Int) (k:(Sq BA)→Option R):Option R:=
 (je n n s by0 (0:Int) (0:Int) (⟨0,fun _=>Aa .str⟩:Sq BA)).bind fun x_1=>onL x_1
 (fun a_2=>
  k a_2)
 (fun _=>none)
 (fun _=>none)
def ot (n:Nat) (s:BA) (by0:Int):Option (Sq BA):=CB n s by0 some
theorem rX (n:Nat) {S:Type}:∀ s by0 (φ:_→Option S),(ot n s by0).bind φ=CB n s by0 φ:=by
 intros;unfold ot CB;first | (simp only [fa,ba,iB,bB,oL,oX,nB,Option.bind_some]) | rfl
def Wp (n:Nat):Hint Out:={ live:=fun c=>(cond (Nat.beq c 0) [(0,none),(1,none),(5,some (.sl .str)),(6,none),(7,none)] []),run:=fun c=>(cond (Nat.beq c 0) (some (Ms xu wu fun σ ρ K=>(je n n σ.1 σ.2.1 σ.2.2.1 σ.2.2.2.1 ρ.1).bind (zg K))) none),xm:=fun c q=>(cond (Nat.beq c 0&&Nat.beq (q.getD 1000000) 0&&q.isSome) (some [(5,some (.sl .str))]) none) }
def Vp (n:Nat) (K:XE→List AV→ia→Option Out) (m:Nat) (s1:BA) (by01:Int) (from0:Int) (i:Int) (l:(Sq BA)):Option Out:=Ef tys (da Out (Tr n)) (Wp n) n (Fa [1,1,1,0,1,0,0] (aa Tryz.f48)) 0 xu wu K m (s1,(by01,(from0,(i,())))) (l,())
theorem yG (n:Nat) (K:XE→List AV→ia→Option Out):∀ (m:Nat) s1 by01 from0 i l,Vp n K m s1 by01 from0 i l=(je n m s1 by01 from0 i l).bind (zg K)
 | 0,_,_,_,_,_=>by kernel_rfl
 | m+1,s1,by01,from0,i,l=>by
  have h1:Vp n K (m+1) s1 by01 from0 i l=vm n s1 by01 from0 i l (Vp n K m) (fun a=>zg K (.out a)) (fun a=>zg K (.ret a)) (fun p=>zg K (.pan p)):=by kernel_rfl
  have h2:Vp n K m=fun s1 by01 from0 i l=>(je n m s1 by01 from0 i l).bind (zg K):=by
   repeat (refine funext fun _=>?_)
   exact yG n K m _ _ _ _ _
  rw [h1,h2];exact (qQ n m _ _ _ _ _ (zg K)).symm
theorem aO (n:Nat):Pe tys (da Out (Tr n)) (Wp n) n (Fa [1,1,1,0,1,0,0] (aa Tryz.f48)) 0:=Qa (sp:=xu) (rp:=wu) (by kernel_rfl) fun K σ ρ=>yG n K n σ.1 σ.2.1 σ.2.2.1 σ.2.2.2.1 ρ.1
theorem rQ (n:Nat):ua tys (da Out (Tr n)) (Wp n) n (aa Tryz.f48) 0:=⟨trivial,⟨trivial,⟨trivial,⟨⟨trivial,⟨aO n,⟨⟨trivial,⟨trivial,trivial⟩⟩,⟨⟨trivial,⟨⟨trivial,trivial⟩,trivial⟩⟩,trivial⟩⟩⟩⟩,⟨trivial,trivial⟩⟩⟩⟩⟩
theorem HS (n:Nat):Enters Tryz.prog 48:=enters_of (c:=aa Tryz.f48) Tryz.func48 (by kernel_rfl) (by kernel_rfl)
def qM (n:Nat):Entry:=⟨48,pcT (.pair .str (.pair (.int .u8) .unit)) (.one (.sl .str)) (fun xs=>ot n xs.1 xs.2.1),none,none⟩
theorem JU (n:Nat):EntryOk Tryz.prog gl (qM n):=
 Oa (HS n) fun xs y h=>ra tys_ok (ED n) mixed (hint:=Wp n) (n:=n) Tryz.func48 (Na (rQ n)) (la (φ:=(fun y=>some (Out.ret (Kf (.one (.sl .str)) y)))) (by kernel_rfl) (rX n xs.1 xs.2.1 _) h)
def IE (n:Nat):List Entry:=qM n::Tr n
theorem sD (n:Nat):AllOk Tryz.prog gl (IE n):=.cons (JU n) (ED n)
def Sw (n:Nat) {R:Type} (c:Int) (k:Bool→Option R):Option R:=
 if (decide (c≥(97:Int)))=true then
 if (decide (c≤(122:Int)))=false then
  if (decide (c≥(65:Int)))=true then
  k (decide (c≤(90:Int)))
  else
  k false
 else
  k true
 else
 if (decide (c≥(65:Int)))=true then
  k (decide (c≤(90:Int)))
 else
  k false
def Ov (n:Nat) (c:Int):Option Bool:=Sw n c some
theorem YU (n:Nat) {S:Type}:∀ c (φ:_→Option S),(Ov n c).bind φ=Sw n c φ:=by
 intros;unfold Ov Sw;first | (simp only [fa,ba,iB,bB,oL,oX,nB,Option.bind_some]) | rfl
def CD (n:Nat):Hint Out:={ live:=fun c=>[],run:=fun c=>none,xm:=fun c q=>none }
theorem jO (n:Nat):ua tys (da Out (IE n)) (CD n) n (aa Tryz.f148) 0:=ma (fun _=>rfl) _ _ (by kernel_rfl)
theorem FQ (n:Nat):Enters Tryz.prog 148:=enters_of (c:=aa Tryz.f148) Tryz.func148 (by kernel_rfl) (by kernel_rfl)
def PJ (n:Nat):Entry:=⟨148,pcT (.pair (.int .u8) .unit) (.one .bool) (fun xs=>Ov n xs.1),none,none⟩
theorem aT (n:Nat):EntryOk Tryz.prog gl (PJ n):=
 Oa (FQ n) fun xs y h=>ra tys_ok (sD n) mixed (hint:=CD n) (n:=n) Tryz.func148 (Na (jO n)) (la (φ:=(fun y=>some (Out.ret (Kf (.one .bool) y)))) (by kernel_rfl) (YU n xs.1 _) h)
def CA (n:Nat):List Entry:=PJ n::IE n
theorem DA (n:Nat):AllOk Tryz.prog gl (CA n):=.cons (aT n) (sD n)
def HB (n:Nat) {R:Type} (c:Int) (k:Bool→Option R):Option R:=
 if (decide (c≥(48:Int)))=true then
 k (decide (c≤(57:Int)))
 else
 k false
def vt (n:Nat) (c:Int):Option Bool:=HB n c some
theorem DX (n:Nat) {S:Type}:∀ c (φ:_→Option S),(vt n c).bind φ=HB n c φ:=by
 intros;unfold vt HB;first | (simp only [fa,ba,iB,bB,oL,oX,nB,Option.bind_some]) | rfl
def cH (n:Nat):Hint Out:={ live:=fun c=>[],run:=fun c=>none,xm:=fun c q=>none }
theorem CQ (n:Nat):ua tys (da Out (CA n)) (cH n) n (aa Tryz.f49) 0:=ma (fun _=>rfl) _ _ (by kernel_rfl)
theorem YS (n:Nat):Enters Tryz.prog 49:=enters_of (c:=aa Tryz.f49) Tryz.func49 (by kernel_rfl) (by kernel_rfl)
def DM (n:Nat):Entry:=⟨49,pcT (.pair (.int .u8) .unit) (.one .bool) (fun xs=>vt n xs.1),none,none⟩
theorem WU (n:Nat):EntryOk Tryz.prog gl (DM n):=
 Oa (YS n) fun xs y h=>ra tys_ok (DA n) mixed (hint:=cH n) (n:=n) Tryz.func49 (Na (CQ n)) (la (φ:=(fun y=>some (Out.ret (Kf (.one .bool) y)))) (by kernel_rfl) (DX n xs.1 _) h)
def Pr (n:Nat):List Entry:=DM n::CA n
theorem AD (n:Nat):AllOk Tryz.prog gl (Pr n):=.cons (WU n) (DA n)
def vq (n:Nat) {R:Type} (c1:Int) (s:BA) (i:Int) (kn:Int→BA→Int→Option R) (ko:(Unit)→Option R) (kr:(Bool)→Option R) (kp:Int→Option R):Option R:=
 if (decide (i<(s.size:Int)))=true then
 if 0≤i∧i<(s.size:Int) then
  if ((bt s i)==c1)=true then
  kr true
  else
  kn c1 s (IntKind.wrap .i64 (i+(1:Int)))
 else
  none
 else
 ko ()
def Rf (n:Nat):Nat→Int→BA→Int→Option (Lx (Unit) (Bool))
 | 0,_,_,_=>none
 | m+1,c1,s,i=>vq n c1 s i (Rf n m) (fun a=>some (.out a)) (fun a=>some (.ret a)) (fun p=>some (.pan p))
theorem dT (n m:Nat) {S:Type}:∀ c1 s i (φ:_→Option S),(Rf n (m+1) c1 s i).bind φ=vq n c1 s i (fun c1 s i=>(Rf n m c1 s i).bind φ) (fun a=>φ (.out a)) (fun a=>φ (.ret a)) (fun p=>φ (.pan p)):=by
 intros;first | (simp only [Rf,vq,fa,ba,iB,bB,oL,oX,nB,Option.bind_some]) | rfl
def Vw:List Sl:=.dat (.int .u8)::.top::.top::.dat .str::.dat (.int .i64)::tp 11 []
def Uw:List RS:=[]
def MI:List Sl:=tp 16 []
def LI:List RS:=[]
def OI:List Sl:=.top::.top::.dat .bool::tp 13 []
def NI:List RS:=[]
def Rh (K:XE→List AV→ia→Option Out):Lx (Unit) (Bool)→Option Out:=fun x=>onL x (fun a=>Bk MI LI () () (K (.exit 0))) (fun a=>Bk OI NI (a,()) () (K .ret)) (fun _=>none)
def wH (n:Nat) {R:Type} (c:Int) (k:Bool→Option R):Option R:=
 (Rf n n c (⟨#[33,35,36,37,38,39,42,43,45,47,61,63,94,95,96,123,124,125,126]⟩:BA) (0:Int)).bind fun x_1=>onL x_1
 (fun a_2=>
  k false)
 (fun a_3=>
  k a_3)
 (fun _=>none)
def KI (n:Nat) (c:Int):Option Bool:=wH n c some
theorem GZ (n:Nat) {S:Type}:∀ c (φ:_→Option S),(KI n c).bind φ=wH n c φ:=by
 intros;unfold KI wH;first | (simp only [fa,ba,iB,bB,oL,oX,nB,Option.bind_some]) | rfl
def Bt (n:Nat):Hint Out:={ live:=fun c=>(cond (Nat.beq c 0) (lv [0,3,4]) []),run:=fun c=>(cond (Nat.beq c 0) (some (Ms Vw Uw fun σ ρ K=>(Rf n n σ.1 σ.2.1 σ.2.2.1).bind (Rh K))) none),xm:=fun c q=>(cond (Nat.beq c 0&&Nat.beq (q.getD 1000000) 0&&q.isSome) (some []) (cond (Nat.beq c 1&&q.isNone) (some [(2,none)]) none)) }
def At (n:Nat) (K:XE→List AV→ia→Option Out) (m:Nat) (c1:Int) (s:BA) (i:Int):Option Out:=Ef tys (da Out (Pr n)) (Bt n) n (Fa [1,1,0,1,0,0] (aa Tryz.f149)) 0 Vw Uw K m (c1,(s,(i,()))) ()
theorem QJ (n:Nat) (K:XE→List AV→ia→Option Out):∀ (m:Nat) c1 s i,At n K m c1 s i=(Rf n m c1 s i).bind (Rh K)
 | 0,_,_,_=>by kernel_rfl
 | m+1,c1,s,i=>by
  have h1:At n K (m+1) c1 s i=vq n c1 s i (At n K m) (fun a=>Rh K (.out a)) (fun a=>Rh K (.ret a)) (fun p=>Rh K (.pan p)):=by kernel_rfl
  have h2:At n K m=fun c1 s i=>(Rf n m c1 s i).bind (Rh K):=by
   repeat (refine funext fun _=>?_)
   exact QJ n K m _ _ _
  rw [h1,h2];exact (dT n m _ _ _ (Rh K)).symm
theorem LQ (n:Nat):Pe tys (da Out (Pr n)) (Bt n) n (Fa [1,1,0,1,0,0] (aa Tryz.f149)) 0:=Qa (sp:=Vw) (rp:=Uw) (by kernel_rfl) fun K σ ρ=>QJ n K n σ.1 σ.2.1 σ.2.2.1
theorem eT (n:Nat):ua tys (da Out (Pr n)) (Bt n) n (aa Tryz.f149) 0:=⟨trivial,⟨trivial,⟨⟨trivial,⟨LQ n,⟨⟨trivial,⟨trivial,trivial⟩⟩,⟨⟨trivial,⟨⟨trivial,trivial⟩,trivial⟩⟩,trivial⟩⟩⟩⟩,⟨trivial,trivial⟩⟩⟩⟩
theorem cV (n:Nat):Enters Tryz.prog 149:=enters_of (c:=aa Tryz.f149) Tryz.func149 (by kernel_rfl) (by kernel_rfl)
def iP (n:Nat):Entry:=⟨149,pcT (.pair (.int .u8) .unit) (.one .bool) (fun xs=>KI n xs.1),none,none⟩
theorem HX (n:Nat):EntryOk Tryz.prog gl (iP n):=
 Oa (cV n) fun xs y h=>ra tys_ok (AD n) mixed (hint:=Bt n) (n:=n) Tryz.func149 (Na (eT n)) (la (φ:=(fun y=>some (Out.ret (Kf (.one .bool) y)))) (by kernel_rfl) (GZ n xs.1 _) h)
def Am (n:Nat):List Entry:=iP n::Pr n
theorem xH (n:Nat):AllOk Tryz.prog gl (Am n):=.cons (HX n) (AD n)
def zm (n:Nat) {R:Type} (l1:(Sq BA)) (i1 k0:Int) (kn:(Sq BA)→Int→Int→Option R) (ko:((Sq BA)×Int)→Option R) (kr:(Bool)→Option R) (kp:Int→Option R):Option R:=
 if 0≤i1∧i1<(l1.n:Int) then
 if (decide (k0<((l1.at' (Int.toNat i1)).size:Int)))=true then
  if 0≤i1∧i1<(l1.n:Int) then
  if 0≤k0∧k0<((l1.at' (Int.toNat i1)).size:Int) then
   (Ov n (bt (l1.at' (Int.toNat i1)) k0)).bind fun v1=>
   if (!v1)=true then
   if 0≤i1∧i1<(l1.n:Int) then
    if 0≤k0∧k0<((l1.at' (Int.toNat i1)).size:Int) then
    (vt n (bt (l1.at' (Int.toNat i1)) k0)).bind fun v2=>
    if (!v2)=true then
     if 0≤i1∧i1<(l1.n:Int) then
     if 0≤k0∧k0<((l1.at' (Int.toNat i1)).size:Int) then
      (KI n (bt (l1.at' (Int.toNat i1)) k0)).bind fun v3=>
      if (!v3)=true then
      kr false
      else
      kn l1 i1 (IntKind.wrap .i64 (k0+(1:Int)))
     else
      none
     else
     none
    else
     kn l1 i1 (IntKind.wrap .i64 (k0+(1:Int)))
    else
    none
   else
    none
   else
   kn l1 i1 (IntKind.wrap .i64 (k0+(1:Int)))
  else
   none
  else
  none
 else
  ko (l1,i1)
 else
 none
def me (n:Nat):Nat→(Sq BA)→Int→Int→Option (Lx ((Sq BA)×Int) (Bool))
 | 0,_,_,_=>none
 | m+1,l1,i1,k0=>zm n l1 i1 k0 (me n m) (fun a=>some (.out a)) (fun a=>some (.ret a)) (fun p=>some (.pan p))
theorem HQ (n m:Nat) {S:Type}:∀ l1 i1 k0 (φ:_→Option S),(me n (m+1) l1 i1 k0).bind φ=zm n l1 i1 k0 (fun l1 i1 k0=>(me n m l1 i1 k0).bind φ) (fun a=>φ (.out a)) (fun a=>φ (.ret a)) (fun p=>φ (.pan p)):=by
 intros;first | (simp only [me,zm,fa,ba,iB,bB,oL,oX,nB,Option.bind_some]) | rfl
def Lu:List Sl:=.top::.top::.top::.dat (.sl .str)::.dat (.int .i64)::.dat (.int .i64)::tp 50 []
def Ku:List RS:=[]
def qH:List Sl:=.top::.top::.top::.dat (.sl .str)::.dat (.int .i64)::tp 51 []
def pH:List RS:=[]
def sH:List Sl:=.top::.top::.dat .bool::tp 53 []
def rH:List RS:=[]
def Gg (K:XE→List AV→ia→Option Out):Lx ((Sq BA)×Int) (Bool)→Option Out:=fun x=>onL x (fun a=>Bk qH pH (a.1,(a.2,())) () (K (.exit 2))) (fun a=>Bk sH rH (a,()) () (K .ret)) (fun _=>none)
def ym (n:Nat) {R:Type} (l:(Sq BA)) (i:Int) (kn:(Sq BA)→Int→Option R) (ko:(Unit)→Option R) (kr:(Bool)→Option R) (kp:Int→Option R):Option R:=
 if (decide (i<(l.n:Int)))=true then
 if 0≤i∧i<(l.n:Int) then
  if ((l.at' (Int.toNat i)).toList==(⟨#[]⟩:BA).toList)=true then
  kr false
  else
  (me n n l i (0:Int)).bind fun x_1=>onL x_1
   (fun a_2=>
   kn a_2.1 (IntKind.wrap .i64 (a_2.2+(1:Int))))
   (fun a_3=>
   kr a_3)
   (fun _=>none)
 else
  none
 else
 ko ()
def le (n:Nat):Nat→(Sq BA)→Int→Option (Lx (Unit) (Bool))
 | 0,_,_=>none
 | m+1,l,i=>ym n l i (le n m) (fun a=>some (.out a)) (fun a=>some (.ret a)) (fun p=>some (.pan p))
theorem GQ (n m:Nat) {S:Type}:∀ l i (φ:_→Option S),(le n (m+1) l i).bind φ=ym n l i (fun l i=>(le n m l i).bind φ) (fun a=>φ (.out a)) (fun a=>φ (.ret a)) (fun p=>φ (.pan p)):=by
 intros;first | (simp only [le,ym,fa,ba,iB,bB,oL,oX,nB,Option.bind_some]) | rfl
def Ju:List Sl:=.top::.top::.top::.dat (.sl .str)::.dat (.int .i64)::tp 51 []
def Iu:List RS:=[]
def lH:List Sl:=tp 56 []
def kH:List RS:=[]
def nH:List Sl:=.top::.top::.dat .bool::tp 53 []
def mH:List RS:=[]
def Fg (K:XE→List AV→ia→Option Out):Lx (Unit) (Bool)→Option Out:=fun x=>onL x (fun a=>Bk lH kH () () (K (.exit 0))) (fun a=>Bk nH mH (a,()) () (K .ret)) (fun _=>none)
def JB (n:Nat) {R:Type} (s:BA) (k:Bool→Option R):Option R:=
 (ot n s (46:Int)).bind fun v=>
 (le n n v (0:Int)).bind fun x_1=>onL x_1
 (fun a_2=>
  k true)
 (fun a_3=>
  k a_3)
 (fun _=>none)
def zt (n:Nat) (s:BA):Option Bool:=JB n s some
theorem FX (n:Nat) {S:Type}:∀ s (φ:_→Option S),(zt n s).bind φ=JB n s φ:=by
 intros;unfold zt JB;first | (simp only [fa,ba,iB,bB,oL,oX,nB,Option.bind_some]) | rfl
def ii (n:Nat):Hint Out:={ live:=fun c=>(cond (Nat.beq c 0) [(3,some (.sl .str)),(4,none)] (cond (Nat.beq c 2) [(3,some (.sl .str)),(4,none),(5,none)] [])),run:=fun c=>(cond (Nat.beq c 0) (some (Ms Ju Iu fun σ ρ K=>(le n n σ.1 σ.2.1).bind (Fg K))) (cond (Nat.beq c 2) (some (Ms Lu Ku fun σ ρ K=>(me n n σ.1 σ.2.1 σ.2.2.1).bind (Gg K))) none)),xm:=fun c q=>(cond (Nat.beq c 0&&Nat.beq (q.getD 1000000) 0&&q.isSome) (some []) (cond (Nat.beq c 2&&Nat.beq (q.getD 1000000) 2&&q.isSome) (some [(3,some (.sl .str)),(4,none)]) (cond (Nat.beq c 3&&q.isNone) (some [(2,none)]) (cond (Nat.beq c 1&&q.isNone) (some [(2,none)]) none)))) }
def jq (n:Nat) (K:XE→List AV→ia→Option Out) (m:Nat) (l1:(Sq BA)) (i1:Int) (k0:Int):Option Out:=Ef tys (da Out (Am n)) (ii n) n (Fa [1,1,0,1,0,0,1,0,0,1,1,0,0] (aa Tryz.f124)) 2 Lu Ku K m (l1,(i1,(k0,()))) ()
theorem oH (n:Nat) (K:XE→List AV→ia→Option Out):∀ (m:Nat) l1 i1 k0,jq n K m l1 i1 k0=(me n m l1 i1 k0).bind (Gg K)
 | 0,_,_,_=>by kernel_rfl
 | m+1,l1,i1,k0=>by
  have h1:jq n K (m+1) l1 i1 k0=zm n l1 i1 k0 (jq n K m) (fun a=>Gg K (.out a)) (fun a=>Gg K (.ret a)) (fun p=>Gg K (.pan p)):=by kernel_rfl
  have h2:jq n K m=fun l1 i1 k0=>(me n m l1 i1 k0).bind (Gg K):=by
   repeat (refine funext fun _=>?_)
   exact oH n K m _ _ _
  rw [h1,h2];exact (HQ n m _ _ _ (Gg K)).symm
theorem lO (n:Nat):Pe tys (da Out (Am n)) (ii n) n (Fa [1,1,0,1,0,0,1,0,0,1,1,0,0] (aa Tryz.f124)) 2:=Qa (sp:=Lu) (rp:=Ku) (by kernel_rfl) fun K σ ρ=>oH n K n σ.1 σ.2.1 σ.2.2.1
def iq (n:Nat) (K:XE→List AV→ia→Option Out) (m:Nat) (l:(Sq BA)) (i:Int):Option Out:=Ef tys (da Out (Am n)) (ii n) n (Fa [1,1,0,1,0,0] (aa Tryz.f124)) 0 Ju Iu K m (l,(i,())) ()
theorem jH (n:Nat) (K:XE→List AV→ia→Option Out):∀ (m:Nat) l i,iq n K m l i=(le n m l i).bind (Fg K)
 | 0,_,_=>by kernel_rfl
 | m+1,l,i=>by
  have h1:iq n K (m+1) l i=ym n l i (iq n K m) (fun a=>Fg K (.out a)) (fun a=>Fg K (.ret a)) (fun p=>Fg K (.pan p)):=by kernel_rfl
  have h2:iq n K m=fun l i=>(le n m l i).bind (Fg K):=by
   repeat (refine funext fun _=>?_)
   exact jH n K m _ _
  rw [h1,h2];exact (GQ n m _ _ (Fg K)).symm
theorem kO (n:Nat):Pe tys (da Out (Am n)) (ii n) n (Fa [1,1,0,1,0,0] (aa Tryz.f124)) 0:=Qa (sp:=Ju) (rp:=Iu) (by kernel_rfl) fun K σ ρ=>jH n K n σ.1 σ.2.1
theorem IQ (n:Nat):ua tys (da Out (Am n)) (ii n) n (aa Tryz.f124) 0:=⟨trivial,⟨trivial,⟨⟨trivial,⟨kO n,⟨⟨trivial,⟨trivial,trivial⟩⟩,⟨⟨⟨trivial,⟨⟨trivial,trivial⟩,trivial⟩⟩,⟨trivial,⟨lO n,⟨⟨trivial,⟨trivial,trivial⟩⟩,⟨⟨trivial,⟨⟨trivial,trivial⟩,trivial⟩⟩,trivial⟩⟩⟩⟩⟩,trivial⟩⟩⟩⟩,⟨trivial,trivial⟩⟩⟩⟩
theorem bT (n:Nat):Enters Tryz.prog 124:=enters_of (c:=aa Tryz.f124) Tryz.func124 (by kernel_rfl) (by kernel_rfl)
def FM (n:Nat):Entry:=⟨124,pcT (.pair .str .unit) (.one .bool) (fun xs=>zt n xs.1),none,none⟩
theorem ZU (n:Nat):EntryOk Tryz.prog gl (FM n):=
 Oa (bT n) fun xs y h=>ra tys_ok (xH n) mixed (hint:=ii n) (n:=n) Tryz.func124 (Na (IQ n)) (la (φ:=(fun y=>some (Out.ret (Kf (.one .bool) y)))) (by kernel_rfl) (FX n xs.1 _) h)
def Sr (n:Nat):List Entry:=FM n::Am n
theorem DD (n:Nat):AllOk Tryz.prog gl (Sr n):=.cons (ZU n) (xH n)
def Mh (n:Nat) {R:Type} (i:Int) (b:(Sq Int)) (kn:Int→(Sq Int)→Option R) (ko:((Sq Int))→Option R) (kr:Unit→Option R) (kp:Int→Option R):Option R:=
 if (decide (i<(b.n:Int)))=true then
 if 0≤i∧i<(b.n:Int) then
  if (decide ((b.at' (Int.toNat i))≥(65:Int)))=true then
  if 0≤i∧i<(b.n:Int) then
   if (decide ((b.at' (Int.toNat i))≤(90:Int)))=true then
   if 0≤i∧i<(b.n:Int) then
    if 0≤i∧i<(b.n:Int) then
    kn (IntKind.wrap .i64 (i+(1:Int))) (⟨b.n,fun q=>if q=(Int.toNat i)∧q<b.n then (IntKind.wrap .u8 ((b.at' (Int.toNat i))+(32:Int))) else b.at' q⟩:Sq Int)
    else
    none
   else
    none
   else
   kn (IntKind.wrap .i64 (i+(1:Int))) b
  else
   none
  else
  kn (IntKind.wrap .i64 (i+(1:Int))) b
 else
  none
 else
 ko b
def Dc (n:Nat):Nat→Int→(Sq Int)→Option (Lx ((Sq Int)) Unit)
 | 0,_,_=>none
 | m+1,i,b=>Mh n i b (Dc n m) (fun a=>some (.out a)) (fun a=>some (.ret a)) (fun p=>some (.pan p))
theorem oQ (n m:Nat) {S:Type}:∀ i b (φ:_→Option S),(Dc n (m+1) i b).bind φ=Mh n i b (fun i b=>(Dc n m i b).bind φ) (fun a=>φ (.out a)) (fun a=>φ (.ret a)) (fun p=>φ (.pan p)):=by
 intros;first | (simp only [Dc,Mh,fa,ba,iB,bB,oL,oX,nB,Option.bind_some]) | rfl
def vu:List Sl:=.top::.top::.top::.row 0::.dat (.int .i64)::tp 30 []
def uu:List RS:=[.row 5 1 (.int .u8) false true]
def xG:List Sl:=.top::.top::.top::.row 0::tp 31 []
def wG:List RS:=[.row 5 1 (.int .u8) false true]
def yg (K:XE→List AV→ia→Option Out):Lx ((Sq Int)) Unit→Option Out:=fun x=>onL x (fun a=>Bk xG wG () (a,()) (K (.exit 0))) (fun _=>none) (fun _=>none)
def BB (n:Nat) {R:Type} (s:BA) (k:BA→Option R):Option R:=
 (Dc n n (0:Int) (⟨s.size,fun q=>bt s q⟩:Sq Int)).bind fun x_1=>onL x_1
 (fun a_2=>
  k (ah a_2.n a_2.at'))
 (fun _=>none)
 (fun _=>none)
def xl (n:Nat) (s:BA):Option BA:=BB n s some
theorem qX (n:Nat) {S:Type}:∀ s (φ:_→Option S),(xl n s).bind φ=BB n s φ:=by
 intros;unfold xl BB;first | (simp only [fa,ba,iB,bB,oL,oX,nB,Option.bind_some]) | rfl
def Up (n:Nat):Hint Out:={ live:=fun c=>(cond (Nat.beq c 0) [(3,some (.sl (.int .u8))),(4,none)] []),run:=fun c=>(cond (Nat.beq c 0) (some (Ms vu uu fun σ ρ K=>(Dc n n σ.1 ρ.1).bind (yg K))) none),xm:=fun c q=>(cond (Nat.beq c 0&&Nat.beq (q.getD 1000000) 0&&q.isSome) (some [(3,some (.sl (.int .u8)))]) none) }
def Tp (n:Nat) (K:XE→List AV→ia→Option Out) (m:Nat) (i:Int) (b:(Sq Int)):Option Out:=Ef tys (da Out (Sr n)) (Up n) n (Fa [1,1,0,1,0,0] (aa Tryz.f125)) 0 vu uu K m (i,()) (b,())
theorem vG (n:Nat) (K:XE→List AV→ia→Option Out):∀ (m:Nat) i b,Tp n K m i b=(Dc n m i b).bind (yg K)
 | 0,_,_=>by kernel_rfl
 | m+1,i,b=>by
  have h1:Tp n K (m+1) i b=Mh n i b (Tp n K m) (fun a=>yg K (.out a)) (fun a=>yg K (.ret a)) (fun p=>yg K (.pan p)):=by kernel_rfl
  have h2:Tp n K m=fun i b=>(Dc n m i b).bind (yg K):=by
   repeat (refine funext fun _=>?_)
   exact vG n K m _ _
  rw [h1,h2];exact (oQ n m _ _ (yg K)).symm
theorem ZN (n:Nat):Pe tys (da Out (Sr n)) (Up n) n (Fa [1,1,0,1,0,0] (aa Tryz.f125)) 0:=Qa (sp:=vu) (rp:=uu) (by kernel_rfl) fun K σ ρ=>vG n K n σ.1 ρ.1
theorem pQ (n:Nat):ua tys (da Out (Sr n)) (Up n) n (aa Tryz.f125) 0:=⟨trivial,⟨trivial,⟨⟨trivial,⟨ZN n,⟨⟨trivial,⟨trivial,trivial⟩⟩,⟨⟨trivial,⟨trivial,trivial⟩⟩,trivial⟩⟩⟩⟩,⟨trivial,trivial⟩⟩⟩⟩
theorem GS (n:Nat):Enters Tryz.prog 125:=enters_of (c:=aa Tryz.f125) Tryz.func125 (by kernel_rfl) (by kernel_rfl)
def pM (n:Nat):Entry:=⟨125,pcT (.pair .str .unit) (.one .str) (fun xs=>xl n xs.1),none,none⟩
theorem IU (n:Nat):EntryOk Tryz.prog gl (pM n):=
 Oa (GS n) fun xs y h=>ra tys_ok (DD n) mixed (hint:=Up n) (n:=n) Tryz.func125 (Na (pQ n)) (la (φ:=(fun y=>some (Out.ret (Kf (.one .str) y)))) (by kernel_rfl) (qX n xs.1 _) h)
def HE (n:Nat):List Entry:=pM n::Sr n
theorem rD (n:Nat):AllOk Tryz.prog gl (HE n):=.cons (IU n) (DD n)
def GB (n:Nat) {R:Type} (s:BA) (k:Bool→Option R):Option R:=
 if (decide ((s.size:Int)<(1:Int)))=false then
 if (decide ((s.size:Int)>(64:Int)))=true then
  k false
 else
  if 0≤(0:Int)∧(0:Int)<(s.size:Int) then
  if ((bt s (0:Int)) !=(34:Int))=true then
   (zt n s).bind fun v=>
   k v
  else
   (wt n s).bind fun v1=>
   if v1.2.2.1=true then
   if (v1.2.1==(s.size:Int))=true then
    (zt n v1.1).bind fun v2=>
    if (!v2)=true then
    (Tw n v1.1).bind fun v3=>
    k (v3.toList==s.toList)
    else
    k false
   else
    k false
   else
   k false
  else
  none
 else
 k false
def FB (n:Nat) (s:BA):Option Bool:=GB n s some
theorem yX (n:Nat) {S:Type}:∀ s (φ:_→Option S),(FB n s).bind φ=GB n s φ:=by
 intros;unfold FB GB;first | (simp only [fa,ba,iB,bB,oL,oX,nB,Option.bind_some]) | rfl
def UG (n:Nat):Hint Out:={ live:=fun c=>[],run:=fun c=>none,xm:=fun c q=>none }
theorem zQ (n:Nat):ua tys (da Out (HE n)) (UG n) n (aa Tryz.f150) 0:=ma (fun _=>rfl) _ _ (by kernel_rfl)
theorem SS (n:Nat):Enters Tryz.prog 150:=enters_of (c:=aa Tryz.f150) Tryz.func150 (by kernel_rfl) (by kernel_rfl)
def yM (n:Nat):Entry:=⟨150,pcT (.pair .str .unit) (.one .bool) (fun xs=>FB n xs.1),none,none⟩
theorem RU (n:Nat):EntryOk Tryz.prog gl (yM n):=
 Oa (SS n) fun xs y h=>ra tys_ok (rD n) mixed (hint:=UG n) (n:=n) Tryz.func150 (Na (zQ n)) (la (φ:=(fun y=>some (Out.ret (Kf (.one .bool) y)))) (by kernel_rfl) (yX n xs.1 _) h)
def Mr (n:Nat):List Entry:=yM n::HE n
theorem xD (n:Nat):AllOk Tryz.prog gl (Mr n):=.cons (RU n) (rD n)
def Nh (n:Nat) {R:Type} (s1:BA) (n0 i:Int) (kn:BA→Int→Int→Option R) (ko:(Int)→Option R) (kr:(Int×Bool)→Option R) (kp:Int→Option R):Option R:=
 if (decide (i<(s1.size:Int)))=true then
 if 0≤i∧i<(s1.size:Int) then
  if (decide ((bt s1 i)<(48:Int)))=false then
  if 0≤i∧i<(s1.size:Int) then
   if (decide ((bt s1 i)>(57:Int)))=true then
   kr ((0:Int),false)
   else
   if 0≤i∧i<(s1.size:Int) then
    kn s1 (IntKind.wrap .i64 ((IntKind.wrap .i64 ((10:Int)*n0))+(IntKind.wrap .i64 (IntKind.wrap .u8 ((bt s1 i) - (48:Int)))))) (IntKind.wrap .i64 (i+(1:Int)))
   else
    none
  else
   none
  else
  kr ((0:Int),false)
 else
  none
 else
 ko n0
def Ec (n:Nat):Nat→BA→Int→Int→Option (Lx (Int) (Int×Bool))
 | 0,_,_,_=>none
 | m+1,s1,n0,i=>Nh n s1 n0 i (Ec n m) (fun a=>some (.out a)) (fun a=>some (.ret a)) (fun p=>some (.pan p))
theorem sQ (n m:Nat) {S:Type}:∀ s1 n0 i (φ:_→Option S),(Ec n (m+1) s1 n0 i).bind φ=Nh n s1 n0 i (fun s1 n0 i=>(Ec n m s1 n0 i).bind φ) (fun a=>φ (.out a)) (fun a=>φ (.ret a)) (fun p=>φ (.pan p)):=by
 intros;first | (simp only [Ec,Nh,fa,ba,iB,bB,oL,oX,nB,Option.bind_some]) | rfl
def Au:List Sl:=.dat .str::.top::.top::.top::.dat (.int .i64)::.dat (.int .i64)::tp 42 []
def zu:List RS:=[]
def DG:List Sl:=tp 4 (.dat (.int .i64)::tp 43 [])
def CG:List RS:=[]
def GG:List Sl:=.top::.top::.dat (.int .i64)::.dat .bool::tp 44 []
def EG:List RS:=[]
def Ag (K:XE→List AV→ia→Option Out):Lx (Int) (Int×Bool)→Option Out:=fun x=>onL x (fun a=>Bk DG CG (a,()) () (K (.exit 0))) (fun a=>Bk GG EG (a.1,(a.2,())) () (K .ret)) (fun _=>none)
def EB (n:Nat) {R:Type} (s:BA) (k:(Int×Bool×Unit)→Option R):Option R:=
 if (s.toList==(⟨#[]⟩:BA).toList)=false then
 if (decide ((s.size:Int)>(16:Int)))=false then
  if (decide ((s.size:Int)>(1:Int)))=true then
  if 0≤(0:Int)∧(0:Int)<(s.size:Int) then
   if ((bt s (0:Int))==(48:Int))=true then
   k ((0:Int),(false,()))
   else
   (Ec n n s (0:Int) (0:Int)).bind fun x_1=>onL x_1
    (fun a_2=>
    k (a_2,(true,())))
    (fun a_3=>
    k (a_3.1,(a_3.2,())))
    (fun _=>none)
  else
   none
  else
  (Ec n n s (0:Int) (0:Int)).bind fun x_4=>onL x_4
   (fun a_5=>
   k (a_5,(true,())))
   (fun a_6=>
   k (a_6.1,(a_6.2,())))
   (fun _=>none)
 else
  k ((0:Int),(false,()))
 else
 k ((0:Int),(false,()))
def DB (n:Nat) (s:BA):Option (Int×Bool×Unit):=EB n s some
theorem sX (n:Nat) {S:Type}:∀ s (φ:_→Option S),(DB n s).bind φ=EB n s φ:=by
 intros;unfold DB EB;first | (simp only [fa,ba,iB,bB,oL,oX,nB,Option.bind_some]) | rfl
def Yp (n:Nat):Hint Out:={ live:=fun c=>(cond (Nat.beq c 0) (lv [0,4,5]) []),run:=fun c=>(cond (Nat.beq c 0) (some (Ms Au zu fun σ ρ K=>(Ec n n σ.1 σ.2.1 σ.2.2.1).bind (Ag K))) none),xm:=fun c q=>(cond (Nat.beq c 0&&Nat.beq (q.getD 1000000) 0&&q.isSome) (some [(4,none)]) (cond (Nat.beq c 1&&q.isNone) (some [(2,none),(3,none)]) none)) }
def Xp (n:Nat) (K:XE→List AV→ia→Option Out) (m:Nat) (s1:BA) (n0:Int) (i:Int):Option Out:=Ef tys (da Out (Mr n)) (Yp n) n (Fa [1,1,1,0,1,0,0] (aa Tryz.f84)) 0 Au zu K m (s1,(n0,(i,()))) ()
theorem BG (n:Nat) (K:XE→List AV→ia→Option Out):∀ (m:Nat) s1 n0 i,Xp n K m s1 n0 i=(Ec n m s1 n0 i).bind (Ag K)
 | 0,_,_,_=>by kernel_rfl
 | m+1,s1,n0,i=>by
  have h1:Xp n K (m+1) s1 n0 i=Nh n s1 n0 i (Xp n K m) (fun a=>Ag K (.out a)) (fun a=>Ag K (.ret a)) (fun p=>Ag K (.pan p)):=by kernel_rfl
  have h2:Xp n K m=fun s1 n0 i=>(Ec n m s1 n0 i).bind (Ag K):=by
   repeat (refine funext fun _=>?_)
   exact BG n K m _ _ _
  rw [h1,h2];exact (sQ n m _ _ _ (Ag K)).symm
theorem bO (n:Nat):Pe tys (da Out (Mr n)) (Yp n) n (Fa [1,1,1,0,1,0,0] (aa Tryz.f84)) 0:=Qa (sp:=Au) (rp:=zu) (by kernel_rfl) fun K σ ρ=>BG n K n σ.1 σ.2.1 σ.2.2.1
theorem tQ (n:Nat):ua tys (da Out (Mr n)) (Yp n) n (aa Tryz.f84) 0:=⟨trivial,⟨⟨trivial,⟨⟨trivial,trivial⟩,trivial⟩⟩,⟨trivial,⟨⟨trivial,⟨bO n,⟨⟨trivial,⟨trivial,trivial⟩⟩,⟨⟨⟨trivial,⟨⟨trivial,trivial⟩,trivial⟩⟩,trivial⟩,trivial⟩⟩⟩⟩,⟨trivial,trivial⟩⟩⟩⟩⟩
theorem IS (n:Nat):Enters Tryz.prog 84:=enters_of (c:=aa Tryz.f84) Tryz.func84 (by kernel_rfl) (by kernel_rfl)
def rM (n:Nat):Entry:=⟨84,pcT (.pair .str .unit) (.many (.pair (.int .i64) (.pair .bool .unit))) (fun xs=>DB n xs.1),none,none⟩
theorem KU (n:Nat):EntryOk Tryz.prog gl (rM n):=
 Oa (IS n) fun xs y h=>ra tys_ok (xD n) mixed (hint:=Yp n) (n:=n) Tryz.func84 (Na (tQ n)) (la (φ:=(fun y=>some (Out.ret (Kf (.many (.pair (.int .i64) (.pair .bool .unit))) y)))) (by kernel_rfl) (sX n xs.1 _) h)
def Hr (n:Nat):List Entry:=rM n::Mr n
theorem tD (n:Nat):AllOk Tryz.prog gl (Hr n):=.cons (KU n) (xD n)
def fi (n:Nat) {R:Type} (l:(Sq BA)) (i:Int) (kn:(Sq BA)→Int→Option R) (ko:((Sq BA))→Option R) (kr:(Bool)→Option R) (kp:Int→Option R):Option R:=
 if (decide (i<(l.n:Int)))=true then
 if 0≤i∧i<(l.n:Int) then
  (DB n (l.at' (Int.toNat i))).bind fun v1=>
  if (!v1.2.1)=false then
  if (decide (v1.1>(255:Int)))=true then
   kr false
  else
   kn l (IntKind.wrap .i64 (i+(1:Int)))
  else
  kr false
 else
  none
 else
 ko l
def Fc (n:Nat):Nat→(Sq BA)→Int→Option (Lx ((Sq BA)) (Bool))
 | 0,_,_=>none
 | m+1,l,i=>fi n l i (Fc n m) (fun a=>some (.out a)) (fun a=>some (.ret a)) (fun p=>some (.pan p))
theorem vM (n m:Nat) {S:Type}:∀ l i (φ:_→Option S),(Fc n (m+1) l i).bind φ=fi n l i (fun l i=>(Fc n m l i).bind φ) (fun a=>φ (.out a)) (fun a=>φ (.ret a)) (fun p=>φ (.pan p)):=by
 intros;first | (simp only [Fc,fi,fa,ba,iB,bB,oL,oX,nB,Option.bind_some]) | rfl
def ro:List Sl:=.top::.top::.top::.dat (.sl .str)::.dat (.int .i64)::tp 47 []
def qo:List RS:=[]
def MC:List Sl:=.top::.top::.top::.dat (.sl .str)::tp 48 []
def LC:List RS:=[]
def OC:List Sl:=.top::.top::.dat .bool::tp 49 []
def NC:List RS:=[]
def ke (K:XE→List AV→ia→Option Out):Lx ((Sq BA)) (Bool)→Option Out:=fun x=>onL x (fun a=>Bk MC LC (a,()) () (K (.exit 0))) (fun a=>Bk OC NC (a,()) () (K .ret)) (fun _=>none)
def ut (n:Nat) {R:Type} (s:BA) (k:Bool→Option R):Option R:=
 if (decide ((s.size:Int)<(2:Int)))=false then
 if 0≤(0:Int)∧(0:Int)<(s.size:Int) then
  if ((bt s (0:Int)) !=(91:Int))=false then
  if 0≤(IntKind.wrap .i64 ((s.size:Int) - (1:Int)))∧(IntKind.wrap .i64 ((s.size:Int) - (1:Int)))<(s.size:Int) then
   if ((bt s (IntKind.wrap .i64 ((s.size:Int) - (1:Int)))) !=(93:Int))=true then
   k false
   else
   if 0≤(IntKind.wrap .i64 ((s.size:Int) - (1:Int)))∧(IntKind.wrap .i64 ((s.size:Int) - (1:Int)))≤(s.size:Int) then
    if 0≤(1:Int)∧(1:Int)≤(IntKind.wrap .i64 ((s.size:Int) - (1:Int))) then
    (ot n (s.extract (Int.toNat (1:Int)) (Int.toNat (IntKind.wrap .i64 ((s.size:Int) - (1:Int))))) (46:Int)).bind fun v=>
    (Fc n n v (0:Int)).bind fun x_1=>onL x_1
     (fun a_2=>
     k ((a_2.n:Int)==(4:Int)))
     (fun a_3=>
     k a_3)
     (fun _=>none)
    else
    none
   else
    none
  else
   none
  else
  k false
 else
  none
 else
 k false
def uq (n:Nat) (s:BA):Option Bool:=ut n s some
theorem QS (n:Nat) {S:Type}:∀ s (φ:_→Option S),(uq n s).bind φ=ut n s φ:=by
 intros;unfold uq ut;first | (simp only [fa,ba,iB,bB,oL,oX,nB,Option.bind_some]) | rfl
def zl (n:Nat):Hint Out:={ live:=fun c=>(cond (Nat.beq c 0) [(3,some (.sl .str)),(4,none)] []),run:=fun c=>(cond (Nat.beq c 0) (some (Ms ro qo fun σ ρ K=>(Fc n n σ.1 σ.2.1).bind (ke K))) none),xm:=fun c q=>(cond (Nat.beq c 0&&Nat.beq (q.getD 1000000) 0&&q.isSome) (some [(3,some (.sl .str))]) (cond (Nat.beq c 1&&q.isNone) (some [(2,none)]) none)) }
def yl (n:Nat) (K:XE→List AV→ia→Option Out) (m:Nat) (l:(Sq BA)) (i:Int):Option Out:=Ef tys (da Out (Hr n)) (zl n) n (Fa [1,1,1,0,1,0,0] (aa Tryz.f47)) 0 ro qo K m (l,(i,())) ()
theorem yA (n:Nat) (K:XE→List AV→ia→Option Out):∀ (m:Nat) l i,yl n K m l i=(Fc n m l i).bind (ke K)
 | 0,_,_=>by kernel_rfl
 | m+1,l,i=>by
  have h1:yl n K (m+1) l i=fi n l i (yl n K m) (fun a=>ke K (.out a)) (fun a=>ke K (.ret a)) (fun p=>ke K (.pan p)):=by kernel_rfl
  have h2:yl n K m=fun l i=>(Fc n m l i).bind (ke K):=by
   repeat (refine funext fun _=>?_)
   exact yA n K m _ _
  rw [h1,h2];exact (vM n m _ _ (ke K)).symm
theorem sK (n:Nat):Pe tys (da Out (Hr n)) (zl n) n (Fa [1,1,1,0,1,0,0] (aa Tryz.f47)) 0:=Qa (sp:=ro) (rp:=qo) (by kernel_rfl) fun K σ ρ=>yA n K n σ.1 σ.2.1
theorem xM (n:Nat):ua tys (da Out (Hr n)) (zl n) n (aa Tryz.f47) 0:=⟨trivial,⟨⟨trivial,⟨⟨trivial,trivial⟩,trivial⟩⟩,⟨trivial,⟨⟨trivial,⟨sK n,⟨⟨trivial,⟨trivial,trivial⟩⟩,⟨⟨trivial,⟨trivial,⟨⟨trivial,trivial⟩,trivial⟩⟩⟩,trivial⟩⟩⟩⟩,⟨trivial,trivial⟩⟩⟩⟩⟩
theorem gO (n:Nat):Enters Tryz.prog 47:=enters_of (c:=aa Tryz.f47) Tryz.func47 (by kernel_rfl) (by kernel_rfl)
def TG (n:Nat):Entry:=⟨47,pcT (.pair .str .unit) (.one .bool) (fun xs=>uq n xs.1),none,none⟩
theorem yQ (n:Nat):EntryOk Tryz.prog gl (TG n):=
 Oa (gO n) fun xs y h=>ra tys_ok (tD n) mixed (hint:=zl n) (n:=n) Tryz.func47 (Na (xM n)) (la (φ:=(fun y=>some (Out.ret (Kf (.one .bool) y)))) (by kernel_rfl) (QS n xs.1 _) h)
def Cg (n:Nat):List Entry:=TG n::Hr n
theorem Fx (n:Nat):AllOk Tryz.prog gl (Cg n):=.cons (yQ n) (tD n)
def qk (n:Nat) {R:Type} (l1:(Sq BA)) (i1:Int) (w:BA) (k0:Int) (kn:(Sq BA)→Int→BA→Int→Option R) (ko:((Sq BA)×Int)→Option R) (kr:(Bool)→Option R) (kp:Int→Option R):Option R:=
 if (decide (k0<(w.size:Int)))=true then
 if 0≤k0∧k0<(w.size:Int) then
  if (decide ((bt w k0)≥(97:Int)))=true then
  if 0≤k0∧k0<(w.size:Int) then
   if (!(decide ((bt w k0)≤(122:Int))))=true then
   if 0≤k0∧k0<(w.size:Int) then
    (vt n (bt w k0)).bind fun v2=>
    if (!v2)=true then
    if 0≤k0∧k0<(w.size:Int) then
     if ((bt w k0) !=(45:Int))=true then
     kr false
     else
     kn l1 i1 w (IntKind.wrap .i64 (k0+(1:Int)))
    else
     none
    else
    kn l1 i1 w (IntKind.wrap .i64 (k0+(1:Int)))
   else
    none
   else
   kn l1 i1 w (IntKind.wrap .i64 (k0+(1:Int)))
  else
   none
  else
  if 0≤k0∧k0<(w.size:Int) then
   (vt n (bt w k0)).bind fun v3=>
   if (!v3)=true then
   if 0≤k0∧k0<(w.size:Int) then
    if ((bt w k0) !=(45:Int))=true then
    kr false
    else
    kn l1 i1 w (IntKind.wrap .i64 (k0+(1:Int)))
   else
    none
   else
   kn l1 i1 w (IntKind.wrap .i64 (k0+(1:Int)))
  else
   none
 else
  none
 else
 ko (l1,i1)
def vd (n:Nat):Nat→(Sq BA)→Int→BA→Int→Option (Lx ((Sq BA)×Int) (Bool))
 | 0,_,_,_,_=>none
 | m+1,l1,i1,w,k0=>qk n l1 i1 w k0 (vd n m) (fun a=>some (.out a)) (fun a=>some (.ret a)) (fun p=>some (.pan p))
theorem eO (n m:Nat) {S:Type}:∀ l1 i1 w k0 (φ:_→Option S),(vd n (m+1) l1 i1 w k0).bind φ=qk n l1 i1 w k0 (fun l1 i1 w k0=>(vd n m l1 i1 w k0).bind φ) (fun a=>φ (.out a)) (fun a=>φ (.ret a)) (fun p=>φ (.pan p)):=by
 intros;first | (simp only [vd,qk,fa,ba,iB,bB,oL,oX,nB,Option.bind_some]) | rfl
def Lr:List Sl:=.top::.top::.top::.dat (.sl .str)::.dat (.int .i64)::.dat .str::.dat (.int .i64)::tp 68 []
def Kr:List RS:=[]
def PE:List Sl:=.top::.top::.top::.dat (.sl .str)::.dat (.int .i64)::tp 70 []
def OE:List RS:=[]
def RE:List Sl:=.top::.top::.dat .bool::tp 72 []
def QE:List RS:=[]
def Cf (K:XE→List AV→ia→Option Out):Lx ((Sq BA)×Int) (Bool)→Option Out:=fun x=>onL x (fun a=>Bk PE OE (a.1,(a.2,())) () (K (.exit 2))) (fun a=>Bk RE QE (a,()) () (K .ret)) (fun _=>none)
def nk (n:Nat) {R:Type} (l:(Sq BA)) (i:Int) (kn:(Sq BA)→Int→Option R) (ko:(Unit)→Option R) (kr:(Bool)→Option R) (kp:Int→Option R):Option R:=
 if (decide (i<(l.n:Int)))=true then
 if 0≤i∧i<(l.n:Int) then
  if (decide (((l.at' (Int.toNat i)).size:Int)<(1:Int)))=false then
  if (decide (((l.at' (Int.toNat i)).size:Int)>(63:Int)))=false then
   if 0≤(0:Int)∧(0:Int)<((l.at' (Int.toNat i)).size:Int) then
   if ((bt (l.at' (Int.toNat i)) (0:Int))==(45:Int))=false then
    if 0≤(IntKind.wrap .i64 (((l.at' (Int.toNat i)).size:Int) - (1:Int)))∧(IntKind.wrap .i64 (((l.at' (Int.toNat i)).size:Int) - (1:Int)))<((l.at' (Int.toNat i)).size:Int) then
    if ((bt (l.at' (Int.toNat i)) (IntKind.wrap .i64 (((l.at' (Int.toNat i)).size:Int) - (1:Int))))==(45:Int))=true then
     kr false
    else
     (vd n n l i (l.at' (Int.toNat i)) (0:Int)).bind fun x_1=>onL x_1
     (fun a_2=>
      kn a_2.1 (IntKind.wrap .i64 (a_2.2+(1:Int))))
     (fun a_3=>
      kr a_3)
     (fun _=>none)
    else
    none
   else
    kr false
   else
   none
  else
   kr false
  else
  kr false
 else
  none
 else
 ko ()
def ud (n:Nat):Nat→(Sq BA)→Int→Option (Lx (Unit) (Bool))
 | 0,_,_=>none
 | m+1,l,i=>nk n l i (ud n m) (fun a=>some (.out a)) (fun a=>some (.ret a)) (fun p=>some (.pan p))
theorem dO (n m:Nat) {S:Type}:∀ l i (φ:_→Option S),(ud n (m+1) l i).bind φ=nk n l i (fun l i=>(ud n m l i).bind φ) (fun a=>φ (.out a)) (fun a=>φ (.ret a)) (fun p=>φ (.pan p)):=by
 intros;first | (simp only [ud,nk,fa,ba,iB,bB,oL,oX,nB,Option.bind_some]) | rfl
def Jr:List Sl:=.top::.top::.top::.dat (.sl .str)::.dat (.int .i64)::tp 70 []
def Ir:List RS:=[]
def LE:List Sl:=tp 75 []
def KE:List RS:=[]
def NE:List Sl:=.top::.top::.dat .bool::tp 72 []
def ME:List RS:=[]
def Bf (K:XE→List AV→ia→Option Out):Lx (Unit) (Bool)→Option Out:=fun x=>onL x (fun a=>Bk LE KE () () (K (.exit 0))) (fun a=>Bk NE ME (a,()) () (K .ret)) (fun _=>none)
def Rw (n:Nat) {R:Type} (s:BA) (k:Bool→Option R):Option R:=
 if (decide ((s.size:Int)>(255:Int)))=true then
 k false
 else
 (uq n s).bind fun v=>
 if v=true then
  k true
 else
  (ot n s (46:Int)).bind fun v1=>
  (ud n n v1 (0:Int)).bind fun x_1=>onL x_1
  (fun a_2=>
   k true)
  (fun a_3=>
   k a_3)
  (fun _=>none)
def Nv (n:Nat) (s:BA):Option Bool:=Rw n s some
theorem QU (n:Nat) {S:Type}:∀ s (φ:_→Option S),(Nv n s).bind φ=Rw n s φ:=by
 intros;unfold Nv Rw;first | (simp only [fa,ba,iB,bB,oL,oX,nB,Option.bind_some]) | rfl
def ch (n:Nat):Hint Out:={ live:=fun c=>(cond (Nat.beq c 0) [(3,some (.sl .str)),(4,none)] (cond (Nat.beq c 2) [(3,some (.sl .str)),(4,none),(5,none),(6,none)] [])),run:=fun c=>(cond (Nat.beq c 0) (some (Ms Jr Ir fun σ ρ K=>(ud n n σ.1 σ.2.1).bind (Bf K))) (cond (Nat.beq c 2) (some (Ms Lr Kr fun σ ρ K=>(vd n n σ.1 σ.2.1 σ.2.2.1 σ.2.2.2.1).bind (Cf K))) none)),xm:=fun c q=>(cond (Nat.beq c 0&&Nat.beq (q.getD 1000000) 0&&q.isSome) (some []) (cond (Nat.beq c 2&&Nat.beq (q.getD 1000000) 2&&q.isSome) (some [(3,some (.sl .str)),(4,none)]) (cond (Nat.beq c 3&&q.isNone) (some [(2,none)]) (cond (Nat.beq c 1&&q.isNone) (some [(2,none)]) none)))) }
def Ym (n:Nat) (K:XE→List AV→ia→Option Out) (m:Nat) (l1:(Sq BA)) (i1:Int) (w:BA) (k0:Int):Option Out:=Ef tys (da Out (Cg n)) (ch n) n (Fa [1,1,1,1,0,1,0,0,1,0,0,1,1,1,0,0] (aa Tryz.f31)) 2 Lr Kr K m (l1,(i1,(w,(k0,())))) ()
theorem wD (n:Nat) (K:XE→List AV→ia→Option Out):∀ (m:Nat) l1 i1 w k0,Ym n K m l1 i1 w k0=(vd n m l1 i1 w k0).bind (Cf K)
 | 0,_,_,_,_=>by kernel_rfl
 | m+1,l1,i1,w,k0=>by
  have h1:Ym n K (m+1) l1 i1 w k0=qk n l1 i1 w k0 (Ym n K m) (fun a=>Cf K (.out a)) (fun a=>Cf K (.ret a)) (fun p=>Cf K (.pan p)):=by kernel_rfl
  have h2:Ym n K m=fun l1 i1 w k0=>(vd n m l1 i1 w k0).bind (Cf K):=by
   repeat (refine funext fun _=>?_)
   exact wD n K m _ _ _ _
  rw [h1,h2];exact (eO n m _ _ _ _ (Cf K)).symm
theorem uM (n:Nat):Pe tys (da Out (Cg n)) (ch n) n (Fa [1,1,1,1,0,1,0,0,1,0,0,1,1,1,0,0] (aa Tryz.f31)) 2:=Qa (sp:=Lr) (rp:=Kr) (by kernel_rfl) fun K σ ρ=>wD n K n σ.1 σ.2.1 σ.2.2.1 σ.2.2.2.1
def Xm (n:Nat) (K:XE→List AV→ia→Option Out) (m:Nat) (l:(Sq BA)) (i:Int):Option Out:=Ef tys (da Out (Cg n)) (ch n) n (Fa [1,1,1,1,0,1,0,0] (aa Tryz.f31)) 0 Jr Ir K m (l,(i,())) ()
theorem vD (n:Nat) (K:XE→List AV→ia→Option Out):∀ (m:Nat) l i,Xm n K m l i=(ud n m l i).bind (Bf K)
 | 0,_,_=>by kernel_rfl
 | m+1,l,i=>by
  have h1:Xm n K (m+1) l i=nk n l i (Xm n K m) (fun a=>Bf K (.out a)) (fun a=>Bf K (.ret a)) (fun p=>Bf K (.pan p)):=by kernel_rfl
  have h2:Xm n K m=fun l i=>(ud n m l i).bind (Bf K):=by
   repeat (refine funext fun _=>?_)
   exact vD n K m _ _
  rw [h1,h2];exact (dO n m _ _ (Bf K)).symm
theorem tM (n:Nat):Pe tys (da Out (Cg n)) (ch n) n (Fa [1,1,1,1,0,1,0,0] (aa Tryz.f31)) 0:=Qa (sp:=Jr) (rp:=Ir) (by kernel_rfl) fun K σ ρ=>vD n K n σ.1 σ.2.1
theorem fO (n:Nat):ua tys (da Out (Cg n)) (ch n) n (aa Tryz.f31) 0:=⟨trivial,⟨⟨trivial,⟨⟨trivial,trivial⟩,trivial⟩⟩,⟨⟨trivial,⟨⟨trivial,trivial⟩,trivial⟩⟩,⟨trivial,⟨⟨trivial,⟨tM n,⟨⟨trivial,⟨trivial,trivial⟩⟩,⟨⟨trivial,⟨⟨trivial,⟨⟨trivial,trivial⟩,trivial⟩⟩,⟨trivial,⟨uM n,⟨⟨trivial,⟨trivial,trivial⟩⟩,⟨⟨trivial,⟨⟨trivial,trivial⟩,trivial⟩⟩,trivial⟩⟩⟩⟩⟩⟩,trivial⟩⟩⟩⟩,⟨trivial,trivial⟩⟩⟩⟩⟩⟩
theorem xQ (n:Nat):Enters Tryz.prog 31:=enters_of (c:=aa Tryz.f31) Tryz.func31 (by kernel_rfl) (by kernel_rfl)
def LJ (n:Nat):Entry:=⟨31,pcT (.pair .str .unit) (.one .bool) (fun xs=>Nv n xs.1),none,none⟩
theorem PS (n:Nat):EntryOk Tryz.prog gl (LJ n):=
 Oa (xQ n) fun xs y h=>ra tys_ok (Fx n) mixed (hint:=ch n) (n:=n) Tryz.func31 (Na (fO n)) (la (φ:=(fun y=>some (Out.ret (Kf (.one .bool) y)))) (by kernel_rfl) (QU n xs.1 _) h)
def wA (n:Nat):List Entry:=LJ n::Cg n
theorem xA (n:Nat):AllOk Tryz.prog gl (wA n):=.cons (PS n) (Fx n)
def XK (n:Nat) {R:Type} (m0:U1) (k:Bool→Option R):Option R:=
 (FB n m0.1).bind fun v=>
 if v=true then
 (Nv n m0.2.1).bind fun v1=>
 k v1
 else
 k false
def yD (n:Nat) (m0:U1):Option Bool:=XK n m0 some
theorem D2 (n:Nat) {S:Type}:∀ m0 (φ:_→Option S),(yD n m0).bind φ=XK n m0 φ:=by
 intros;unfold yD XK;first | (simp only [fa,ba,iB,bB,oL,oX,nB,Option.bind_some]) | rfl
def BM (n:Nat):Hint Out:={ live:=fun c=>[],run:=fun c=>none,xm:=fun c q=>none }
theorem SU (n:Nat):ua tys (da Out (wA n)) (BM n) n (aa Tryz.f126) 0:=ma (fun _=>rfl) _ _ (by kernel_rfl)
theorem zX (n:Nat):Enters Tryz.prog 126:=enters_of (c:=aa Tryz.f126) Tryz.func126 (by kernel_rfl) (by kernel_rfl)
def TS (n:Nat):Entry:=⟨126,pcT (.pair (.pair .str (.pair .str .unit)) .unit) (.one .bool) (fun xs=>yD n xs.1),none,none⟩
theorem DZ (n:Nat):EntryOk Tryz.prog gl (TS n):=
 Oa (zX n) fun xs y h=>ra tys_ok (xA n) mixed (hint:=BM n) (n:=n) Tryz.func126 (Na (SU n)) (la (φ:=(fun y=>some (Out.ret (Kf (.one .bool) y)))) (by kernel_rfl) (D2 n xs.1 _) h)
def AA (n:Nat):List Entry:=TS n::wA n
theorem MJ (n:Nat):AllOk Tryz.prog gl (AA n):=.cons (DZ n) (xA n)
def Sj (n:Nat) {R:Type} (s1:BA) (n0:Int) (t2 t21 m0 m01:BA) (kn:BA→Int→BA→BA→BA→BA→Option R) (ko:(BA×Int×BA×BA×BA×BA)→Option R) (kr:Unit→Option R) (kp:Int→Option R):Option R:=
 if (decide (n0<(s1.size:Int)))=true then
 if 0≤n0∧n0<(s1.size:Int) then
  if ((bt s1 n0) !=(64:Int))=true then
  kn s1 (IntKind.wrap .i64 (n0+(1:Int))) t2 t21 m0 m01
  else
  ko (s1,n0,t2,t21,m0,m01)
 else
  none
 else
 ko (s1,n0,t2,t21,m0,m01)
def Yc (n:Nat):Nat→BA→Int→BA→BA→BA→BA→Option (Lx (BA×Int×BA×BA×BA×BA) Unit)
 | 0,_,_,_,_,_,_=>none
 | m+1,s1,n0,t2,t21,m0,m01=>Sj n s1 n0 t2 t21 m0 m01 (Yc n m) (fun a=>some (.out a)) (fun a=>some (.ret a)) (fun p=>some (.pan p))
theorem AQ (n m:Nat) {S:Type}:∀ s1 n0 t2 t21 m0 m01 (φ:_→Option S),(Yc n (m+1) s1 n0 t2 t21 m0 m01).bind φ=Sj n s1 n0 t2 t21 m0 m01 (fun s1 n0 t2 t21 m0 m01=>(Yc n m s1 n0 t2 t21 m0 m01).bind φ) (fun a=>φ (.out a)) (fun a=>φ (.ret a)) (fun p=>φ (.pan p)):=by
 intros;first | (simp only [Yc,Sj,fa,ba,iB,bB,oL,oX,nB,Option.bind_some]) | rfl
def Eu:List Sl:=.dat .str::.top::.ptr 0 0 0::.top::.ptr 1 0 0::tp 4 (.dat (.int .i64)::tp 64 [])
def Du:List RS:=[.box 47 2 true [.dat .str,.dat .str],.box 47 2 true [.dat .str,.dat .str]]
def XG:List Sl:=.dat .str::.top::.ptr 0 0 0::.top::.ptr 1 0 0::tp 4 (.dat (.int .i64)::tp 64 [])
def WG:List RS:=[.box 47 2 true [.dat .str,.dat .str],.box 47 2 true [.dat .str,.dat .str]]
def Dg (K:XE→List AV→ia→Option Out):Lx (BA×Int×BA×BA×BA×BA) Unit→Option Out:=fun x=>onL x (fun a=>Bk XG WG (a.1,(a.2.1,())) ((a.2.2.1,(a.2.2.2.1,())),((a.2.2.2.2.1,(a.2.2.2.2.2,())),())) (K (.exit 0))) (fun _=>none) (fun _=>none)
def wm (n:Nat) {R:Type} (s:BA) (k:(U1×Bool×Unit)→Option R):Option R:=
 if (decide ((s.size:Int)>(0:Int)))=true then
 if 0≤(0:Int)∧(0:Int)<(s.size:Int) then
  if ((bt s (0:Int))==(34:Int))=true then
  (wt n s).bind fun v=>
  if (!v.2.2.1)=true then
   k (((⟨#[]⟩:BA),((⟨#[]⟩:BA),())),(false,()))
  else
   if 0≤v.2.1∧v.2.1≤(s.size:Int) then
   (Tw n v.1).bind fun v1=>
   (zt n v.1).bind fun v2=>
   if v2=true then
    if ((s.extract (Int.toNat v.2.1) (Int.toNat (s.size:Int))).toList==(⟨#[]⟩:BA).toList)=false then
    if 0≤(0:Int)∧(0:Int)<((s.extract (Int.toNat v.2.1) (Int.toNat (s.size:Int))).size:Int) then
     if ((bt (s.extract (Int.toNat v.2.1) (Int.toNat (s.size:Int))) (0:Int)) !=(64:Int))=true then
     k (((⟨#[]⟩:BA),((⟨#[]⟩:BA),())),(false,()))
     else
     if 0≤(1:Int)∧(1:Int)≤((s.extract (Int.toNat v.2.1) (Int.toNat (s.size:Int))).size:Int) then
      (xl n ((s.extract (Int.toNat v.2.1) (Int.toNat (s.size:Int))).extract (Int.toNat (1:Int)) (Int.toNat (((s.extract (Int.toNat v.2.1) (Int.toNat (s.size:Int))).size):Int)))).bind fun v3=>
      (yD n (v.1,(v3,()))).bind fun v4=>
      if (!v4)=true then
      k (((⟨#[]⟩:BA),((⟨#[]⟩:BA),())),(false,()))
      else
      k ((v.1,(v3,())),(true,()))
     else
      none
    else
     none
    else
    k (((⟨#[]⟩:BA),((⟨#[]⟩:BA),())),(false,()))
   else
    if ((s.extract (Int.toNat v.2.1) (Int.toNat (s.size:Int))).toList==(⟨#[]⟩:BA).toList)=false then
    if 0≤(0:Int)∧(0:Int)<((s.extract (Int.toNat v.2.1) (Int.toNat (s.size:Int))).size:Int) then
     if ((bt (s.extract (Int.toNat v.2.1) (Int.toNat (s.size:Int))) (0:Int)) !=(64:Int))=true then
     k (((⟨#[]⟩:BA),((⟨#[]⟩:BA),())),(false,()))
     else
     if 0≤(1:Int)∧(1:Int)≤((s.extract (Int.toNat v.2.1) (Int.toNat (s.size:Int))).size:Int) then
      (xl n ((s.extract (Int.toNat v.2.1) (Int.toNat (s.size:Int))).extract (Int.toNat (1:Int)) (Int.toNat (((s.extract (Int.toNat v.2.1) (Int.toNat (s.size:Int))).size):Int)))).bind fun v5=>
      (yD n (v1,(v5,()))).bind fun v6=>
      if (!v6)=true then
      k (((⟨#[]⟩:BA),((⟨#[]⟩:BA),())),(false,()))
      else
      k ((v1,(v5,())),(true,()))
     else
      none
    else
     none
    else
    k (((⟨#[]⟩:BA),((⟨#[]⟩:BA),())),(false,()))
   else
   none
  else
  (Yc n n s (0:Int) (⟨#[]⟩:BA) (⟨#[]⟩:BA) (⟨#[]⟩:BA) (⟨#[]⟩:BA)).bind fun x_1=>onL x_1
   (fun a_2=>
   if 0≤a_2.2.1∧a_2.2.1≤(a_2.1.size:Int) then
    if 0≤a_2.2.1∧a_2.2.1≤(a_2.1.size:Int) then
    if ((a_2.1.extract (Int.toNat a_2.2.1) (Int.toNat (a_2.1.size:Int))).toList==(⟨#[]⟩:BA).toList)=false then
     if 0≤(0:Int)∧(0:Int)<((a_2.1.extract (Int.toNat a_2.2.1) (Int.toNat (a_2.1.size:Int))).size:Int) then
     if ((bt (a_2.1.extract (Int.toNat a_2.2.1) (Int.toNat (a_2.1.size:Int))) (0:Int)) !=(64:Int))=true then
      k (((⟨#[]⟩:BA),((⟨#[]⟩:BA),())),(false,()))
     else
      if 0≤(1:Int)∧(1:Int)≤((a_2.1.extract (Int.toNat a_2.2.1) (Int.toNat (a_2.1.size:Int))).size:Int) then
      (xl n ((a_2.1.extract (Int.toNat a_2.2.1) (Int.toNat (a_2.1.size:Int))).extract (Int.toNat (1:Int)) (Int.toNat (((a_2.1.extract (Int.toNat a_2.2.1) (Int.toNat (a_2.1.size:Int))).size):Int)))).bind fun v7=>
      (yD n ((a_2.1.extract (Int.toNat (0:Int)) (Int.toNat a_2.2.1)),(v7,()))).bind fun v8=>
      if (!v8)=true then
       k (((⟨#[]⟩:BA),((⟨#[]⟩:BA),())),(false,()))
      else
       k (((a_2.1.extract (Int.toNat (0:Int)) (Int.toNat a_2.2.1)),(v7,())),(true,()))
      else
      none
     else
     none
    else
     k (((⟨#[]⟩:BA),((⟨#[]⟩:BA),())),(false,()))
    else
    none
   else
    none)
   (fun _=>none)
   (fun _=>none)
 else
  none
 else
 (Yc n n s (0:Int) (⟨#[]⟩:BA) (⟨#[]⟩:BA) (⟨#[]⟩:BA) (⟨#[]⟩:BA)).bind fun x_3=>onL x_3
  (fun a_4=>
  if 0≤a_4.2.1∧a_4.2.1≤(a_4.1.size:Int) then
   if 0≤a_4.2.1∧a_4.2.1≤(a_4.1.size:Int) then
   if ((a_4.1.extract (Int.toNat a_4.2.1) (Int.toNat (a_4.1.size:Int))).toList==(⟨#[]⟩:BA).toList)=false then
    if 0≤(0:Int)∧(0:Int)<((a_4.1.extract (Int.toNat a_4.2.1) (Int.toNat (a_4.1.size:Int))).size:Int) then
    if ((bt (a_4.1.extract (Int.toNat a_4.2.1) (Int.toNat (a_4.1.size:Int))) (0:Int)) !=(64:Int))=true then
     k (((⟨#[]⟩:BA),((⟨#[]⟩:BA),())),(false,()))
    else
     if 0≤(1:Int)∧(1:Int)≤((a_4.1.extract (Int.toNat a_4.2.1) (Int.toNat (a_4.1.size:Int))).size:Int) then
     (xl n ((a_4.1.extract (Int.toNat a_4.2.1) (Int.toNat (a_4.1.size:Int))).extract (Int.toNat (1:Int)) (Int.toNat (((a_4.1.extract (Int.toNat a_4.2.1) (Int.toNat (a_4.1.size:Int))).size):Int)))).bind fun v9=>
     (yD n ((a_4.1.extract (Int.toNat (0:Int)) (Int.toNat a_4.2.1)),(v9,()))).bind fun v10=>
     if (!v10)=true then
      k (((⟨#[]⟩:BA),((⟨#[]⟩:BA),())),(false,()))
     else
      k (((a_4.1.extract (Int.toNat (0:Int)) (Int.toNat a_4.2.1)),(v9,())),(true,()))
     else
     none
    else
    none
   else
    k (((⟨#[]⟩:BA),((⟨#[]⟩:BA),())),(false,()))
   else
   none
  else
   none)
  (fun _=>none)
  (fun _=>none)
def pj (n:Nat) (s:BA):Option (U1×Bool×Unit):=wm n s some
theorem AX (n:Nat) {S:Type}:∀ s (φ:_→Option S),(pj n s).bind φ=wm n s φ:=by
 intros;unfold pj wm;first | (simp only [fa,ba,iB,bB,oL,oX,nB,Option.bind_some]) | rfl
def cq (n:Nat):Hint Out:={ live:=fun c=>(cond (Nat.beq c 0) (lv [0,2,4,9]) []),run:=fun c=>(cond (Nat.beq c 0) (some (Ms Eu Du fun σ ρ K=>(Yc n n σ.1 σ.2.1 ρ.1.1 ρ.1.2.1 ρ.2.1.1 ρ.2.1.2.1).bind (Dg K))) none),xm:=fun c q=>(cond (Nat.beq c 0&&Nat.beq (q.getD 1000000) 0&&q.isSome) (some (lv [0,2,4,9])) none),sch:=fun c=>(cond (Nat.beq c 13) (some [(0,0),(1,0),(2,0),(3,0),(4,0),(5,0),(6,0),(7,2),(8,0)]) (cond (Nat.beq c 7) (some [(0,0),(2,0),(3,0),(4,0),(1,3),(5,0),(6,2),(7,0)]) none)) }
def bq (n:Nat) (K:XE→List AV→ia→Option Out) (m:Nat) (s1:BA) (n0:Int) (t2:BA) (t21:BA) (m0:BA) (m01:BA):Option Out:=Ef tys (da Out (AA n)) (cq n) n (Fa [1,1,1,0,1,1,1,0,0,0] (aa Tryz.f101)) 0 Eu Du K m (s1,(n0,())) ((t2,(t21,())),((m0,(m01,())),()))
theorem VG (n:Nat) (K:XE→List AV→ia→Option Out):∀ (m:Nat) s1 n0 t2 t21 m0 m01,bq n K m s1 n0 t2 t21 m0 m01=(Yc n m s1 n0 t2 t21 m0 m01).bind (Dg K)
 | 0,_,_,_,_,_,_=>by kernel_rfl
 | m+1,s1,n0,t2,t21,m0,m01=>by
  have h1:bq n K (m+1) s1 n0 t2 t21 m0 m01=Sj n s1 n0 t2 t21 m0 m01 (bq n K m) (fun a=>Dg K (.out a)) (fun a=>Dg K (.ret a)) (fun p=>Dg K (.pan p)):=by kernel_rfl
  have h2:bq n K m=fun s1 n0 t2 t21 m0 m01=>(Yc n m s1 n0 t2 t21 m0 m01).bind (Dg K):=by
   repeat (refine funext fun _=>?_)
   exact VG n K m _ _ _ _ _ _
  rw [h1,h2];exact (AQ n m _ _ _ _ _ _ (Dg K)).symm
theorem hO (n:Nat):Pe tys (da Out (AA n)) (cq n) n (Fa [1,1,1,0,1,1,1,0,0,0] (aa Tryz.f101)) 0:=Qa (sp:=Eu) (rp:=Du) (by kernel_rfl) fun K σ ρ=>VG n K n σ.1 σ.2.1 ρ.1.1 ρ.1.2.1 ρ.2.1.1 ρ.2.1.2.1
theorem BQ (n:Nat):ua tys (da Out (AA n)) (cq n) n (aa Tryz.f101) 0:=⟨trivial,⟨trivial,⟨trivial,⟨⟨trivial,⟨⟨trivial,⟨⟨trivial,⟨⟨trivial,trivial⟩,trivial⟩⟩,⟨trivial,⟨trivial,⟨trivial,trivial⟩⟩⟩⟩⟩,⟨trivial,⟨⟨hO n,⟨⟨trivial,⟨trivial,trivial⟩⟩,trivial⟩⟩,trivial⟩⟩⟩⟩,⟨⟨trivial,⟨⟨trivial,trivial⟩,trivial⟩⟩,⟨trivial,⟨⟨trivial,⟨⟨trivial,trivial⟩,trivial⟩⟩,⟨trivial,trivial⟩⟩⟩⟩⟩⟩⟩⟩
theorem US (n:Nat):Enters Tryz.prog 101:=enters_of (c:=aa Tryz.f101) Tryz.func101 (by kernel_rfl) (by kernel_rfl)
def CM (n:Nat):Entry:=⟨101,pcT (.pair .str .unit) (.many (.pair (.pair .str (.pair .str .unit)) (.pair .bool .unit))) (fun xs=>pj n xs.1),none,none⟩
theorem TU (n:Nat):EntryOk Tryz.prog gl (CM n):=
 Oa (US n) fun xs y h=>ra tys_ok (MJ n) mixed (hint:=cq n) (n:=n) Tryz.func101 (Na (BQ n)) (la (φ:=(fun y=>some (Out.ret (Kf (.many (.pair (.pair .str (.pair .str .unit)) (.pair .bool .unit))) y)))) (by kernel_rfl) (AX n xs.1 _) h)
def SE (n:Nat):List Entry:=CM n::AA n
theorem zD (n:Nat):AllOk Tryz.prog gl (SE n):=.cons (TU n) (MJ n)
def YG (n:Nat) {R:Type} (s:BA) (k:(U1×Bool×Bool×Unit)→Option R):Option R:=
 if (s.toList==(⟨#[60,62]⟩:BA).toList)=true then
 k (((⟨#[]⟩:BA),((⟨#[]⟩:BA),())),(true,(true,())))
 else
 if (decide ((s.size:Int)<(2:Int)))=false then
  if 0≤(0:Int)∧(0:Int)<(s.size:Int) then
  if ((bt s (0:Int)) !=(60:Int))=false then
   if 0≤(IntKind.wrap .i64 ((s.size:Int) - (1:Int)))∧(IntKind.wrap .i64 ((s.size:Int) - (1:Int)))<(s.size:Int) then
   if ((bt s (IntKind.wrap .i64 ((s.size:Int) - (1:Int)))) !=(62:Int))=true then
    k (((⟨#[]⟩:BA),((⟨#[]⟩:BA),())),(false,(false,())))
   else
    if 0≤(IntKind.wrap .i64 ((s.size:Int) - (1:Int)))∧(IntKind.wrap .i64 ((s.size:Int) - (1:Int)))≤(s.size:Int) then
    if 0≤(1:Int)∧(1:Int)≤(IntKind.wrap .i64 ((s.size:Int) - (1:Int))) then
     (pj n (s.extract (Int.toNat (1:Int)) (Int.toNat (IntKind.wrap .i64 ((s.size:Int) - (1:Int)))))).bind fun v=>
     k ((v.1.1,(v.1.2.1,())),(false,(v.2.1,())))
    else
     none
    else
    none
   else
   none
  else
   k (((⟨#[]⟩:BA),((⟨#[]⟩:BA),())),(false,(false,())))
  else
  none
 else
  k (((⟨#[]⟩:BA),((⟨#[]⟩:BA),())),(false,(false,())))
def Fu (n:Nat) (s:BA):Option (U1×Bool×Bool×Unit):=YG n s some
theorem EZ (n:Nat) {S:Type}:∀ s (φ:_→Option S),(Fu n s).bind φ=YG n s φ:=by
 intros;unfold Fu YG;first | (simp only [fa,ba,iB,bB,oL,oX,nB,Option.bind_some]) | rfl
def NJ (n:Nat):Hint Out:={ live:=fun c=>[],run:=fun c=>none,xm:=fun c q=>none }
theorem WS (n:Nat):ua tys (da Out (SE n)) (NJ n) n (aa Tryz.f71) 0:=ma (fun _=>rfl) _ _ (by kernel_rfl)
theorem UU (n:Nat):Enters Tryz.prog 71:=enters_of (c:=aa Tryz.f71) Tryz.func71 (by kernel_rfl) (by kernel_rfl)
def fP (n:Nat):Entry:=⟨71,pcT (.pair .str .unit) (.many K6) (fun xs=>Fu n xs.1),none,none⟩
theorem BX (n:Nat):EntryOk Tryz.prog gl (fP n):=
 Oa (UU n) fun xs y h=>ra tys_ok (zD n) mixed (hint:=NJ n) (n:=n) Tryz.func71 (Na (WS n)) (la (φ:=(fun y=>some (Out.ret (Kf (.many K6) y)))) (by kernel_rfl) (EZ n xs.1 _) h)
def II (n:Nat):List Entry:=fP n::SE n
theorem ZG (n:Nat):AllOk Tryz.prog gl (II n):=.cons (BX n) (zD n)
def Ea (n:Nat) {R:Type} (l:U2) (b0:Bool) (b01:(Sq Int)) (b02:Int) (b03:BA) (b04:Bool) (b05:BA) (b06:Bool) (b07:BA) (r1:(Sq U1)) (r2:(Sq BA)) (k:U3→Option R):Option R:=
 if l.2.1=true then
 (oa n (500:Int)).bind fun v=>
 k (v,(b0,(b01,(b02,(b03,(b04,(b05,(b06,(b07,(r1,(r2,())))))))))))
 else
 if b06=true then
  (FI n l.1).bind fun v1=>
  if v1.2.1=true then
  (zb n b0 b01 b02 b03 b04 b05 b06 b07 r1 r2).bind fun v2=>
  k (v2.1,(v2.2.1,(v2.2.2.1,(v2.2.2.2.1,(v2.2.2.2.2.1,(v2.2.2.2.2.2.1,(v2.2.2.2.2.2.2.1,(v2.2.2.2.2.2.2.2.1,(v2.2.2.2.2.2.2.2.2.1,(v2.2.2.2.2.2.2.2.2.2.1,(v2.2.2.2.2.2.2.2.2.2.2.1,())))))))))))
  else
  if Ca b07 v1.1=true then
   if Ca (b07++v1.1) (⟨#[13,10]⟩:BA)=true then
   k ((⟨#[]⟩:BA),(b0,(b01,(b02,(b03,(b04,(b05,(b06,(((b07++v1.1)++(⟨#[13,10]⟩:BA)),(r1,(r2,())))))))))))
   else
   none
  else
   none
 else
  (db n l.1 (⟨#[69,72,76,79,32]⟩:BA)).bind fun v3=>
  if v3=false then
  (db n l.1 (⟨#[76,72,76,79,32]⟩:BA)).bind fun v4=>
  if v4=true then
   (oa n (250:Int)).bind fun v5=>
   k (v5,(b0,(b01,(b02,(b03,(b04,(b05,(b06,(b07,(r1,(r2,())))))))))))
  else
   (db n l.1 (⟨#[77,65,73,76,32,70,82,79,77,58,60]⟩:BA)).bind fun v6=>
   if v6=true then
   if (decide ((l.1.size:Int)≥(12:Int)))=true then
    if 0≤(IntKind.wrap .i64 ((l.1.size:Int) - (1:Int)))∧(IntKind.wrap .i64 ((l.1.size:Int) - (1:Int)))<(l.1.size:Int) then
    if ((bt l.1 (IntKind.wrap .i64 ((l.1.size:Int) - (1:Int))))==(62:Int))=true then
     (yb n b0 b01 b02 b03 b04 b05 b06 b07 r1 r2).bind fun v7=>
     if 0≤(IntKind.wrap .i64 ((l.1.size:Int) - (1:Int)))∧(IntKind.wrap .i64 ((l.1.size:Int) - (1:Int)))≤(l.1.size:Int) then
     if 0≤(11:Int)∧(11:Int)≤(IntKind.wrap .i64 ((l.1.size:Int) - (1:Int))) then
      (Ha n v7.1 v7.2.1 v7.2.2.1 v7.2.2.2.1 v7.2.2.2.2.1 (l.1.extract (Int.toNat (11:Int)) (Int.toNat (IntKind.wrap .i64 ((l.1.size:Int) - (1:Int))))) v7.2.2.2.2.2.2.1 v7.2.2.2.2.2.2.2.1 v7.2.2.2.2.2.2.2.2.1 v7.2.2.2.2.2.2.2.2.2.1).bind fun v8=>
      (oa n v8.1).bind fun v9=>
      k (v9,(v8.2.1,(v8.2.2.1,(v8.2.2.2.1,(v8.2.2.2.2.1,(v8.2.2.2.2.2.1,(v8.2.2.2.2.2.2.1,(v8.2.2.2.2.2.2.2.1,(v8.2.2.2.2.2.2.2.2.1,(v8.2.2.2.2.2.2.2.2.2.1,(v8.2.2.2.2.2.2.2.2.2.2.1,())))))))))))
     else
      none
     else
     none
    else
     (db n l.1 (⟨#[82,67,80,84,32,84,79,58]⟩:BA)).bind fun v10=>
     if v10=true then
     if 0≤(8:Int)∧(8:Int)≤(l.1.size:Int) then
      (Fu n (l.1.extract (Int.toNat (8:Int)) (Int.toNat (l.1.size:Int)))).bind fun v11=>
      if (!v11.2.2.1)=false then
      if v11.2.1=true then
       (oa n (500:Int)).bind fun v12=>
       k (v12,(b0,(b01,(b02,(b03,(b04,(b05,(b06,(b07,(r1,(r2,())))))))))))
      else
       (Ha n b0 b01 b02 b03 b04 b05 b06 b07 r1 r2).bind fun v13=>
       if (v13.1==(250:Int))=true then
       dup 1 (
        if Ta (v13.2.2.2.2.2.2.2.2.2.1.n+1) 32=true then
        (oa n v13.1).bind fun v14=>
        k (v14,(v13.2.1,(v13.2.2.1,(v13.2.2.2.1,(v13.2.2.2.2.1,(v13.2.2.2.2.2.1,(v13.2.2.2.2.2.2.1,(v13.2.2.2.2.2.2.2.1,(v13.2.2.2.2.2.2.2.2.1,((⟨(v13.2.2.2.2.2.2.2.2.2.1.n+1),fun q=>if q<v13.2.2.2.2.2.2.2.2.2.1.n then v13.2.2.2.2.2.2.2.2.2.1.at' q else (fun q=>List.getD (α:=U1) [(v11.1.1,(v11.1.2.1,()))] q (Aa (.pair .str (.pair .str .unit)))) (q - v13.2.2.2.2.2.2.2.2.2.1.n)⟩:Sq U1),(v13.2.2.2.2.2.2.2.2.2.2.1,())))))))))))
        else
        none)
       else
       (oa n v13.1).bind fun v16=>
       k (v16,(v13.2.1,(v13.2.2.1,(v13.2.2.2.1,(v13.2.2.2.2.1,(v13.2.2.2.2.2.1,(v13.2.2.2.2.2.2.1,(v13.2.2.2.2.2.2.2.1,(v13.2.2.2.2.2.2.2.2.1,(v13.2.2.2.2.2.2.2.2.2.1,(v13.2.2.2.2.2.2.2.2.2.2.1,())))))))))))
      else
      (oa n (500:Int)).bind fun v17=>
      k (v17,(b0,(b01,(b02,(b03,(b04,(b05,(b06,(b07,(r1,(r2,())))))))))))
     else
      none
     else
     if (l.1.toList==(⟨#[68,65,84,65]⟩:BA).toList)=true then
      if ((r1.n:Int)==(0:Int))=true then
      (oa n (503:Int)).bind fun v18=>
      k (v18,(b0,(b01,(b02,(b03,(b04,(b05,(b06,(b07,(r1,(r2,())))))))))))
      else
      (oa n (354:Int)).bind fun v19=>
      k (v19,(b0,(b01,(b02,(b03,(b04,(b05,(true,(b07,(r1,(r2,())))))))))))
     else
      if (l.1.toList==(⟨#[81,85,73,84]⟩:BA).toList)=true then
      (oa n (221:Int)).bind fun v20=>
      k (v20,(b0,(b01,(b02,(b03,(b04,(b05,(b06,(b07,(r1,(r2,())))))))))))
      else
      (oa n (500:Int)).bind fun v21=>
      k (v21,(b0,(b01,(b02,(b03,(b04,(b05,(b06,(b07,(r1,(r2,())))))))))))
    else
    none
   else
    (db n l.1 (⟨#[82,67,80,84,32,84,79,58]⟩:BA)).bind fun v22=>
    if v22=true then
    if 0≤(8:Int)∧(8:Int)≤(l.1.size:Int) then
     (Fu n (l.1.extract (Int.toNat (8:Int)) (Int.toNat (l.1.size:Int)))).bind fun v23=>
     if (!v23.2.2.1)=false then
     if v23.2.1=true then
      (oa n (500:Int)).bind fun v24=>
      k (v24,(b0,(b01,(b02,(b03,(b04,(b05,(b06,(b07,(r1,(r2,())))))))))))
     else
      (Ha n b0 b01 b02 b03 b04 b05 b06 b07 r1 r2).bind fun v25=>
      if (v25.1==(250:Int))=true then
      dup 1 (
       if Ta (v25.2.2.2.2.2.2.2.2.2.1.n+1) 32=true then
       (oa n v25.1).bind fun v26=>
       k (v26,(v25.2.1,(v25.2.2.1,(v25.2.2.2.1,(v25.2.2.2.2.1,(v25.2.2.2.2.2.1,(v25.2.2.2.2.2.2.1,(v25.2.2.2.2.2.2.2.1,(v25.2.2.2.2.2.2.2.2.1,((⟨(v25.2.2.2.2.2.2.2.2.2.1.n+1),fun q=>if q<v25.2.2.2.2.2.2.2.2.2.1.n then v25.2.2.2.2.2.2.2.2.2.1.at' q else (fun q=>List.getD (α:=U1) [(v23.1.1,(v23.1.2.1,()))] q (Aa (.pair .str (.pair .str .unit)))) (q - v25.2.2.2.2.2.2.2.2.2.1.n)⟩:Sq U1),(v25.2.2.2.2.2.2.2.2.2.2.1,())))))))))))
       else
       none)
      else
      (oa n v25.1).bind fun v28=>
      k (v28,(v25.2.1,(v25.2.2.1,(v25.2.2.2.1,(v25.2.2.2.2.1,(v25.2.2.2.2.2.1,(v25.2.2.2.2.2.2.1,(v25.2.2.2.2.2.2.2.1,(v25.2.2.2.2.2.2.2.2.1,(v25.2.2.2.2.2.2.2.2.2.1,(v25.2.2.2.2.2.2.2.2.2.2.1,())))))))))))
     else
     (oa n (500:Int)).bind fun v29=>
     k (v29,(b0,(b01,(b02,(b03,(b04,(b05,(b06,(b07,(r1,(r2,())))))))))))
    else
     none
    else
    if (l.1.toList==(⟨#[68,65,84,65]⟩:BA).toList)=true then
     if ((r1.n:Int)==(0:Int))=true then
     (oa n (503:Int)).bind fun v30=>
     k (v30,(b0,(b01,(b02,(b03,(b04,(b05,(b06,(b07,(r1,(r2,())))))))))))
     else
     (oa n (354:Int)).bind fun v31=>
     k (v31,(b0,(b01,(b02,(b03,(b04,(b05,(true,(b07,(r1,(r2,())))))))))))
    else
     if (l.1.toList==(⟨#[81,85,73,84]⟩:BA).toList)=true then
     (oa n (221:Int)).bind fun v32=>
     k (v32,(b0,(b01,(b02,(b03,(b04,(b05,(b06,(b07,(r1,(r2,())))))))))))
     else
     (oa n (500:Int)).bind fun v33=>
     k (v33,(b0,(b01,(b02,(b03,(b04,(b05,(b06,(b07,(r1,(r2,())))))))))))
   else
   (db n l.1 (⟨#[82,67,80,84,32,84,79,58]⟩:BA)).bind fun v34=>
   if v34=true then
    if 0≤(8:Int)∧(8:Int)≤(l.1.size:Int) then
    (Fu n (l.1.extract (Int.toNat (8:Int)) (Int.toNat (l.1.size:Int)))).bind fun v35=>
    if (!v35.2.2.1)=false then
     if v35.2.1=true then
     (oa n (500:Int)).bind fun v36=>
     k (v36,(b0,(b01,(b02,(b03,(b04,(b05,(b06,(b07,(r1,(r2,())))))))))))
     else
     (Ha n b0 b01 b02 b03 b04 b05 b06 b07 r1 r2).bind fun v37=>
     if (v37.1==(250:Int))=true then
      dup 1 (
      if Ta (v37.2.2.2.2.2.2.2.2.2.1.n+1) 32=true then
       (oa n v37.1).bind fun v38=>
       k (v38,(v37.2.1,(v37.2.2.1,(v37.2.2.2.1,(v37.2.2.2.2.1,(v37.2.2.2.2.2.1,(v37.2.2.2.2.2.2.1,(v37.2.2.2.2.2.2.2.1,(v37.2.2.2.2.2.2.2.2.1,((⟨(v37.2.2.2.2.2.2.2.2.2.1.n+1),fun q=>if q<v37.2.2.2.2.2.2.2.2.2.1.n then v37.2.2.2.2.2.2.2.2.2.1.at' q else (fun q=>List.getD (α:=U1) [(v35.1.1,(v35.1.2.1,()))] q (Aa (.pair .str (.pair .str .unit)))) (q - v37.2.2.2.2.2.2.2.2.2.1.n)⟩:Sq U1),(v37.2.2.2.2.2.2.2.2.2.2.1,())))))))))))
      else
       none)
     else
      (oa n v37.1).bind fun v40=>
      k (v40,(v37.2.1,(v37.2.2.1,(v37.2.2.2.1,(v37.2.2.2.2.1,(v37.2.2.2.2.2.1,(v37.2.2.2.2.2.2.1,(v37.2.2.2.2.2.2.2.1,(v37.2.2.2.2.2.2.2.2.1,(v37.2.2.2.2.2.2.2.2.2.1,(v37.2.2.2.2.2.2.2.2.2.2.1,())))))))))))
    else
     (oa n (500:Int)).bind fun v41=>
     k (v41,(b0,(b01,(b02,(b03,(b04,(b05,(b06,(b07,(r1,(r2,())))))))))))
    else
    none
   else
    if (l.1.toList==(⟨#[68,65,84,65]⟩:BA).toList)=true then
    if ((r1.n:Int)==(0:Int))=true then
     (oa n (503:Int)).bind fun v42=>
     k (v42,(b0,(b01,(b02,(b03,(b04,(b05,(b06,(b07,(r1,(r2,())))))))))))
    else
     (oa n (354:Int)).bind fun v43=>
     k (v43,(b0,(b01,(b02,(b03,(b04,(b05,(true,(b07,(r1,(r2,())))))))))))
    else
    if (l.1.toList==(⟨#[81,85,73,84]⟩:BA).toList)=true then
     (oa n (221:Int)).bind fun v44=>
     k (v44,(b0,(b01,(b02,(b03,(b04,(b05,(b06,(b07,(r1,(r2,())))))))))))
    else
     (oa n (500:Int)).bind fun v45=>
     k (v45,(b0,(b01,(b02,(b03,(b04,(b05,(b06,(b07,(r1,(r2,())))))))))))
  else
  (oa n (250:Int)).bind fun v46=>
  k (v46,(b0,(b01,(b02,(b03,(b04,(b05,(b06,(b07,(r1,(r2,())))))))))))
def ya (n:Nat) (l:U2) (b0:Bool) (b01:(Sq Int)) (b02:Int) (b03:BA) (b04:Bool) (b05:BA) (b06:Bool) (b07:BA) (r1:(Sq U1)) (r2:(Sq BA)):Option U3:=Ea n l b0 b01 b02 b03 b04 b05 b06 b07 r1 r2 some
theorem su (n:Nat) {S:Type}:∀ l b0 b01 b02 b03 b04 b05 b06 b07 r1 r2 (φ:_→Option S),(ya n l b0 b01 b02 b03 b04 b05 b06 b07 r1 r2).bind φ=Ea n l b0 b01 b02 b03 b04 b05 b06 b07 r1 r2 φ:=by
 intros;unfold ya Ea;first | (simp only [fa,ba,iB,bB,oL,oX,nB,Option.bind_some]) | rfl
def uh (n:Nat):Hint OutS:={ live:=fun c=>[],run:=fun c=>none,xm:=fun c q=>none,sch:=fun c=>(cond (Nat.beq c 22) (some [(0,0),(1,0),(2,0),(3,0),(5,1),(6,5),(4,7),(7,2),(8,6),(9,6),(10,2)]) none),nb:=[(74,1,.frz (.int .i64)),(74,6,.prm 47),(74,9,.prm 9)] }
theorem Pp (n:Nat):ua tys (da OutS (II n)).keep (uh n) n (aa Tryz.f37) 0:=ma (fun _=>rfl) _ _ (by kernel_rfl)
theorem xr (n:Nat):Enters Tryz.prog 37:=enters_of (c:=aa Tryz.f37) Tryz.func37 (by kernel_rfl) (by kernel_rfl)
def Ai:List RSp:=[.one (.ptr 0 0 0),.one (.dat (.pair .str (.pair .bool .unit)))]
def zi:List RS:=[.box 74 10 false [.dat .bool,.dat (.sl (.int .i64)),.dat (.int .i64),.dat .str,.dat .bool,.dat .str,.row 1,.dat .bool,.dat .str,.row 2],.row 47 2 (.pair .str (.pair .str .unit)) true true,.row 9 1 .str true true]
def yr:List Sl:=[.ptr 0 0 0,.top]
def zr:List RSp:=[.one (.dat .str)]
def Ac:List RS:=[.box 74 10 false [.dat .bool,.dat (.sl (.int .i64)),.dat (.int .i64),.dat .str,.dat .bool,.dat .str,.row 1,.dat .bool,.dat .str,.row 2],.row 47 2 (.pair .str (.pair .str .unit)) true true,.row 9 1 .str true true]
def zf (y:U3):OutS:=⟨false,Kl (Yb Ac ((y.2.1,(y.2.2.1,(y.2.2.2.1,(y.2.2.2.2.1,(y.2.2.2.2.2.1,(y.2.2.2.2.2.2.1,(y.2.2.2.2.2.2.2.1,(y.2.2.2.2.2.2.2.2.1,())))))))),(y.2.2.2.2.2.2.2.2.2.1,(y.2.2.2.2.2.2.2.2.2.2.1,())))) yr (),Xu (Us (Yb Ac ((y.2.1,(y.2.2.1,(y.2.2.2.1,(y.2.2.2.2.1,(y.2.2.2.2.2.1,(y.2.2.2.2.2.2.1,(y.2.2.2.2.2.2.2.1,(y.2.2.2.2.2.2.2.2.1,())))))))),(y.2.2.2.2.2.2.2.2.2.1,(y.2.2.2.2.2.2.2.2.2.2.1,())))) zr ((y.1,()),())),ao (Yb Ac ((y.2.1,(y.2.2.1,(y.2.2.2.1,(y.2.2.2.2.1,(y.2.2.2.2.2.1,(y.2.2.2.2.2.2.1,(y.2.2.2.2.2.2.2.1,(y.2.2.2.2.2.2.2.2.1,())))))))),(y.2.2.2.2.2.2.2.2.2.1,(y.2.2.2.2.2.2.2.2.2.2.1,())))) Ac ((y.2.1,(y.2.2.1,(y.2.2.2.1,(y.2.2.2.2.1,(y.2.2.2.2.2.1,(y.2.2.2.2.2.2.1,(y.2.2.2.2.2.2.2.1,(y.2.2.2.2.2.2.2.2.1,())))))))),(y.2.2.2.2.2.2.2.2.2.1,(y.2.2.2.2.2.2.2.2.2.2.1,())))⟩
theorem Ks (n:Nat):EntryOk Tryz.prog gl ⟨37,Re,none,some (csT Ai zi (fun σ ρ=>ya n σ.2.1.1 ρ.1.1 ρ.1.2.1 ρ.1.2.2.1 ρ.1.2.2.2.1 ρ.1.2.2.2.2.1 ρ.1.2.2.2.2.2.1 ρ.1.2.2.2.2.2.2.1 ρ.1.2.2.2.2.2.2.2.1 ρ.2.1 ρ.2.2.1) zf)⟩:=
 Lc (xr n) fun σ ρ y h=>Xa tys_ok (ZG n) mixed (hint:=uh n) (n:=n) Tryz.func37 (Na (Pp n)) (la (φ:=fun y=>some (zf y)) (by kernel_rfl) (su n σ.2.1.1 ρ.1.1 ρ.1.2.1 ρ.1.2.2.1 ρ.1.2.2.2.1 ρ.1.2.2.2.2.1 ρ.1.2.2.2.2.2.1 ρ.1.2.2.2.2.2.2.1 ρ.1.2.2.2.2.2.2.2.1 ρ.2.1 ρ.2.2.1 _) h)
def Vb (n:Nat):List Entry:=⟨37,Re,none,some (csT Ai zi (fun σ ρ=>ya n σ.2.1.1 ρ.1.1 ρ.1.2.1 ρ.1.2.2.1 ρ.1.2.2.2.1 ρ.1.2.2.2.2.1 ρ.1.2.2.2.2.2.1 ρ.1.2.2.2.2.2.2.1 ρ.1.2.2.2.2.2.2.2.1 ρ.2.1 ρ.2.2.1) zf)⟩::II n
theorem Xg (n:Nat):AllOk Tryz.prog gl (Vb n):=.cons (Ks n) (ZG n)
end
end Go.Proofs.YtddefjokgaajfaaGreatDoor.AM
