/- Typed functions that tell what the Go functions of this seat answer, and proofs of it, by program (gen.py). -/
import Derived.Test.YtddefjokgaajfaaGreatDoorWF2
set_option linter.all false
set_option linter.unusedVariables false
set_option linter.unusedSimpArgs false
set_option maxRecDepth 1000000
set_option maxHeartbeats 0
namespace Go.Proofs.YtddefjokgaajfaaGreatDoor.AM
open Go Go.RowKit
noncomputable section
def qb (n:Nat) {R:Type} (l:(Sq U2)) (out:BA) (i:Int) (p:Bool) (p1:(Sq Int)) (p2:Int) (p3:BA) (p4:Bool) (p5:BA) (p6:Bool) (p7:BA) (r11:(Sq U1)) (r21:(Sq BA)) (kn:(Sq U2)→BA→Int→Bool→(Sq Int)→Int→BA→Bool→BA→Bool→BA→(Sq U1)→(Sq BA)→Option R) (ko:U7→Option R) (kr:Unit→Option R) (kp:Int→Option R):Option R:=
 if (decide (i<(l.n:Int)))=true then
 if 0≤i∧i<(l.n:Int) then
  (ya n (((l.at' (Int.toNat i))).1,((((l.at' (Int.toNat i))).2).1,())) p p1 p2 p3 p4 p5 p6 p7 r11 r21).bind fun v1=>
  if Ca out v1.1=true then
  kn l (out++v1.1) (IntKind.wrap .i64 (i+(1:Int))) v1.2.1 v1.2.2.1 v1.2.2.2.1 v1.2.2.2.2.1 v1.2.2.2.2.2.1 v1.2.2.2.2.2.2.1 v1.2.2.2.2.2.2.2.1 v1.2.2.2.2.2.2.2.2.1 v1.2.2.2.2.2.2.2.2.2.1 v1.2.2.2.2.2.2.2.2.2.2.1
  else
  none
 else
  none
 else
 ko (out,p,p1,p2,p3,p4,p5,p6,p7,r11,r21)
def Ia (n:Nat):Nat→(Sq U2)→BA→Int→Bool→(Sq Int)→Int→BA→Bool→BA→Bool→BA→(Sq U1)→(Sq BA)→Option (Lx U7 Unit)
 | 0,_,_,_,_,_,_,_,_,_,_,_,_,_=>none
 | m+1,l,out,i,p,p1,p2,p3,p4,p5,p6,p7,r11,r21=>qb n l out i p p1 p2 p3 p4 p5 p6 p7 r11 r21 (Ia n m) (fun a=>some (.out a)) (fun a=>some (.ret a)) (fun p=>some (.pan p))
theorem Kp (n m:Nat) {S:Type}:∀ l out i p p1 p2 p3 p4 p5 p6 p7 r11 r21 (φ:_→Option S),(Ia n (m+1) l out i p p1 p2 p3 p4 p5 p6 p7 r11 r21).bind φ=qb n l out i p p1 p2 p3 p4 p5 p6 p7 r11 r21 (fun l out i p p1 p2 p3 p4 p5 p6 p7 r11 r21=>(Ia n m l out i p p1 p2 p3 p4 p5 p6 p7 r11 r21).bind φ) (fun a=>φ (.out a)) (fun a=>φ (.ret a)) (fun p=>φ (.pan p)):=by
 intros;first | (simp only [Ia,qb,fa,ba,iB,bB,oL,oX,nB,Option.bind_some]) | rfl
def Ad:List Sl:=.ptr 0 0 0::tp 5 (.dat (.sl (.pair .str (.pair .bool .unit)))::.dat .str::.dat (.int .i64)::tp 28 [])
def zd:List RS:=[.box 74 10 false [.dat .bool,.dat (.sl (.int .i64)),.dat (.int .i64),.dat .str,.dat .bool,.dat .str,.row 1,.dat .bool,.dat .str,.row 2],.row 47 2 (.pair .str (.pair .str .unit)) true true,.row 9 1 .str true true,.ghost [.ptr 0 0 0,.top]]
def Yk:List Sl:=tp 7 (.dat .str::tp 29 [])
def Xk:List RS:=[.box 74 10 false [.dat .bool,.dat (.sl (.int .i64)),.dat (.int .i64),.dat .str,.dat .bool,.dat .str,.row 1,.dat .bool,.dat .str,.row 2],.row 47 2 (.pair .str (.pair .str .unit)) true true,.row 9 1 .str true true,.ghost [.ptr 0 0 0,.top]]
def Ua (K:XE→List AV→ia→Option OutS):Lx U7 Unit→Option OutS:=fun x=>onL x (fun a=>Bk Yk Xk (a.1,()) ((a.2.1,(a.2.2.1,(a.2.2.2.1,(a.2.2.2.2.1,(a.2.2.2.2.2.1,(a.2.2.2.2.2.2.1,(a.2.2.2.2.2.2.2.1,(a.2.2.2.2.2.2.2.2.1,())))))))),(a.2.2.2.2.2.2.2.2.2.1,(a.2.2.2.2.2.2.2.2.2.2,((),())))) (K (.exit 0))) (fun _=>none) (fun _=>none)
def nd (n:Nat) {R:Type} (b:(Sq Int)) (b0:Bool) (b01:(Sq Int)) (b02:Int) (b03:BA) (b04:Bool) (b05:BA) (b06:Bool) (b07:BA) (r1:(Sq U1)) (r2:(Sq BA)) (k:U3→Option R):Option R:=
 (CI n (b03,(b04,())) b).bind fun v=>
 (Ia n n v.2.1 (⟨#[]⟩:BA) (0:Int) b0 b01 b02 v.1.1 v.1.2.1 b05 b06 b07 r1 r2).bind fun x_1=>onL x_1
 (fun a_2=>
  k (a_2.1,(a_2.2.1,(a_2.2.2.1,(a_2.2.2.2.1,(a_2.2.2.2.2.1,(a_2.2.2.2.2.2.1,(a_2.2.2.2.2.2.2.1,(a_2.2.2.2.2.2.2.2.1,(a_2.2.2.2.2.2.2.2.2.1,(a_2.2.2.2.2.2.2.2.2.2.1,(a_2.2.2.2.2.2.2.2.2.2.2,()))))))))))))
 (fun _=>none)
 (fun _=>none)
def wb (n:Nat) (b:(Sq Int)) (b0:Bool) (b01:(Sq Int)) (b02:Int) (b03:BA) (b04:Bool) (b05:BA) (b06:Bool) (b07:BA) (r1:(Sq U1)) (r2:(Sq BA)):Option U3:=nd n b b0 b01 b02 b03 b04 b05 b06 b07 r1 r2 some
theorem ou (n:Nat) {S:Type}:∀ b b0 b01 b02 b03 b04 b05 b06 b07 r1 r2 (φ:_→Option S),(wb n b b0 b01 b02 b03 b04 b05 b06 b07 r1 r2).bind φ=nd n b b0 b01 b02 b03 b04 b05 b06 b07 r1 r2 φ:=by
 intros;unfold wb nd;first | (simp only [fa,ba,iB,bB,oL,oX,nB,Option.bind_some]) | rfl
def nc (n:Nat):Hint OutS:={ live:=fun c=>(cond (Nat.beq c 0) [(0,none),(6,some (.sl (.pair .str (.pair .bool .unit)))),(7,none),(8,none)] []),run:=fun c=>(cond (Nat.beq c 0) (some (Ms Ad zd fun σ ρ K=>(Ia n n σ.1 σ.2.1 σ.2.2.1 ρ.1.1 ρ.1.2.1 ρ.1.2.2.1 ρ.1.2.2.2.1 ρ.1.2.2.2.2.1 ρ.1.2.2.2.2.2.1 ρ.1.2.2.2.2.2.2.1 ρ.1.2.2.2.2.2.2.2.1 ρ.2.1 ρ.2.2.1).bind (Ua K))) none),xm:=fun c q=>(cond (Nat.beq c 0&&Nat.beq (q.getD 1000000) 0&&q.isSome) (some [(7,none)]) none),nb:=[(74,1,.frz (.int .i64)),(74,6,.prm 47),(74,9,.prm 9)] }
def mc (n:Nat) (K:XE→List AV→ia→Option OutS) (m:Nat) (l:(Sq U2)) (out:BA) (i:Int) (p:Bool) (p1:(Sq Int)) (p2:Int) (p3:BA) (p4:Bool) (p5:BA) (p6:Bool) (p7:BA) (r11:(Sq U1)) (r21:(Sq BA)):Option OutS:=Ef tys (da OutS (Vb n)).keep (nc n) n (Fa [1,1,1,1,0,1,0,0] (aa Tryz.f15)) 0 Ad zd K m (l,(out,(i,()))) ((p,(p1,(p2,(p3,(p4,(p5,(p6,(p7,())))))))),(r11,(r21,((),()))))
theorem rh (n:Nat) (K:XE→List AV→ia→Option OutS):∀ (m:Nat) l out i p p1 p2 p3 p4 p5 p6 p7 r11 r21,mc n K m l out i p p1 p2 p3 p4 p5 p6 p7 r11 r21=(Ia n m l out i p p1 p2 p3 p4 p5 p6 p7 r11 r21).bind (Ua K)
 | 0,_,_,_,_,_,_,_,_,_,_,_,_,_=>by kernel_rfl
 | m+1,l,out,i,p,p1,p2,p3,p4,p5,p6,p7,r11,r21=>by
  have h1:mc n K (m+1) l out i p p1 p2 p3 p4 p5 p6 p7 r11 r21=qb n l out i p p1 p2 p3 p4 p5 p6 p7 r11 r21 (mc n K m) (fun a=>Ua K (.out a)) (fun a=>Ua K (.ret a)) (fun p=>Ua K (.pan p)):=by kernel_rfl
  have h2:mc n K m=fun l out i p p1 p2 p3 p4 p5 p6 p7 r11 r21=>(Ia n m l out i p p1 p2 p3 p4 p5 p6 p7 r11 r21).bind (Ua K):=by
   repeat (refine funext fun _=>?_)
   exact rh n K m _ _ _ _ _ _ _ _ _ _ _ _ _
  rw [h1,h2];exact (Kp n m _ _ _ _ _ _ _ _ _ _ _ _ _ (Ua K)).symm
theorem co (n:Nat):Pe tys (da OutS (Vb n)).keep (nc n) n (Fa [1,1,1,1,0,1,0,0] (aa Tryz.f15)) 0:=Qa (sp:=Ad) (rp:=zd) (by kernel_rfl) fun K σ ρ=>rh n K n σ.1 σ.2.1 σ.2.2.1 ρ.1.1 ρ.1.2.1 ρ.1.2.2.1 ρ.1.2.2.2.1 ρ.1.2.2.2.2.1 ρ.1.2.2.2.2.2.1 ρ.1.2.2.2.2.2.2.1 ρ.1.2.2.2.2.2.2.2.1 ρ.2.1 ρ.2.2.1
theorem Lp (n:Nat):ua tys (da OutS (Vb n)).keep (nc n) n (aa Tryz.f15) 0:=⟨trivial,⟨trivial,⟨trivial,⟨trivial,⟨⟨trivial,⟨co n,⟨⟨trivial,⟨trivial,trivial⟩⟩,⟨trivial,trivial⟩⟩⟩⟩,⟨trivial,trivial⟩⟩⟩⟩⟩⟩
theorem lr (n:Nat):Enters Tryz.prog 15:=enters_of (c:=aa Tryz.f15) Tryz.func15 (by kernel_rfl) (by kernel_rfl)
def ui:List RSp:=[.one (.ptr 0 0 0),.one (.dat (.sl (.int .u8)))]
def ti:List RS:=[.box 74 10 false [.dat .bool,.dat (.sl (.int .i64)),.dat (.int .i64),.dat .str,.dat .bool,.dat .str,.row 1,.dat .bool,.dat .str,.row 2],.row 47 2 (.pair .str (.pair .str .unit)) true true,.row 9 1 .str true true]
def mr:List Sl:=[.ptr 0 0 0,.top]
def nr:List RSp:=[.one (.dat .str)]
def wc:List RS:=[.box 74 10 false [.dat .bool,.dat (.sl (.int .i64)),.dat (.int .i64),.dat .str,.dat .bool,.dat .str,.row 1,.dat .bool,.dat .str,.row 2],.row 47 2 (.pair .str (.pair .str .unit)) true true,.row 9 1 .str true true]
def tf (y:U3):OutS:=⟨false,Kl (Yb wc ((y.2.1,(y.2.2.1,(y.2.2.2.1,(y.2.2.2.2.1,(y.2.2.2.2.2.1,(y.2.2.2.2.2.2.1,(y.2.2.2.2.2.2.2.1,(y.2.2.2.2.2.2.2.2.1,())))))))),(y.2.2.2.2.2.2.2.2.2.1,(y.2.2.2.2.2.2.2.2.2.2.1,())))) mr (),Xu (Us (Yb wc ((y.2.1,(y.2.2.1,(y.2.2.2.1,(y.2.2.2.2.1,(y.2.2.2.2.2.1,(y.2.2.2.2.2.2.1,(y.2.2.2.2.2.2.2.1,(y.2.2.2.2.2.2.2.2.1,())))))))),(y.2.2.2.2.2.2.2.2.2.1,(y.2.2.2.2.2.2.2.2.2.2.1,())))) nr ((y.1,()),())),ao (Yb wc ((y.2.1,(y.2.2.1,(y.2.2.2.1,(y.2.2.2.2.1,(y.2.2.2.2.2.1,(y.2.2.2.2.2.2.1,(y.2.2.2.2.2.2.2.1,(y.2.2.2.2.2.2.2.2.1,())))))))),(y.2.2.2.2.2.2.2.2.2.1,(y.2.2.2.2.2.2.2.2.2.2.1,())))) wc ((y.2.1,(y.2.2.1,(y.2.2.2.1,(y.2.2.2.2.1,(y.2.2.2.2.2.1,(y.2.2.2.2.2.2.1,(y.2.2.2.2.2.2.2.1,(y.2.2.2.2.2.2.2.2.1,())))))))),(y.2.2.2.2.2.2.2.2.2.1,(y.2.2.2.2.2.2.2.2.2.2.1,())))⟩
theorem Hs (n:Nat):EntryOk Tryz.prog gl ⟨15,Re,none,some (csT ui ti (fun σ ρ=>wb n σ.2.1.1 ρ.1.1 ρ.1.2.1 ρ.1.2.2.1 ρ.1.2.2.2.1 ρ.1.2.2.2.2.1 ρ.1.2.2.2.2.2.1 ρ.1.2.2.2.2.2.2.1 ρ.1.2.2.2.2.2.2.2.1 ρ.2.1 ρ.2.2.1) tf)⟩:=
 Lc (lr n) fun σ ρ y h=>Xa tys_ok (Xg n) mixed (hint:=nc n) (n:=n) Tryz.func15 (Na (Lp n)) (la (φ:=fun y=>some (tf y)) (by kernel_rfl) (ou n σ.2.1.1 ρ.1.1 ρ.1.2.1 ρ.1.2.2.1 ρ.1.2.2.2.1 ρ.1.2.2.2.2.1 ρ.1.2.2.2.2.2.1 ρ.1.2.2.2.2.2.2.1 ρ.1.2.2.2.2.2.2.2.1 ρ.2.1 ρ.2.2.1 _) h)
def Tb (n:Nat):List Entry:=⟨15,Re,none,some (csT ui ti (fun σ ρ=>wb n σ.2.1.1 ρ.1.1 ρ.1.2.1 ρ.1.2.2.1 ρ.1.2.2.2.1 ρ.1.2.2.2.2.1 ρ.1.2.2.2.2.2.1 ρ.1.2.2.2.2.2.2.1 ρ.1.2.2.2.2.2.2.2.1 ρ.2.1 ρ.2.2.1) tf)⟩::Vb n
theorem Ug (n:Nat):AllOk Tryz.prog gl (Tb n):=.cons (Hs n) (Xg n)
def ci (n:Nat) {R:Type} (a1 b1:(Sq Int)) (i:Int) (kn:(Sq Int)→(Sq Int)→Int→Option R) (ko:(Unit)→Option R) (kr:(Bool)→Option R) (kp:Int→Option R):Option R:=
 if (decide (i<(a1.n:Int)))=true then
 if 0≤i∧i<(a1.n:Int) then
  if 0≤i∧i<(b1.n:Int) then
  if ((a1.at' (Int.toNat i)) !=(b1.at' (Int.toNat i)))=true then
   kr false
  else
   kn a1 b1 (IntKind.wrap .i64 (i+(1:Int)))
  else
  none
 else
  none
 else
 ko ()
def Cc (n:Nat):Nat→(Sq Int)→(Sq Int)→Int→Option (Lx (Unit) (Bool))
 | 0,_,_,_=>none
 | m+1,a1,b1,i=>ci n a1 b1 i (Cc n m) (fun a=>some (.out a)) (fun a=>some (.ret a)) (fun p=>some (.pan p))
theorem gM (n m:Nat) {S:Type}:∀ a1 b1 i (φ:_→Option S),(Cc n (m+1) a1 b1 i).bind φ=ci n a1 b1 i (fun a1 b1 i=>(Cc n m a1 b1 i).bind φ) (fun a=>φ (.out a)) (fun a=>φ (.ret a)) (fun p=>φ (.pan p)):=by
 intros;first | (simp only [Cc,ci,fa,ba,iB,bB,oL,oX,nB,Option.bind_some]) | rfl
def po:List Sl:=.dat (.sl (.int .u8))::.dat (.sl (.int .u8))::.top::.top::.top::.dat (.int .i64)::tp 20 []
def oo:List RS:=[]
def IC:List Sl:=tp 26 []
def HC:List RS:=[]
def KC:List Sl:=tp 4 (.dat .bool::tp 21 [])
def JC:List RS:=[]
def ie (K:XE→List AV→ia→Option Out):Lx (Unit) (Bool)→Option Out:=fun x=>onL x (fun a=>Bk IC HC () () (K (.exit 0))) (fun a=>Bk KC JC (a,()) () (K .ret)) (fun _=>none)
def kt (n:Nat) {R:Type} (a b:(Sq Int)) (k:Bool→Option R):Option R:=
 if ((a.n:Int) !=(b.n:Int))=true then
 k false
 else
 (Cc n n a b (0:Int)).bind fun x_1=>onL x_1
  (fun a_2=>
  k true)
  (fun a_3=>
  k a_3)
  (fun _=>none)
def tq (n:Nat) (a b:(Sq Int)):Option Bool:=kt n a b some
theorem FS (n:Nat) {S:Type}:∀ a b (φ:_→Option S),(tq n a b).bind φ=kt n a b φ:=by
 intros;unfold tq kt;first | (simp only [fa,ba,iB,bB,oL,oX,nB,Option.bind_some]) | rfl
def ul (n:Nat):Hint Out:={ live:=fun c=>(cond (Nat.beq c 0) [(0,some (.sl (.int .u8))),(1,some (.sl (.int .u8))),(5,none)] []),run:=fun c=>(cond (Nat.beq c 0) (some (Ms po oo fun σ ρ K=>(Cc n n σ.1 σ.2.1 σ.2.2.1).bind (ie K))) none),xm:=fun c q=>(cond (Nat.beq c 0&&Nat.beq (q.getD 1000000) 0&&q.isSome) (some []) (cond (Nat.beq c 1&&q.isNone) (some [(4,none)]) none)) }
def ql (n:Nat) (K:XE→List AV→ia→Option Out) (m:Nat) (a1:(Sq Int)) (b1:(Sq Int)) (i:Int):Option Out:=Ef tys (da Out (Tb n)) (ul n) n (Fa [1,1,0,1,0,0] (aa Tryz.f16)) 0 po oo K m (a1,(b1,(i,()))) ()
theorem sA (n:Nat) (K:XE→List AV→ia→Option Out):∀ (m:Nat) a1 b1 i,ql n K m a1 b1 i=(Cc n m a1 b1 i).bind (ie K)
 | 0,_,_,_=>by kernel_rfl
 | m+1,a1,b1,i=>by
  have h1:ql n K (m+1) a1 b1 i=ci n a1 b1 i (ql n K m) (fun a=>ie K (.out a)) (fun a=>ie K (.ret a)) (fun p=>ie K (.pan p)):=by kernel_rfl
  have h2:ql n K m=fun a1 b1 i=>(Cc n m a1 b1 i).bind (ie K):=by
   repeat (refine funext fun _=>?_)
   exact sA n K m _ _ _
  rw [h1,h2];exact (gM n m _ _ _ (ie K)).symm
theorem qK (n:Nat):Pe tys (da Out (Tb n)) (ul n) n (Fa [1,1,0,1,0,0] (aa Tryz.f16)) 0:=Qa (sp:=po) (rp:=oo) (by kernel_rfl) fun K σ ρ=>sA n K n σ.1 σ.2.1 σ.2.2.1
theorem iM (n:Nat):ua tys (da Out (Tb n)) (ul n) n (aa Tryz.f16) 0:=⟨trivial,⟨⟨trivial,⟨⟨trivial,trivial⟩,trivial⟩⟩,⟨⟨trivial,⟨qK n,⟨⟨trivial,⟨trivial,trivial⟩⟩,⟨⟨trivial,⟨⟨trivial,trivial⟩,trivial⟩⟩,trivial⟩⟩⟩⟩,⟨trivial,trivial⟩⟩⟩⟩
theorem XN (n:Nat):Enters Tryz.prog 16:=enters_of (c:=aa Tryz.f16) Tryz.func16 (by kernel_rfl) (by kernel_rfl)
def sG (n:Nat):Entry:=⟨16,pcT (.pair (.sl (.int .u8)) (.pair (.sl (.int .u8)) .unit)) (.one .bool) (fun xs=>tq n xs.1 xs.2.1),none,none⟩
theorem nQ (n:Nat):EntryOk Tryz.prog gl (sG n):=
 Oa (XN n) fun xs y h=>ra tys_ok (Ug n) mixed (hint:=ul n) (n:=n) Tryz.func16 (Na (iM n)) (la (φ:=(fun y=>some (Out.ret (Kf (.one .bool) y)))) (by kernel_rfl) (FS n xs.1 xs.2.1 _) h)
def rl (n:Nat):List Entry:=sG n::Tb n
theorem Ex (n:Nat):AllOk Tryz.prog gl (rl n):=.cons (nQ n) (Ug n)
def Kc (n:Nat) {R:Type} (l1:(Sq BA)) (i:Int) (m0:(Sq BA)) (kn:(Sq BA)→Int→(Sq BA)→Option R) (ko:((Sq BA))→Option R) (kr:Unit→Option R) (kp:Int→Option R):Option R:=
 if (decide (i<(l1.n:Int)))=true then
 if 0≤i∧i<(l1.n:Int) then
  if Ta (m0.n+1) 16=true then
  kn l1 (IntKind.wrap .i64 (i+(1:Int))) (⟨(m0.n+1),fun q=>if q<m0.n then m0.at' q else (fun q=>List.getD (α:=BA) [(l1.at' (Int.toNat i))] q (Aa .str)) (q - m0.n)⟩:Sq BA)
  else
  none
 else
  none
 else
 ko m0
def Sa (n:Nat):Nat→(Sq BA)→Int→(Sq BA)→Option (Lx ((Sq BA)) Unit)
 | 0,_,_,_=>none
 | m+1,l1,i,m0=>Kc n l1 i m0 (Sa n m) (fun a=>some (.out a)) (fun a=>some (.ret a)) (fun p=>some (.pan p))
theorem xy (n m:Nat) {S:Type}:∀ l1 i m0 (φ:_→Option S),(Sa n (m+1) l1 i m0).bind φ=Kc n l1 i m0 (fun l1 i m0=>(Sa n m l1 i m0).bind φ) (fun a=>φ (.out a)) (fun a=>φ (.ret a)) (fun p=>φ (.pan p)):=by
 intros;first | (simp only [Sa,Kc,fa,ba,iB,bB,oL,oX,nB,Option.bind_some]) | rfl
def xg:List Sl:=.dat (.sl .str)::.top::.top::.row 0::.dat (.int .i64)::tp 14 []
def wg:List RS:=[.row 9 1 .str true false,.ghost [.top]]
def Fr:List Sl:=.top::.top::.top::.row 0::tp 15 []
def Er:List RS:=[.row 9 1 .str true false,.ghost [.top]]
def Ib (K:XE→List AV→ia→Option OutS):Lx ((Sq BA)) Unit→Option OutS:=fun x=>onL x (fun a=>Bk Fr Er () (a,((),())) (K (.exit 0))) (fun _=>none) (fun _=>none)
def vg (n:Nat) {R:Type} (l:(Sq BA)) (k:((Sq BA)×Unit)→Option R):Option R:=
 (Sa n n l (0:Int) (⟨0,fun _=>Aa .str⟩:Sq BA)).bind fun x_1=>onL x_1
 (fun a_2=>
  k (a_2,()))
 (fun _=>none)
 (fun _=>none)
def Wc (n:Nat) (l:(Sq BA)):Option ((Sq BA)×Unit):=vg n l some
theorem EE (n:Nat) {S:Type}:∀ l (φ:_→Option S),(Wc n l).bind φ=vg n l φ:=by
 intros;unfold Wc vg;first | (simp only [fa,ba,iB,bB,oL,oX,nB,Option.bind_some]) | rfl
def De (n:Nat):Hint OutS:={ live:=fun c=>(cond (Nat.beq c 0) [(0,some (.sl .str)),(3,some (.sl .str)),(4,none)] []),run:=fun c=>(cond (Nat.beq c 0) (some (Ms xg wg fun σ ρ K=>(Sa n n σ.1 σ.2.1 ρ.1).bind (Ib K))) none),xm:=fun c q=>(cond (Nat.beq c 0&&Nat.beq (q.getD 1000000) 0&&q.isSome) (some [(3,some (.sl .str))]) none) }
def Ce (n:Nat) (K:XE→List AV→ia→Option OutS) (m:Nat) (l1:(Sq BA)) (i:Int) (m0:(Sq BA)):Option OutS:=Ef tys (da OutS (rl n)) (De n) n (Fa [1,1,0,1,0,0] (aa Tryz.f39)) 0 xg wg K m (l1,(i,())) (m0,((),()))
theorem em (n:Nat) (K:XE→List AV→ia→Option OutS):∀ (m:Nat) l1 i m0,Ce n K m l1 i m0=(Sa n m l1 i m0).bind (Ib K)
 | 0,_,_,_=>by kernel_rfl
 | m+1,l1,i,m0=>by
  have h1:Ce n K (m+1) l1 i m0=Kc n l1 i m0 (Ce n K m) (fun a=>Ib K (.out a)) (fun a=>Ib K (.ret a)) (fun p=>Ib K (.pan p)):=by kernel_rfl
  have h2:Ce n K m=fun l1 i m0=>(Sa n m l1 i m0).bind (Ib K):=by
   repeat (refine funext fun _=>?_)
   exact em n K m _ _ _
  rw [h1,h2];exact (xy n m _ _ _ (Ib K)).symm
theorem Nw (n:Nat):Pe tys (da OutS (rl n)) (De n) n (Fa [1,1,0,1,0,0] (aa Tryz.f39)) 0:=Qa (sp:=xg) (rp:=wg) (by kernel_rfl) fun K σ ρ=>em n K n σ.1 σ.2.1 ρ.1
theorem yy (n:Nat):ua tys (da OutS (rl n)) (De n) n (aa Tryz.f39) 0:=⟨trivial,⟨trivial,⟨⟨trivial,⟨Nw n,⟨⟨trivial,⟨trivial,trivial⟩⟩,⟨trivial,trivial⟩⟩⟩⟩,⟨trivial,trivial⟩⟩⟩⟩
theorem nA (n:Nat):Enters Tryz.prog 39:=enters_of (c:=aa Tryz.f39) Tryz.func39 (by kernel_rfl) (by kernel_rfl)
def ip:List RSp:=[.one (.dat (.sl .str))]
def fp:List RS:=[]
def oA:List Sl:=[.top]
def pA:List RSp:=[.one (.row 0)]
def gf:List RS:=[.row 9 1 .str true false]
def Rj (y:((Sq BA)×Unit)):OutS:=⟨false,Kl (Yb gf (y.1,())) oA (),Xu (Us (Yb gf (y.1,())) pA ((),())),ao (Yb gf (y.1,())) gf (y.1,())⟩
theorem EC (n:Nat):EntryOk Tryz.prog gl ⟨39,Re,none,some (csT ip fp (fun σ ρ=>Wc n σ.1.1) Rj)⟩:=
 Lc (nA n) fun σ ρ y h=>Me tys_ok (Ex n) mixed (hint:=De n) (n:=n) Tryz.func39 (Na (yy n)) (la (φ:=fun y=>some (Rj y)) (by kernel_rfl) (EE n σ.1.1 _) h)
def Xi (n:Nat):List Entry:=⟨39,Re,none,some (csT ip fp (fun σ ρ=>Wc n σ.1.1) Rj)⟩::rl n
theorem ll (n:Nat):AllOk Tryz.prog gl (Xi n):=.cons (EC n) (Ex n)
def xd (n:Nat) {R:Type} (b0:Bool) (b01:(Sq Int)) (b02:Int) (b03:BA) (b04:Bool) (b05:BA) (b06:Bool) (b07:BA) (r1:(Sq U1)) (r2:(Sq BA)) (k:U10→Option R):Option R:=
 (Wc n r2).bind fun v=>
 k (b0,(b01,(b02,(b03,(b04,(b05,(b06,(b07,(v.1,(r1,(r2,())))))))))))
def Hb (n:Nat) (b0:Bool) (b01:(Sq Int)) (b02:Int) (b03:BA) (b04:Bool) (b05:BA) (b06:Bool) (b07:BA) (r1:(Sq U1)) (r2:(Sq BA)):Option U10:=xd n b0 b01 b02 b03 b04 b05 b06 b07 r1 r2 some
theorem Dv (n:Nat) {S:Type}:∀ b0 b01 b02 b03 b04 b05 b06 b07 r1 r2 (φ:_→Option S),(Hb n b0 b01 b02 b03 b04 b05 b06 b07 r1 r2).bind φ=xd n b0 b01 b02 b03 b04 b05 b06 b07 r1 r2 φ:=by
 intros;unfold Hb xd;first | (simp only [fa,ba,iB,bB,oL,oX,nB,Option.bind_some]) | rfl
def Jh (n:Nat):Hint OutS:={ live:=fun c=>[],run:=fun c=>none,xm:=fun c q=>none }
theorem jr (n:Nat):ua tys ((da OutS (Xi n)).view [39]) (Jh n) n (aa Tryz.f19) 0:=ma (fun _=>rfl) _ _ (by kernel_rfl)
theorem Es (n:Nat):Enters Tryz.prog 19:=enters_of (c:=aa Tryz.f19) Tryz.func19 (by kernel_rfl) (by kernel_rfl)
def ij:List RSp:=[.one (.ptr 0 0 0)]
def gj:List RS:=[.box 74 10 false [.dat .bool,.dat (.sl (.int .i64)),.dat (.int .i64),.dat .str,.dat .bool,.dat .str,.row 1,.dat .bool,.dat .str,.row 2],.row 47 2 (.pair .str (.pair .str .unit)) true true,.row 9 1 .str true true]
def Fs:List Sl:=[.ptr 0 0 0]
def Gs:List RSp:=[.one (.row 1)]
def Nc:List RS:=[.box 74 10 false [.dat .bool,.dat (.sl (.int .i64)),.dat (.int .i64),.dat .str,.dat .bool,.dat .str,.row 2,.dat .bool,.dat .str,.row 3],.row 9 1 .str true false,.row 47 2 (.pair .str (.pair .str .unit)) true true,.row 9 1 .str true true]
def Nf (y:U10):OutS:=⟨false,Kl (Yb Nc ((y.1,(y.2.1,(y.2.2.1,(y.2.2.2.1,(y.2.2.2.2.1,(y.2.2.2.2.2.1,(y.2.2.2.2.2.2.1,(y.2.2.2.2.2.2.2.1,())))))))),(y.2.2.2.2.2.2.2.2.1,(y.2.2.2.2.2.2.2.2.2.1,(y.2.2.2.2.2.2.2.2.2.2.1,()))))) Fs (),Xu (Us (Yb Nc ((y.1,(y.2.1,(y.2.2.1,(y.2.2.2.1,(y.2.2.2.2.1,(y.2.2.2.2.2.1,(y.2.2.2.2.2.2.1,(y.2.2.2.2.2.2.2.1,())))))))),(y.2.2.2.2.2.2.2.2.1,(y.2.2.2.2.2.2.2.2.2.1,(y.2.2.2.2.2.2.2.2.2.2.1,()))))) Gs ((),())),ao (Yb Nc ((y.1,(y.2.1,(y.2.2.1,(y.2.2.2.1,(y.2.2.2.2.1,(y.2.2.2.2.2.1,(y.2.2.2.2.2.2.1,(y.2.2.2.2.2.2.2.1,())))))))),(y.2.2.2.2.2.2.2.2.1,(y.2.2.2.2.2.2.2.2.2.1,(y.2.2.2.2.2.2.2.2.2.2.1,()))))) Nc ((y.1,(y.2.1,(y.2.2.1,(y.2.2.2.1,(y.2.2.2.2.1,(y.2.2.2.2.2.1,(y.2.2.2.2.2.2.1,(y.2.2.2.2.2.2.2.1,())))))))),(y.2.2.2.2.2.2.2.2.1,(y.2.2.2.2.2.2.2.2.2.1,(y.2.2.2.2.2.2.2.2.2.2.1,()))))⟩
theorem nu (n:Nat):EntryOk Tryz.prog gl ⟨19,Re,none,some (csT ij gj (fun σ ρ=>Hb n ρ.1.1 ρ.1.2.1 ρ.1.2.2.1 ρ.1.2.2.2.1 ρ.1.2.2.2.2.1 ρ.1.2.2.2.2.2.1 ρ.1.2.2.2.2.2.2.1 ρ.1.2.2.2.2.2.2.2.1 ρ.2.1 ρ.2.2.1) Nf)⟩:=
 Lc (Es n) fun σ ρ y h=>sL tys_ok (ll n) mixed (hint:=Jh n) (n:=n) Tryz.func19 (Na (jr n)) (la (φ:=fun y=>some (Nf y)) (by kernel_rfl) (Dv n ρ.1.1 ρ.1.2.1 ρ.1.2.2.1 ρ.1.2.2.2.1 ρ.1.2.2.2.2.1 ρ.1.2.2.2.2.2.1 ρ.1.2.2.2.2.2.2.1 ρ.1.2.2.2.2.2.2.2.1 ρ.2.1 ρ.2.2.1 _) h)
def Wb (n:Nat):List Entry:=⟨19,Re,none,some (csT ij gj (fun σ ρ=>Hb n ρ.1.1 ρ.1.2.1 ρ.1.2.2.1 ρ.1.2.2.2.1 ρ.1.2.2.2.2.1 ρ.1.2.2.2.2.2.1 ρ.1.2.2.2.2.2.2.1 ρ.1.2.2.2.2.2.2.2.1 ρ.2.1 ρ.2.2.1) Nf)⟩::Xi n
theorem qh (n:Nat):AllOk Tryz.prog gl (Wb n):=.cons (nu n) (ll n)
def Oe (n:Nat) {R:Type} (i:Int) (l:(Sq BA)) (kn:Int→(Sq BA)→Option R) (ko:((Sq BA))→Option R) (kr:Unit→Option R) (kp:Int→Option R):Option R:=
 if (decide (i<(l.n:Int)))=true then
 if 0≤i∧i<(l.n:Int) then
  kn (IntKind.wrap .i64 (i+(1:Int))) (⟨l.n,fun q=>if q=(Int.toNat i)∧q<l.n then (⟨#[63]⟩:BA) else l.at' q⟩:Sq BA)
 else
  none
 else
 ko l
def Bb (n:Nat):Nat→Int→(Sq BA)→Option (Lx ((Sq BA)) Unit)
 | 0,_,_=>none
 | m+1,i,l=>Oe n i l (Bb n m) (fun a=>some (.out a)) (fun a=>some (.ret a)) (fun p=>some (.pan p))
theorem UH (n m:Nat) {S:Type}:∀ i l (φ:_→Option S),(Bb n (m+1) i l).bind φ=Oe n i l (fun i l=>(Bb n m i l).bind φ) (fun a=>φ (.out a)) (fun a=>φ (.ret a)) (fun p=>φ (.pan p)):=by
 intros;first | (simp only [Bb,Oe,fa,ba,iB,bB,oL,oX,nB,Option.bind_some]) | rfl
def Zj:List Sl:=.row 0::.top::.dat (.int .i64)::tp 12 []
def Yj:List RS:=[.row 9 1 .str true true,.ghost [.top]]
def qx:List Sl:=.row 0::tp 14 []
def px:List RS:=[.row 9 1 .str true true,.ghost [.top]]
def Hc (K:XE→List AV→ia→Option OutS):Lx ((Sq BA)) Unit→Option OutS:=fun x=>onL x (fun a=>Bk qx px () (a,((),())) (K (.exit 0))) (fun _=>none) (fun _=>none)
def Il (n:Nat) {R:Type} (r0:(Sq BA)) (k:Unit→Option R):Option R:=
 (Bb n n (0:Int) r0).bind fun x_1=>onL x_1
 (fun a_2=>
  if Ta (a_2.n+1) 16=true then
  k ()
  else
  none)
 (fun _=>none)
 (fun _=>none)
def Rg (n:Nat) (r0:(Sq BA)):Option Unit:=Il n r0 some
theorem lN (n:Nat) {S:Type}:∀ r0 (φ:_→Option S),(Rg n r0).bind φ=Il n r0 φ:=by
 intros;unfold Rg Il;first | (simp only [fa,ba,iB,bB,oL,oX,nB,Option.bind_some]) | rfl
def xh (n:Nat):Hint OutS:={ live:=fun c=>(cond (Nat.beq c 0) [(0,some (.sl .str)),(2,none)] []),run:=fun c=>(cond (Nat.beq c 0) (some (Ms Zj Yj fun σ ρ K=>(Bb n n σ.1 ρ.1).bind (Hc K))) none),xm:=fun c q=>(cond (Nat.beq c 0&&Nat.beq (q.getD 1000000) 0&&q.isSome) (some [(0,some (.sl .str))]) none) }
def wh (n:Nat) (K:XE→List AV→ia→Option OutS) (m:Nat) (i:Int) (l:(Sq BA)):Option OutS:=Ef tys (da OutS (Wb n)) (xh n) n (Fa [0,1,0,0] (aa Tryz.f20)) 0 Zj Yj K m (i,()) (l,((),()))
theorem Wt (n:Nat) (K:XE→List AV→ia→Option OutS):∀ (m:Nat) i l,wh n K m i l=(Bb n m i l).bind (Hc K)
 | 0,_,_=>by kernel_rfl
 | m+1,i,l=>by
  have h1:wh n K (m+1) i l=Oe n i l (wh n K m) (fun a=>Hc K (.out a)) (fun a=>Hc K (.ret a)) (fun p=>Hc K (.pan p)):=by kernel_rfl
  have h2:wh n K m=fun i l=>(Bb n m i l).bind (Hc K):=by
   repeat (refine funext fun _=>?_)
   exact Wt n K m _ _
  rw [h1,h2];exact (UH n m _ _ (Hc K)).symm
theorem nF (n:Nat):Pe tys (da OutS (Wb n)) (xh n) n (Fa [0,1,0,0] (aa Tryz.f20)) 0:=Qa (sp:=Zj) (rp:=Yj) (by kernel_rfl) fun K σ ρ=>Wt n K n σ.1 ρ.1
theorem VH (n:Nat):ua tys (da OutS (Wb n)) (xh n) n (aa Tryz.f20) 0:=⟨⟨trivial,⟨nF n,⟨⟨trivial,⟨trivial,trivial⟩⟩,⟨trivial,trivial⟩⟩⟩⟩,trivial⟩
theorem kJ (n:Nat):Enters Tryz.prog 20:=enters_of (c:=aa Tryz.f20) Tryz.func20 (by kernel_rfl) (by kernel_rfl)
def Ox:List RSp:=[.one (.row 0)]
def Nx:List RS:=[.row 9 1 .str true true]
def lJ:List Sl:=[.top]
def mJ:List RSp:=[]
def qi:List RS:=[]
def Bs (y:Unit):OutS:=⟨false,Kl (Yb qi ()) lJ (),Xu (Us (Yb qi ()) mJ ()),ao (Yb qi ()) qi ()⟩
theorem PK (n:Nat):EntryOk Tryz.prog gl ⟨20,Re,none,some (csT Ox Nx (fun σ ρ=>Rg n ρ.1) Bs)⟩:=
 Lc (kJ n) fun σ ρ y h=>Me tys_ok (qh n) mixed (hint:=xh n) (n:=n) Tryz.func20 (Na (VH n)) (la (φ:=fun y=>some (Bs y)) (by kernel_rfl) (lN n ρ.1 _) h)
def yj (n:Nat):List Entry:=⟨20,Re,none,some (csT Ox Nx (fun σ ρ=>Rg n ρ.1) Bs)⟩::Wb n
theorem oF (n:Nat):AllOk Tryz.prog gl (yj n):=.cons (PK n) (qh n)
def ub (n:Nat) {R:Type} (i:Int) (p1:Bool) (p2:(Sq Int)) (p3:U9) (x:Bool) (x1:(Sq Int)) (x2:BA) (x3:Bool) (x4 x5:BA) (x6:Bool) (x7:BA) (r:Bool) (r1:(Sq Int)) (r2:Int) (r3:BA) (r4:Bool) (r5:BA) (r6:Bool) (r7:BA) (r31 r41:(Sq BA)) (r51:(Sq U1)) (r61:(Sq BA)) (kn:Int→Bool→(Sq Int)→U9→Bool→(Sq Int)→BA→Bool→BA→BA→Bool→BA→Bool→(Sq Int)→Int→BA→Bool→BA→Bool→BA→(Sq BA)→(Sq BA)→(Sq U1)→(Sq BA)→Option R) (ko:(Unit)→Option R) (kr:(Bool)→Option R) (kp:Int→Option R):Option R:=
 if (decide (i<(p3.n:Int)))=true then
 if (decide (i<(20:Int)))=true then
  if 0≤i∧i<(p3.n:Int) then
  (lk n ((p3.at' (Int.toNat i)))).bind fun v5=>
  (Qc n v5 x x1 x2 x3 x4 x5 x6 x7 r31 r41).bind fun v6=>
  if 0≤i∧i<(p3.n:Int) then
   (wb n ((p3.at' (Int.toNat i))) r r1 r2 r3 r4 r5 r6 r7 r51 r61).bind fun v7=>
   if (!(v6.1.toList==v7.1.toList))=false then
   if 0≤i∧i<(p3.n:Int) then
    (tq n v5 ((p3.at' (Int.toNat i)))).bind fun v8=>
    if (!v8)=true then
    kr false
    else
    (Zb n v6.2.1 v6.2.2.1 v6.2.2.2.1 v6.2.2.2.2.1 v6.2.2.2.2.2.1 v6.2.2.2.2.2.2.1 v6.2.2.2.2.2.2.2.1 v6.2.2.2.2.2.2.2.2.1 v6.2.2.2.2.2.2.2.2.2.1 v6.2.2.2.2.2.2.2.2.2.2.1).bind fun v9=>
    (Hb n v7.2.1 v7.2.2.1 v7.2.2.2.1 v7.2.2.2.2.1 v7.2.2.2.2.2.1 v7.2.2.2.2.2.2.1 v7.2.2.2.2.2.2.2.1 v7.2.2.2.2.2.2.2.2.1 v7.2.2.2.2.2.2.2.2.2.1 v7.2.2.2.2.2.2.2.2.2.2.1).bind fun v10=>
    (Lh n v9.2.2.2.2.2.2.2.2.1 v10.2.2.2.2.2.2.2.2.1).bind fun v11=>
    if (!v11)=true then
     kr false
    else
     (Rg n v9.2.2.2.2.2.2.2.2.1).bind fun v12=>
     kn (IntKind.wrap .i64 (i+(1:Int))) p1 p2 p3 v9.1 v9.2.1 v9.2.2.1 v9.2.2.2.1 v9.2.2.2.2.1 v9.2.2.2.2.2.1 v9.2.2.2.2.2.2.1 v9.2.2.2.2.2.2.2.1 v10.1 v10.2.1 v10.2.2.1 v10.2.2.2.1 v10.2.2.2.2.1 v10.2.2.2.2.2.1 v10.2.2.2.2.2.2.1 v10.2.2.2.2.2.2.2.1 v9.2.2.2.2.2.2.2.2.2.1 v9.2.2.2.2.2.2.2.2.2.2.1 v10.2.2.2.2.2.2.2.2.2.1 v10.2.2.2.2.2.2.2.2.2.2.1
   else
    none
   else
   kr false
  else
   none
  else
  none
 else
  ko ()
 else
 ko ()
def Ga (n:Nat):Nat→Int→Bool→(Sq Int)→U9→Bool→(Sq Int)→BA→Bool→BA→BA→Bool→BA→Bool→(Sq Int)→Int→BA→Bool→BA→Bool→BA→(Sq BA)→(Sq BA)→(Sq U1)→(Sq BA)→Option (Lx (Unit) (Bool))
 | 0,_,_,_,_,_,_,_,_,_,_,_,_,_,_,_,_,_,_,_,_,_,_,_,_=>none
 | m+1,i,p1,p2,p3,x,x1,x2,x3,x4,x5,x6,x7,r,r1,r2,r3,r4,r5,r6,r7,r31,r41,r51,r61=>ub n i p1 p2 p3 x x1 x2 x3 x4 x5 x6 x7 r r1 r2 r3 r4 r5 r6 r7 r31 r41 r51 r61 (Ga n m) (fun a=>some (.out a)) (fun a=>some (.ret a)) (fun p=>some (.pan p))
theorem ju (n m:Nat) {S:Type}:∀ i p1 p2 p3 x x1 x2 x3 x4 x5 x6 x7 r r1 r2 r3 r4 r5 r6 r7 r31 r41 r51 r61 (φ:_→Option S),(Ga n (m+1) i p1 p2 p3 x x1 x2 x3 x4 x5 x6 x7 r r1 r2 r3 r4 r5 r6 r7 r31 r41 r51 r61).bind φ=ub n i p1 p2 p3 x x1 x2 x3 x4 x5 x6 x7 r r1 r2 r3 r4 r5 r6 r7 r31 r41 r51 r61 (fun i p1 p2 p3 x x1 x2 x3 x4 x5 x6 x7 r r1 r2 r3 r4 r5 r6 r7 r31 r41 r51 r61=>(Ga n m i p1 p2 p3 x x1 x2 x3 x4 x5 x6 x7 r r1 r2 r3 r4 r5 r6 r7 r31 r41 r51 r61).bind φ) (fun a=>φ (.out a)) (fun a=>φ (.ret a)) (fun p=>φ (.pan p)):=by
 intros;first | (simp only [Ga,ub,fa,ba,iB,bB,oL,oX,nB,Option.bind_some]) | rfl
def He:List Sl:=.top::.ptr 0 0 0::.top::.ptr 1 0 0::.ptr 2 0 0::.dat (.int .i64)::tp 80 []
def Ge:List RS:=[.box 25 3 true [.dat .bool,.dat (.sl (.int .i64)),.dat (.sl (.sl (.int .u8)))],.box 71 10 false [.dat .bool,.dat (.sl (.int .i64)),.dat .str,.dat .bool,.dat .str,.row 3,.dat .str,.dat .bool,.row 4,.dat .str],.box 74 10 false [.dat .bool,.dat (.sl (.int .i64)),.dat (.int .i64),.dat .str,.dat .bool,.dat .str,.row 5,.dat .bool,.dat .str,.row 6],.row 9 1 .str true true,.row 9 1 .str true true,.row 47 2 (.pair .str (.pair .str .unit)) true true,.row 9 1 .str true true]
def Kn:List Sl:=tp 86 []
def Jn:List RS:=[]
def Nn:List Sl:=.top::.top::.dat .bool::tp 83 []
def Mn:List RS:=[]
def jb (K:XE→List AV→ia→Option Out):Lx (Unit) (Bool)→Option Out:=fun x=>onL x (fun a=>Bk Kn Jn () () (K (.exit 0))) (fun a=>Bk Nn Mn (a,()) () (K .ret)) (fun _=>none)
def Be (n:Nat) {R:Type} (p:U19) (k:Bool→Option R):Option R:=
 if (decide ((p.2.1.n:Int)>(500:Int)))=false then
 (Sd n p.2.2.1).bind fun v=>
 if (decide (v>(20000:Int)))=true then
  k true
 else
  dup 1 (
  (Pd n p.2.1).bind fun v1=>
  (fg n p.1 v1).bind fun v2=>
  (rb n v2.1 v2.2.1 v2.2.2.1 v2.2.2.2.1 v2.2.2.2.2.1 v2.2.2.2.2.2.1 v2.2.2.2.2.2.2.1 v2.2.2.2.2.2.2.2.1 v2.2.2.2.2.2.2.2.2.1 v2.2.2.2.2.2.2.2.2.2.1).bind fun v3=>
  if (!(v3.1.toList==(⟨#[50,50,48,32,104,101,114,101,13,10]⟩:BA).toList))=true then
   k false
  else
   (Uc n p.1 p.2.1).bind fun v4=>
   (Ga n n (0:Int) p.1 p.2.1 p.2.2.1 v3.2.1 v3.2.2.1 v3.2.2.2.1 v3.2.2.2.2.1 v3.2.2.2.2.2.1 v3.2.2.2.2.2.2.1 v3.2.2.2.2.2.2.2.1 v3.2.2.2.2.2.2.2.2.1 v4.1 v4.2.1 v4.2.2.1 v4.2.2.2.1 v4.2.2.2.2.1 v4.2.2.2.2.2.1 v4.2.2.2.2.2.2.1 v4.2.2.2.2.2.2.2.1 v3.2.2.2.2.2.2.2.2.2.1 v3.2.2.2.2.2.2.2.2.2.2.1 v4.2.2.2.2.2.2.2.2.1 v4.2.2.2.2.2.2.2.2.2.1).bind fun x_1=>onL x_1
   (fun a_2=>
    (ac n).bind fun v13=>
    k v13)
   (fun a_3=>
    k a_3)
   (fun _=>none))
 else
 k true
def pouchlaw27_PeerExact (n:Nat) (p:U19):Option Bool:=Be n p some
theorem ny (n:Nat) {S:Type}:∀ p (φ:_→Option S),(pouchlaw27_PeerExact n p).bind φ=Be n p φ:=by
 intros;unfold pouchlaw27_PeerExact Be;first | (simp only [fa,ba,iB,bB,oL,oX,nB,Option.bind_some]) | rfl
def ed (n:Nat):Hint Out:={ live:=fun c=>(cond (Nat.beq c 0) (lv [1,3,4,5]) []),run:=fun c=>(cond (Nat.beq c 0) (some (Ms He Ge fun σ ρ K=>(Ga n n σ.1 ρ.1.1 ρ.1.2.1 ρ.1.2.2.1 ρ.2.1.1 ρ.2.1.2.1 ρ.2.1.2.2.1 ρ.2.1.2.2.2.1 ρ.2.1.2.2.2.2.1 ρ.2.1.2.2.2.2.2.1 ρ.2.1.2.2.2.2.2.2.1 ρ.2.1.2.2.2.2.2.2.2.1 ρ.2.2.1.1 ρ.2.2.1.2.1 ρ.2.2.1.2.2.1 ρ.2.2.1.2.2.2.1 ρ.2.2.1.2.2.2.2.1 ρ.2.2.1.2.2.2.2.2.1 ρ.2.2.1.2.2.2.2.2.2.1 ρ.2.2.1.2.2.2.2.2.2.2.1 ρ.2.2.2.1 ρ.2.2.2.2.1 ρ.2.2.2.2.2.1 ρ.2.2.2.2.2.2.1).bind (jb K))) none),xm:=fun c q=>(cond (Nat.beq c 0&&Nat.beq (q.getD 1000000) 0&&q.isSome) (some []) (cond (Nat.beq c 1&&q.isNone) (some [(2,none)]) none)),sch:=fun c=>(cond (Nat.beq c 3) (some [(0,0),(2,0),(3,1),(4,5),(1,7),(5,2),(6,6)]) none) }
def cd (n:Nat) (K:XE→List AV→ia→Option Out) (m:Nat) (i:Int) (p1:Bool) (p2:(Sq Int)) (p3:U9) (x:Bool) (x1:(Sq Int)) (x2:BA) (x3:Bool) (x4:BA) (x5:BA) (x6:Bool) (x7:BA) (r:Bool) (r1:(Sq Int)) (r2:Int) (r3:BA) (r4:Bool) (r5:BA) (r6:Bool) (r7:BA) (r31:(Sq BA)) (r41:(Sq BA)) (r51:(Sq U1)) (r61:(Sq BA)):Option Out:=Ef tys (da Out (yj n)) (ed n) n (Fa [1,1,1,1,1,0,1,0,0] (aa Tryz.f3)) 0 He Ge K m (i,()) ((p1,(p2,(p3,()))),((x,(x1,(x2,(x3,(x4,(x5,(x6,(x7,())))))))),((r,(r1,(r2,(r3,(r4,(r5,(r6,(r7,())))))))),(r31,(r41,(r51,(r61,())))))))
theorem ej (n:Nat) (K:XE→List AV→ia→Option Out):∀ (m:Nat) i p1 p2 p3 x x1 x2 x3 x4 x5 x6 x7 r r1 r2 r3 r4 r5 r6 r7 r31 r41 r51 r61,cd n K m i p1 p2 p3 x x1 x2 x3 x4 x5 x6 x7 r r1 r2 r3 r4 r5 r6 r7 r31 r41 r51 r61=(Ga n m i p1 p2 p3 x x1 x2 x3 x4 x5 x6 x7 r r1 r2 r3 r4 r5 r6 r7 r31 r41 r51 r61).bind (jb K)
 | 0,_,_,_,_,_,_,_,_,_,_,_,_,_,_,_,_,_,_,_,_,_,_,_,_=>by kernel_rfl
 | m+1,i,p1,p2,p3,x,x1,x2,x3,x4,x5,x6,x7,r,r1,r2,r3,r4,r5,r6,r7,r31,r41,r51,r61=>by
  have h1:cd n K (m+1) i p1 p2 p3 x x1 x2 x3 x4 x5 x6 x7 r r1 r2 r3 r4 r5 r6 r7 r31 r41 r51 r61=ub n i p1 p2 p3 x x1 x2 x3 x4 x5 x6 x7 r r1 r2 r3 r4 r5 r6 r7 r31 r41 r51 r61 (cd n K m) (fun a=>jb K (.out a)) (fun a=>jb K (.ret a)) (fun p=>jb K (.pan p)):=by kernel_rfl
  have h2:cd n K m=fun i p1 p2 p3 x x1 x2 x3 x4 x5 x6 x7 r r1 r2 r3 r4 r5 r6 r7 r31 r41 r51 r61=>(Ga n m i p1 p2 p3 x x1 x2 x3 x4 x5 x6 x7 r r1 r2 r3 r4 r5 r6 r7 r31 r41 r51 r61).bind (jb K):=by
   repeat (refine funext fun _=>?_)
   exact ej n K m _ _ _ _ _ _ _ _ _ _ _ _ _ _ _ _ _ _ _ _ _ _ _ _
  rw [h1,h2];exact (ju n m _ _ _ _ _ _ _ _ _ _ _ _ _ _ _ _ _ _ _ _ _ _ _ _ (jb K)).symm
theorem Cs (n:Nat):Pe tys (da Out (yj n)) (ed n) n (Fa [1,1,1,1,1,0,1,0,0] (aa Tryz.f3)) 0:=Qa (sp:=He) (rp:=Ge) (by kernel_rfl) fun K σ ρ=>ej n K n σ.1 ρ.1.1 ρ.1.2.1 ρ.1.2.2.1 ρ.2.1.1 ρ.2.1.2.1 ρ.2.1.2.2.1 ρ.2.1.2.2.2.1 ρ.2.1.2.2.2.2.1 ρ.2.1.2.2.2.2.2.1 ρ.2.1.2.2.2.2.2.2.1 ρ.2.1.2.2.2.2.2.2.2.1 ρ.2.2.1.1 ρ.2.2.1.2.1 ρ.2.2.1.2.2.1 ρ.2.2.1.2.2.2.1 ρ.2.2.1.2.2.2.2.1 ρ.2.2.1.2.2.2.2.2.1 ρ.2.2.1.2.2.2.2.2.2.1 ρ.2.2.1.2.2.2.2.2.2.2.1 ρ.2.2.2.1 ρ.2.2.2.2.1 ρ.2.2.2.2.2.1 ρ.2.2.2.2.2.2.1
theorem ku (n:Nat):ua tys (da Out (yj n)) (ed n) n (aa Tryz.f3) 0:=⟨trivial,⟨⟨trivial,⟨⟨trivial,trivial⟩,trivial⟩⟩,⟨trivial,⟨⟨trivial,⟨⟨trivial,trivial⟩,trivial⟩⟩,⟨trivial,⟨⟨trivial,⟨Cs n,⟨⟨trivial,⟨trivial,trivial⟩⟩,⟨⟨trivial,⟨trivial,⟨⟨trivial,⟨⟨trivial,trivial⟩,trivial⟩⟩,⟨trivial,⟨⟨trivial,⟨⟨trivial,trivial⟩,trivial⟩⟩,trivial⟩⟩⟩⟩⟩,trivial⟩⟩⟩⟩,⟨trivial,trivial⟩⟩⟩⟩⟩⟩⟩
theorem Av (n:Nat):Enters Tryz.prog 3:=enters_of (c:=aa Tryz.f3) Tryz.func3 (by kernel_rfl) (by kernel_rfl)
def Lw (n:Nat):Entry:=⟨3,pcT K5 (.one .bool) (fun xs=>pouchlaw27_PeerExact n xs.1),none,none⟩
theorem pouchlaw27_PeerExact_ok (n:Nat):EntryOk Tryz.prog gl (Lw n):=
 Oa (Av n) fun xs y h=>ra tys_ok (oF n) mixed (hint:=ed n) (n:=n) Tryz.func3 (Na (ku n)) (la (φ:=(fun y=>some (Out.ret (Kf (.one .bool) y)))) (by kernel_rfl) (ny n xs.1 _) h)
end
end Go.Proofs.YtddefjokgaajfaaGreatDoor.AM
