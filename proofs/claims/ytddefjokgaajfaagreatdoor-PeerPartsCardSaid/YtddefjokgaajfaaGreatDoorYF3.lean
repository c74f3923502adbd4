/- Typed functions that tell what the Go functions of this seat answer, and proofs of it, by program (gen.py). -/
import Derived.Test.YtddefjokgaajfaaGreatDoorYF2
set_option linter.all false
set_option linter.unusedVariables false
set_option linter.unusedSimpArgs false
set_option maxRecDepth 1000000
set_option maxHeartbeats 0
namespace Go.Proofs.YtddefjokgaajfaaGreatDoor.AM
open Go Go.RowKit
noncomputable section
def Wc (n:Nat) {R:Type} (l:(Sq U2)) (out:BA) (i:Int) (p:Bool) (p1:(Sq Int)) (p2:Int) (p3:BA) (p4:Bool) (p5:BA) (p6:Bool) (p7:BA) (r11:(Sq U1)) (r21:(Sq BA)) (kn:(Sq U2)→BA→Int→Bool→(Sq Int)→Int→BA→Bool→BA→Bool→BA→(Sq U1)→(Sq BA)→Option R) (ko:U11→Option R) (kr:Unit→Option R) (kp:Int→Option R):Option R:=
 if (decide (i<(l.n:Int)))=true then
 if 0≤i∧i<(l.n:Int) then
  (wa n (((l.at' (Int.toNat i))).1,((((l.at' (Int.toNat i))).2).1,())) p p1 p2 p3 p4 p5 p6 p7 r11 r21).bind fun v1=>
  if Ca out v1.1=true then
  kn l (out++v1.1) (IntKind.wrap .i64 (i+(1:Int))) v1.2.1 v1.2.2.1 v1.2.2.2.1 v1.2.2.2.2.1 v1.2.2.2.2.2.1 v1.2.2.2.2.2.2.1 v1.2.2.2.2.2.2.2.1 v1.2.2.2.2.2.2.2.2.1 v1.2.2.2.2.2.2.2.2.2.1 v1.2.2.2.2.2.2.2.2.2.2.1
  else
  none
 else
  none
 else
 ko (out,p,p1,p2,p3,p4,p5,p6,p7,r11,r21)
def Ua (n:Nat):Nat→(Sq U2)→BA→Int→Bool→(Sq Int)→Int→BA→Bool→BA→Bool→BA→(Sq U1)→(Sq BA)→Option (Lx U11 Unit)
 | 0,_,_,_,_,_,_,_,_,_,_,_,_,_=>none
 | m+1,l,out,i,p,p1,p2,p3,p4,p5,p6,p7,r11,r21=>Wc n l out i p p1 p2 p3 p4 p5 p6 p7 r11 r21 (Ua n m) (fun a=>some (.out a)) (fun a=>some (.ret a)) (fun p=>some (.pan p))
theorem xq (n m:Nat) {S:Type}:∀ l out i p p1 p2 p3 p4 p5 p6 p7 r11 r21 (φ:_→Option S),(Ua n (m+1) l out i p p1 p2 p3 p4 p5 p6 p7 r11 r21).bind φ=Wc n l out i p p1 p2 p3 p4 p5 p6 p7 r11 r21 (fun l out i p p1 p2 p3 p4 p5 p6 p7 r11 r21=>(Ua n m l out i p p1 p2 p3 p4 p5 p6 p7 r11 r21).bind φ) (fun a=>φ (.out a)) (fun a=>φ (.ret a)) (fun p=>φ (.pan p)):=by
 intros;first | (simp only [Ua,Wc,fa,ba,iB,bB,oL,oX,nB,Option.bind_some]) | rfl
def Jd:List Sl:=.ptr 0 0 0::tp 5 (.dat (.sl (.pair .str (.pair .bool .unit)))::.dat .str::.dat (.int .i64)::tp 28 [])
def Id:List RS:=[.box 74 10 false [.dat .bool,.dat (.sl (.int .i64)),.dat (.int .i64),.dat .str,.dat .bool,.dat .str,.row 1,.dat .bool,.dat .str,.row 2],.row 47 2 (.pair .str (.pair .str .unit)) true true,.row 9 1 .str true true,.ghost [.ptr 0 0 0,.top]]
def Ll:List Sl:=tp 7 (.dat .str::tp 29 [])
def Kl:List RS:=[.box 74 10 false [.dat .bool,.dat (.sl (.int .i64)),.dat (.int .i64),.dat .str,.dat .bool,.dat .str,.row 1,.dat .bool,.dat .str,.row 2],.row 47 2 (.pair .str (.pair .str .unit)) true true,.row 9 1 .str true true,.ghost [.ptr 0 0 0,.top]]
def Xa (K:XE→List AV→ia→Option OutS):Lx U11 Unit→Option OutS:=fun x=>onL x (fun a=>ak Ll Kl (a.1,()) ((a.2.1,(a.2.2.1,(a.2.2.2.1,(a.2.2.2.2.1,(a.2.2.2.2.2.1,(a.2.2.2.2.2.2.1,(a.2.2.2.2.2.2.2.1,(a.2.2.2.2.2.2.2.2.1,())))))))),(a.2.2.2.2.2.2.2.2.2.1,(a.2.2.2.2.2.2.2.2.2.2,((),())))) (K (.exit 0))) (fun _=>none) (fun _=>none)
def Lf (n:Nat) {R:Type} (b:(Sq Int)) (b0:Bool) (b01:(Sq Int)) (b02:Int) (b03:BA) (b04:Bool) (b05:BA) (b06:Bool) (b07:BA) (r1:(Sq U1)) (r2:(Sq BA)) (k:U3→Option R):Option R:=
 (PR n (b03,(b04,())) b).bind fun v=>
 (Ua n n v.2.1 (⟨#[]⟩:BA) (0:Int) b0 b01 b02 v.1.1 v.1.2.1 b05 b06 b07 r1 r2).bind fun x_1=>onL x_1
 (fun a_2=>
  k (a_2.1,(a_2.2.1,(a_2.2.2.1,(a_2.2.2.2.1,(a_2.2.2.2.2.1,(a_2.2.2.2.2.2.1,(a_2.2.2.2.2.2.2.1,(a_2.2.2.2.2.2.2.2.1,(a_2.2.2.2.2.2.2.2.2.1,(a_2.2.2.2.2.2.2.2.2.2.1,(a_2.2.2.2.2.2.2.2.2.2.2,()))))))))))))
 (fun _=>none)
 (fun _=>none)
def Ec (n:Nat) (b:(Sq Int)) (b0:Bool) (b01:(Sq Int)) (b02:Int) (b03:BA) (b04:Bool) (b05:BA) (b06:Bool) (b07:BA) (r1:(Sq U1)) (r2:(Sq BA)):Option U3:=Lf n b b0 b01 b02 b03 b04 b05 b06 b07 r1 r2 some
theorem tv (n:Nat) {S:Type}:∀ b b0 b01 b02 b03 b04 b05 b06 b07 r1 r2 (φ:_→Option S),(Ec n b b0 b01 b02 b03 b04 b05 b06 b07 r1 r2).bind φ=Lf n b b0 b01 b02 b03 b04 b05 b06 b07 r1 r2 φ:=by
 intros;unfold Ec Lf;first | (simp only [fa,ba,iB,bB,oL,oX,nB,Option.bind_some]) | rfl
def yc (n:Nat):Hint OutS:={ live:=fun c=>(cond (Nat.beq c 0) [(0,none),(6,some (.sl (.pair .str (.pair .bool .unit)))),(7,none),(8,none)] []),run:=fun c=>(cond (Nat.beq c 0) (some (aq Jd Id fun σ ρ K=>(Ua n n σ.1 σ.2.1 σ.2.2.1 ρ.1.1 ρ.1.2.1 ρ.1.2.2.1 ρ.1.2.2.2.1 ρ.1.2.2.2.2.1 ρ.1.2.2.2.2.2.1 ρ.1.2.2.2.2.2.2.1 ρ.1.2.2.2.2.2.2.2.1 ρ.2.1 ρ.2.2.1).bind (Xa K))) none),xm:=fun c q=>(cond (Nat.beq c 0&&Nat.beq (q.getD 1000000) 0&&q.isSome) (some [(7,none)]) none),nb:=[(74,1,.frz (.int .i64)),(74,6,.prm 47),(74,9,.prm 9)] }
def wc (n:Nat) (K:XE→List AV→ia→Option OutS) (m:Nat) (l:(Sq U2)) (out:BA) (i:Int) (p:Bool) (p1:(Sq Int)) (p2:Int) (p3:BA) (p4:Bool) (p5:BA) (p6:Bool) (p7:BA) (r11:(Sq U1)) (r21:(Sq BA)):Option OutS:=Pe tys (da OutS (cc n)).keep (yc n) n (Da [1,1,1,1,0,1,0,0] (aa Tryz.f15)) 0 Jd Id K m (l,(out,(i,()))) ((p,(p1,(p2,(p3,(p4,(p5,(p6,(p7,())))))))),(r11,(r21,((),()))))
theorem Hh (n:Nat) (K:XE→List AV→ia→Option OutS):∀ (m:Nat) l out i p p1 p2 p3 p4 p5 p6 p7 r11 r21,wc n K m l out i p p1 p2 p3 p4 p5 p6 p7 r11 r21=(Ua n m l out i p p1 p2 p3 p4 p5 p6 p7 r11 r21).bind (Xa K)
 | 0,_,_,_,_,_,_,_,_,_,_,_,_,_=>by kernel_rfl
 | m+1,l,out,i,p,p1,p2,p3,p4,p5,p6,p7,r11,r21=>by
  have h1:wc n K (m+1) l out i p p1 p2 p3 p4 p5 p6 p7 r11 r21=Wc n l out i p p1 p2 p3 p4 p5 p6 p7 r11 r21 (wc n K m) (fun a=>Xa K (.out a)) (fun a=>Xa K (.ret a)) (fun p=>Xa K (.pan p)):=by kernel_rfl
  have h2:wc n K m=fun l out i p p1 p2 p3 p4 p5 p6 p7 r11 r21=>(Ua n m l out i p p1 p2 p3 p4 p5 p6 p7 r11 r21).bind (Xa K):=by
   repeat (refine funext fun _=>?_)
   exact Hh n K m _ _ _ _ _ _ _ _ _ _ _ _ _
  rw [h1,h2];exact (xq n m _ _ _ _ _ _ _ _ _ _ _ _ _ (Xa K)).symm
theorem Xo (n:Nat):ie tys (da OutS (cc n)).keep (yc n) n (Da [1,1,1,1,0,1,0,0] (aa Tryz.f15)) 0:=Oa (sp:=Jd) (rp:=Id) (by kernel_rfl) fun K σ ρ=>Hh n K n σ.1 σ.2.1 σ.2.2.1 ρ.1.1 ρ.1.2.1 ρ.1.2.2.1 ρ.1.2.2.2.1 ρ.1.2.2.2.2.1 ρ.1.2.2.2.2.2.1 ρ.1.2.2.2.2.2.2.1 ρ.1.2.2.2.2.2.2.2.1 ρ.2.1 ρ.2.2.1
theorem zq (n:Nat):ta tys (da OutS (cc n)).keep (yc n) n (aa Tryz.f15) 0:=⟨trivial,⟨trivial,⟨trivial,⟨trivial,⟨⟨trivial,⟨Xo n,⟨⟨trivial,⟨trivial,trivial⟩⟩,⟨trivial,trivial⟩⟩⟩⟩,⟨trivial,trivial⟩⟩⟩⟩⟩⟩
theorem js (n:Nat):Enters Tryz.prog 15:=enters_of (c:=aa Tryz.f15) Tryz.func15 (by kernel_rfl) (by kernel_rfl)
def Li:List RSp:=[.one (.ptr 0 0 0),.one (.dat (.sl (.int .u8)))]
def Ki:List RS:=[.box 74 10 false [.dat .bool,.dat (.sl (.int .i64)),.dat (.int .i64),.dat .str,.dat .bool,.dat .str,.row 1,.dat .bool,.dat .str,.row 2],.row 47 2 (.pair .str (.pair .str .unit)) true true,.row 9 1 .str true true]
def ks:List Sl:=[.ptr 0 0 0,.top]
def ss:List RSp:=[.one (.dat .str)]
def Fc:List RS:=[.box 74 10 false [.dat .bool,.dat (.sl (.int .i64)),.dat (.int .i64),.dat .str,.dat .bool,.dat .str,.row 1,.dat .bool,.dat .str,.row 2],.row 47 2 (.pair .str (.pair .str .unit)) true true,.row 9 1 .str true true]
def Mf (y:U3):OutS:=⟨false,dl (dc Fc ((y.2.1,(y.2.2.1,(y.2.2.2.1,(y.2.2.2.2.1,(y.2.2.2.2.2.1,(y.2.2.2.2.2.2.1,(y.2.2.2.2.2.2.2.1,(y.2.2.2.2.2.2.2.2.1,())))))))),(y.2.2.2.2.2.2.2.2.2.1,(y.2.2.2.2.2.2.2.2.2.2.1,())))) ks (),aw (Xt (dc Fc ((y.2.1,(y.2.2.1,(y.2.2.2.1,(y.2.2.2.2.1,(y.2.2.2.2.2.1,(y.2.2.2.2.2.2.1,(y.2.2.2.2.2.2.2.1,(y.2.2.2.2.2.2.2.2.1,())))))))),(y.2.2.2.2.2.2.2.2.2.1,(y.2.2.2.2.2.2.2.2.2.2.1,())))) ss ((y.1,()),())),Qo (dc Fc ((y.2.1,(y.2.2.1,(y.2.2.2.1,(y.2.2.2.2.1,(y.2.2.2.2.2.1,(y.2.2.2.2.2.2.1,(y.2.2.2.2.2.2.2.1,(y.2.2.2.2.2.2.2.2.1,())))))))),(y.2.2.2.2.2.2.2.2.2.1,(y.2.2.2.2.2.2.2.2.2.2.1,())))) Fc ((y.2.1,(y.2.2.1,(y.2.2.2.1,(y.2.2.2.2.1,(y.2.2.2.2.2.1,(y.2.2.2.2.2.2.1,(y.2.2.2.2.2.2.2.1,(y.2.2.2.2.2.2.2.2.1,())))))))),(y.2.2.2.2.2.2.2.2.2.1,(y.2.2.2.2.2.2.2.2.2.2.1,())))⟩
theorem Lt (n:Nat):EntryOk Tryz.prog gl ⟨15,gf,none,some (csT Li Ki (fun σ ρ=>Ec n σ.2.1.1 ρ.1.1 ρ.1.2.1 ρ.1.2.2.1 ρ.1.2.2.2.1 ρ.1.2.2.2.2.1 ρ.1.2.2.2.2.2.1 ρ.1.2.2.2.2.2.2.1 ρ.1.2.2.2.2.2.2.2.1 ρ.2.1 ρ.2.2.1) Mf)⟩:=
 Sc (js n) fun σ ρ y h=>db tys_ok (oh n) mixed (hint:=yc n) (n:=n) Tryz.func15 (Pa (zq n)) (la (φ:=fun y=>some (Mf y)) (by kernel_rfl) (tv n σ.2.1.1 ρ.1.1 ρ.1.2.1 ρ.1.2.2.1 ρ.1.2.2.2.1 ρ.1.2.2.2.2.1 ρ.1.2.2.2.2.2.1 ρ.1.2.2.2.2.2.2.1 ρ.1.2.2.2.2.2.2.2.1 ρ.2.1 ρ.2.2.1 _) h)
def ac (n:Nat):List Entry:=⟨15,gf,none,some (csT Li Ki (fun σ ρ=>Ec n σ.2.1.1 ρ.1.1 ρ.1.2.1 ρ.1.2.2.1 ρ.1.2.2.2.1 ρ.1.2.2.2.2.1 ρ.1.2.2.2.2.2.1 ρ.1.2.2.2.2.2.2.1 ρ.1.2.2.2.2.2.2.2.1 ρ.2.1 ρ.2.2.1) Mf)⟩::cc n
theorem lh (n:Nat):AllOk Tryz.prog gl (ac n):=.cons (Lt n) (oh n)
def Hq (n:Nat) {R:Type} (a1 b1:(Sq Int)) (i:Int) (kn:(Sq Int)→(Sq Int)→Int→Option R) (ko:(Unit)→Option R) (kr:(Bool)→Option R) (kp:Int→Option R):Option R:=
 if (decide (i<(a1.n:Int)))=true then
 if 0≤i∧i<(a1.n:Int) then
  if 0≤i∧i<(b1.n:Int) then
  if ((a1.at' (Int.toNat i)) !=(b1.at' (Int.toNat i)))=true then
   kr false
  else
   kn a1 b1 (IntKind.wrap .i64 (i+(1:Int)))
  else
  none
 else
  none
 else
 ko ()
def Df (n:Nat):Nat→(Sq Int)→(Sq Int)→Int→Option (Lx (Unit) (Bool))
 | 0,_,_,_=>none
 | m+1,a1,b1,i=>Hq n a1 b1 i (Df n m) (fun a=>some (.out a)) (fun a=>some (.ret a)) (fun p=>some (.pan p))
theorem xN (n m:Nat) {S:Type}:∀ a1 b1 i (φ:_→Option S),(Df n (m+1) a1 b1 i).bind φ=Hq n a1 b1 i (fun a1 b1 i=>(Df n m a1 b1 i).bind φ) (fun a=>φ (.out a)) (fun a=>φ (.ret a)) (fun p=>φ (.pan p)):=by
 intros;first | (simp only [Df,Hq,fa,ba,iB,bB,oL,oX,nB,Option.bind_some]) | rfl
def ep:List Sl:=.dat (.sl (.int .u8))::.dat (.sl (.int .u8))::.top::.top::.top::.dat (.int .i64)::tp 20 []
def dp:List RS:=[]
def aE:List Sl:=tp 26 []
def ZD:List RS:=[]
def cE:List Sl:=tp 4 (.dat .bool::tp 21 [])
def bE:List RS:=[]
def we (K:XE→List AV→ia→Option Out):Lx (Unit) (Bool)→Option Out:=fun x=>onL x (fun a=>ak aE ZD () () (K (.exit 0))) (fun a=>ak cE bE (a,()) () (K .ret)) (fun _=>none)
def DB (n:Nat) {R:Type} (a b:(Sq Int)) (k:Bool→Option R):Option R:=
 if ((a.n:Int) !=(b.n:Int))=true then
 k false
 else
 (Df n n a b (0:Int)).bind fun x_1=>onL x_1
  (fun a_2=>
  k true)
  (fun a_3=>
  k a_3)
  (fun _=>none)
def MC (n:Nat) (a b:(Sq Int)):Option Bool:=DB n a b some
theorem bU (n:Nat) {S:Type}:∀ a b (φ:_→Option S),(MC n a b).bind φ=DB n a b φ:=by
 intros;unfold MC DB;first | (simp only [fa,ba,iB,bB,oL,oX,nB,Option.bind_some]) | rfl
def am (n:Nat):Hint Out:={ live:=fun c=>(cond (Nat.beq c 0) [(0,some (.sl (.int .u8))),(1,some (.sl (.int .u8))),(5,none)] []),run:=fun c=>(cond (Nat.beq c 0) (some (aq ep dp fun σ ρ K=>(Df n n σ.1 σ.2.1 σ.2.2.1).bind (we K))) none),xm:=fun c q=>(cond (Nat.beq c 0&&Nat.beq (q.getD 1000000) 0&&q.isSome) (some []) (cond (Nat.beq c 1&&q.isNone) (some [(4,none)]) none)) }
def Yl (n:Nat) (K:XE→List AV→ia→Option Out) (m:Nat) (a1:(Sq Int)) (b1:(Sq Int)) (i:Int):Option Out:=Pe tys (da Out (ac n)) (am n) n (Da [1,1,0,1,0,0] (aa Tryz.f16)) 0 ep dp K m (a1,(b1,(i,()))) ()
theorem FB (n:Nat) (K:XE→List AV→ia→Option Out):∀ (m:Nat) a1 b1 i,Yl n K m a1 b1 i=(Df n m a1 b1 i).bind (we K)
 | 0,_,_,_=>by kernel_rfl
 | m+1,a1,b1,i=>by
  have h1:Yl n K (m+1) a1 b1 i=Hq n a1 b1 i (Yl n K m) (fun a=>we K (.out a)) (fun a=>we K (.ret a)) (fun p=>we K (.pan p)):=by kernel_rfl
  have h2:Yl n K m=fun a1 b1 i=>(Df n m a1 b1 i).bind (we K):=by
   repeat (refine funext fun _=>?_)
   exact FB n K m _ _ _
  rw [h1,h2];exact (xN n m _ _ _ (we K)).symm
theorem DL (n:Nat):ie tys (da Out (ac n)) (am n) n (Da [1,1,0,1,0,0] (aa Tryz.f16)) 0:=Oa (sp:=ep) (rp:=dp) (by kernel_rfl) fun K σ ρ=>FB n K n σ.1 σ.2.1 σ.2.2.1
theorem yN (n:Nat):ta tys (da Out (ac n)) (am n) n (aa Tryz.f16) 0:=⟨trivial,⟨⟨trivial,⟨⟨trivial,trivial⟩,trivial⟩⟩,⟨⟨trivial,⟨DL n,⟨⟨trivial,⟨trivial,trivial⟩⟩,⟨⟨trivial,⟨⟨trivial,trivial⟩,trivial⟩⟩,trivial⟩⟩⟩⟩,⟨trivial,trivial⟩⟩⟩⟩
theorem oP (n:Nat):Enters Tryz.prog 16:=enters_of (c:=aa Tryz.f16) Tryz.func16 (by kernel_rfl) (by kernel_rfl)
def JH (n:Nat):Entry:=⟨16,pcT (.pair (.sl (.int .u8)) (.pair (.sl (.int .u8)) .unit)) (.one .bool) (fun xs=>MC n xs.1 xs.2.1),none,none⟩
theorem FR (n:Nat):EntryOk Tryz.prog gl (JH n):=
 Qa (oP n) fun xs y h=>ra tys_ok (lh n) mixed (hint:=am n) (n:=n) Tryz.func16 (Pa (yN n)) (la (φ:=(fun y=>some (Out.ret (Vf (.one .bool) y)))) (by kernel_rfl) (bU n xs.1 xs.2.1 _) h)
def Zl (n:Nat):List Entry:=JH n::ac n
theorem Iy (n:Nat):AllOk Tryz.prog gl (Zl n):=.cons (FR n) (lh n)
def cg (n:Nat) {R:Type} (l1:(Sq BA)) (i:Int) (m0:(Sq BA)) (kn:(Sq BA)→Int→(Sq BA)→Option R) (ko:((Sq BA))→Option R) (kr:Unit→Option R) (kp:Int→Option R):Option R:=
 if (decide (i<(l1.n:Int)))=true then
 if 0≤i∧i<(l1.n:Int) then
  if Ta (m0.n+1) 16=true then
  kn l1 (IntKind.wrap .i64 (i+(1:Int))) (⟨(m0.n+1),fun q=>if q<m0.n then m0.at' q else (fun q=>List.getD (α:=BA) [(l1.at' (Int.toNat i))] q (Ba .str)) (q - m0.n)⟩:Sq BA)
  else
  none
 else
  none
 else
 ko m0
def Kb (n:Nat):Nat→(Sq BA)→Int→(Sq BA)→Option (Lx ((Sq BA)) Unit)
 | 0,_,_,_=>none
 | m+1,l1,i,m0=>cg n l1 i m0 (Kb n m) (fun a=>some (.out a)) (fun a=>some (.ret a)) (fun p=>some (.pan p))
theorem yz (n m:Nat) {S:Type}:∀ l1 i m0 (φ:_→Option S),(Kb n (m+1) l1 i m0).bind φ=cg n l1 i m0 (fun l1 i m0=>(Kb n m l1 i m0).bind φ) (fun a=>φ (.out a)) (fun a=>φ (.ret a)) (fun p=>φ (.pan p)):=by
 intros;first | (simp only [Kb,cg,fa,ba,iB,bB,oL,oX,nB,Option.bind_some]) | rfl
def Ng:List Sl:=.dat (.sl .str)::.top::.top::.row 0::.dat (.int .i64)::tp 14 []
def Mg:List RS:=[.row 9 1 .str true false,.ghost [.top]]
def Ns:List Sl:=.top::.top::.top::.row 0::tp 15 []
def Ms:List RS:=[.row 9 1 .str true false,.ghost [.top]]
def Ob (K:XE→List AV→ia→Option OutS):Lx ((Sq BA)) Unit→Option OutS:=fun x=>onL x (fun a=>ak Ns Ms () (a,((),())) (K (.exit 0))) (fun _=>none) (fun _=>none)
def zk (n:Nat) {R:Type} (l:(Sq BA)) (k:((Sq BA)×Unit)→Option R):Option R:=
 (Kb n n l (0:Int) (⟨0,fun _=>Ba .str⟩:Sq BA)).bind fun x_1=>onL x_1
 (fun a_2=>
  k (a_2,()))
 (fun _=>none)
 (fun _=>none)
def kg (n:Nat) (l:(Sq BA)):Option ((Sq BA)×Unit):=zk n l some
theorem UF (n:Nat) {S:Type}:∀ l (φ:_→Option S),(kg n l).bind φ=zk n l φ:=by
 intros;unfold kg zk;first | (simp only [fa,ba,iB,bB,oL,oX,nB,Option.bind_some]) | rfl
def Ne (n:Nat):Hint OutS:={ live:=fun c=>(cond (Nat.beq c 0) [(0,some (.sl .str)),(3,some (.sl .str)),(4,none)] []),run:=fun c=>(cond (Nat.beq c 0) (some (aq Ng Mg fun σ ρ K=>(Kb n n σ.1 σ.2.1 ρ.1).bind (Ob K))) none),xm:=fun c q=>(cond (Nat.beq c 0&&Nat.beq (q.getD 1000000) 0&&q.isSome) (some [(3,some (.sl .str))]) none) }
def Me (n:Nat) (K:XE→List AV→ia→Option OutS) (m:Nat) (l1:(Sq BA)) (i:Int) (m0:(Sq BA)):Option OutS:=Pe tys (da OutS (Zl n)) (Ne n) n (Da [1,1,0,1,0,0] (aa Tryz.f39)) 0 Ng Mg K m (l1,(i,())) (m0,((),()))
theorem Mm (n:Nat) (K:XE→List AV→ia→Option OutS):∀ (m:Nat) l1 i m0,Me n K m l1 i m0=(Kb n m l1 i m0).bind (Ob K)
 | 0,_,_,_=>by kernel_rfl
 | m+1,l1,i,m0=>by
  have h1:Me n K (m+1) l1 i m0=cg n l1 i m0 (Me n K m) (fun a=>Ob K (.out a)) (fun a=>Ob K (.ret a)) (fun p=>Ob K (.pan p)):=by kernel_rfl
  have h2:Me n K m=fun l1 i m0=>(Kb n m l1 i m0).bind (Ob K):=by
   repeat (refine funext fun _=>?_)
   exact Mm n K m _ _ _
  rw [h1,h2];exact (yz n m _ _ _ (Ob K)).symm
theorem Ux (n:Nat):ie tys (da OutS (Zl n)) (Ne n) n (Da [1,1,0,1,0,0] (aa Tryz.f39)) 0:=Oa (sp:=Ng) (rp:=Mg) (by kernel_rfl) fun K σ ρ=>Mm n K n σ.1 σ.2.1 ρ.1
theorem Az (n:Nat):ta tys (da OutS (Zl n)) (Ne n) n (aa Tryz.f39) 0:=⟨trivial,⟨trivial,⟨⟨trivial,⟨Ux n,⟨⟨trivial,⟨trivial,trivial⟩⟩,⟨trivial,trivial⟩⟩⟩⟩,⟨trivial,trivial⟩⟩⟩⟩
theorem yB (n:Nat):Enters Tryz.prog 39:=enters_of (c:=aa Tryz.f39) Tryz.func39 (by kernel_rfl) (by kernel_rfl)
def Zp:List RSp:=[.one (.dat (.sl .str))]
def Yp:List RS:=[]
def zB:List Sl:=[.top]
def AB:List RSp:=[.one (.row 0)]
def Bf:List RS:=[.row 9 1 .str true false]
def Ak (y:((Sq BA)×Unit)):OutS:=⟨false,dl (dc Bf (y.1,())) zB (),aw (Xt (dc Bf (y.1,())) AB ((),())),Qo (dc Bf (y.1,())) Bf (y.1,())⟩
theorem WD (n:Nat):EntryOk Tryz.prog gl ⟨39,gf,none,some (csT Zp Yp (fun σ ρ=>kg n σ.1.1) Ak)⟩:=
 Sc (yB n) fun σ ρ y h=>df tys_ok (Iy n) mixed (hint:=Ne n) (n:=n) Tryz.func39 (Pa (Az n)) (la (φ:=fun y=>some (Ak y)) (by kernel_rfl) (UF n σ.1.1 _) h)
def uj (n:Nat):List Entry:=⟨39,gf,none,some (csT Zp Yp (fun σ ρ=>kg n σ.1.1) Ak)⟩::Zl n
theorem Ul (n:Nat):AllOk Tryz.prog gl (uj n):=.cons (WD n) (Iy n)
def ig (n:Nat) {R:Type} (b0:Bool) (b01:(Sq Int)) (b02:Int) (b03:BA) (b04:Bool) (b05:BA) (b06:Bool) (b07:BA) (r1:(Sq U1)) (r2:(Sq BA)) (k:U13→Option R):Option R:=
 (kg n r2).bind fun v=>
 k (b0,(b01,(b02,(b03,(b04,(b05,(b06,(b07,(v.1,(r1,(r2,())))))))))))
def Yc (n:Nat) (b0:Bool) (b01:(Sq Int)) (b02:Int) (b03:BA) (b04:Bool) (b05:BA) (b06:Bool) (b07:BA) (r1:(Sq U1)) (r2:(Sq BA)):Option U13:=ig n b0 b01 b02 b03 b04 b05 b06 b07 r1 r2 some
theorem Dw (n:Nat) {S:Type}:∀ b0 b01 b02 b03 b04 b05 b06 b07 r1 r2 (φ:_→Option S),(Yc n b0 b01 b02 b03 b04 b05 b06 b07 r1 r2).bind φ=ig n b0 b01 b02 b03 b04 b05 b06 b07 r1 r2 φ:=by
 intros;unfold Yc ig;first | (simp only [fa,ba,iB,bB,oL,oX,nB,Option.bind_some]) | rfl
def bi (n:Nat):Hint OutS:={ live:=fun c=>[],run:=fun c=>none,xm:=fun c q=>none }
theorem Zr (n:Nat):ta tys ((da OutS (uj n)).view [39]) (bi n) n (aa Tryz.f19) 0:=ma (fun _=>rfl) _ _ (by kernel_rfl)
theorem It (n:Nat):Enters Tryz.prog 19:=enters_of (c:=aa Tryz.f19) Tryz.func19 (by kernel_rfl) (by kernel_rfl)
def Ij:List RSp:=[.one (.ptr 0 0 0)]
def Hj:List RS:=[.box 74 10 false [.dat .bool,.dat (.sl (.int .i64)),.dat (.int .i64),.dat .str,.dat .bool,.dat .str,.row 1,.dat .bool,.dat .str,.row 2],.row 47 2 (.pair .str (.pair .str .unit)) true true,.row 9 1 .str true true]
def Jt:List Sl:=[.ptr 0 0 0]
def Kt:List RSp:=[.one (.row 1)]
def Vc:List RS:=[.box 74 10 false [.dat .bool,.dat (.sl (.int .i64)),.dat (.int .i64),.dat .str,.dat .bool,.dat .str,.row 2,.dat .bool,.dat .str,.row 3],.row 9 1 .str true false,.row 47 2 (.pair .str (.pair .str .unit)) true true,.row 9 1 .str true true]
def jg (y:U13):OutS:=⟨false,dl (dc Vc ((y.1,(y.2.1,(y.2.2.1,(y.2.2.2.1,(y.2.2.2.2.1,(y.2.2.2.2.2.1,(y.2.2.2.2.2.2.1,(y.2.2.2.2.2.2.2.1,())))))))),(y.2.2.2.2.2.2.2.2.1,(y.2.2.2.2.2.2.2.2.2.1,(y.2.2.2.2.2.2.2.2.2.2.1,()))))) Jt (),aw (Xt (dc Vc ((y.1,(y.2.1,(y.2.2.1,(y.2.2.2.1,(y.2.2.2.2.1,(y.2.2.2.2.2.1,(y.2.2.2.2.2.2.1,(y.2.2.2.2.2.2.2.1,())))))))),(y.2.2.2.2.2.2.2.2.1,(y.2.2.2.2.2.2.2.2.2.1,(y.2.2.2.2.2.2.2.2.2.2.1,()))))) Kt ((),())),Qo (dc Vc ((y.1,(y.2.1,(y.2.2.1,(y.2.2.2.1,(y.2.2.2.2.1,(y.2.2.2.2.2.1,(y.2.2.2.2.2.2.1,(y.2.2.2.2.2.2.2.1,())))))))),(y.2.2.2.2.2.2.2.2.1,(y.2.2.2.2.2.2.2.2.2.1,(y.2.2.2.2.2.2.2.2.2.2.1,()))))) Vc ((y.1,(y.2.1,(y.2.2.1,(y.2.2.2.1,(y.2.2.2.2.1,(y.2.2.2.2.2.1,(y.2.2.2.2.2.2.1,(y.2.2.2.2.2.2.2.1,())))))))),(y.2.2.2.2.2.2.2.2.1,(y.2.2.2.2.2.2.2.2.2.1,(y.2.2.2.2.2.2.2.2.2.2.1,()))))⟩
theorem sv (n:Nat):EntryOk Tryz.prog gl ⟨19,gf,none,some (csT Ij Hj (fun σ ρ=>Yc n ρ.1.1 ρ.1.2.1 ρ.1.2.2.1 ρ.1.2.2.2.1 ρ.1.2.2.2.2.1 ρ.1.2.2.2.2.2.1 ρ.1.2.2.2.2.2.2.1 ρ.1.2.2.2.2.2.2.2.1 ρ.2.1 ρ.2.2.1) jg)⟩:=
 Sc (It n) fun σ ρ y h=>JM tys_ok (Ul n) mixed (hint:=bi n) (n:=n) Tryz.func19 (Pa (Zr n)) (la (φ:=fun y=>some (jg y)) (by kernel_rfl) (Dw n ρ.1.1 ρ.1.2.1 ρ.1.2.2.1 ρ.1.2.2.2.1 ρ.1.2.2.2.2.1 ρ.1.2.2.2.2.2.1 ρ.1.2.2.2.2.2.2.1 ρ.1.2.2.2.2.2.2.2.1 ρ.2.1 ρ.2.2.1 _) h)
def ec (n:Nat):List Entry:=⟨19,gf,none,some (csT Ij Hj (fun σ ρ=>Yc n ρ.1.1 ρ.1.2.1 ρ.1.2.2.1 ρ.1.2.2.2.1 ρ.1.2.2.2.2.1 ρ.1.2.2.2.2.2.1 ρ.1.2.2.2.2.2.2.1 ρ.1.2.2.2.2.2.2.2.1 ρ.2.1 ρ.2.2.1) jg)⟩::uj n
theorem Gh (n:Nat):AllOk Tryz.prog gl (ec n):=.cons (sv n) (Ul n)
def Xj (n:Nat) {R:Type} (i:Int) (l:(Sq BA)) (kn:Int→(Sq BA)→Option R) (ko:((Sq BA))→Option R) (kr:Unit→Option R) (kp:Int→Option R):Option R:=
 if (decide (i<(l.n:Int)))=true then
 if 0≤i∧i<(l.n:Int) then
  kn (IntKind.wrap .i64 (i+(1:Int))) (⟨l.n,fun q=>if q=(Int.toNat i)∧q<l.n then (⟨#[63]⟩:BA) else l.at' q⟩:Sq BA)
 else
  none
 else
 ko l
def Uc (n:Nat):Nat→Int→(Sq BA)→Option (Lx ((Sq BA)) Unit)
 | 0,_,_=>none
 | m+1,i,l=>Xj n i l (Uc n m) (fun a=>some (.out a)) (fun a=>some (.ret a)) (fun p=>some (.pan p))
theorem fJ (n m:Nat) {S:Type}:∀ i l (φ:_→Option S),(Uc n (m+1) i l).bind φ=Xj n i l (fun i l=>(Uc n m i l).bind φ) (fun a=>φ (.out a)) (fun a=>φ (.ret a)) (fun p=>φ (.pan p)):=by
 intros;first | (simp only [Uc,Xj,fa,ba,iB,bB,oL,oX,nB,Option.bind_some]) | rfl
def Kk:List Sl:=.row 0::.top::.dat (.int .i64)::tp 12 []
def Jk:List RS:=[.row 9 1 .str true true,.ghost [.top]]
def xy:List Sl:=.row 0::tp 14 []
def wy:List RS:=[.row 9 1 .str true true,.ghost [.top]]
def Pc (K:XE→List AV→ia→Option OutS):Lx ((Sq BA)) Unit→Option OutS:=fun x=>onL x (fun a=>ak xy wy () (a,((),())) (K (.exit 0))) (fun _=>none) (fun _=>none)
def wt (n:Nat) {R:Type} (r0:(Sq BA)) (k:Unit→Option R):Option R:=
 (Uc n n (0:Int) r0).bind fun x_1=>onL x_1
 (fun a_2=>
  if Ta (a_2.n+1) 16=true then
  k ()
  else
  none)
 (fun _=>none)
 (fun _=>none)
def rm (n:Nat) (r0:(Sq BA)):Option Unit:=wt n r0 some
theorem DO (n:Nat) {S:Type}:∀ r0 (φ:_→Option S),(rm n r0).bind φ=wt n r0 φ:=by
 intros;unfold rm wt;first | (simp only [fa,ba,iB,bB,oL,oX,nB,Option.bind_some]) | rfl
def Nh (n:Nat):Hint OutS:={ live:=fun c=>(cond (Nat.beq c 0) [(0,some (.sl .str)),(2,none)] []),run:=fun c=>(cond (Nat.beq c 0) (some (aq Kk Jk fun σ ρ K=>(Uc n n σ.1 ρ.1).bind (Pc K))) none),xm:=fun c q=>(cond (Nat.beq c 0&&Nat.beq (q.getD 1000000) 0&&q.isSome) (some [(0,some (.sl .str))]) none) }
def Mh (n:Nat) (K:XE→List AV→ia→Option OutS) (m:Nat) (i:Int) (l:(Sq BA)):Option OutS:=Pe tys (da OutS (ec n)) (Nh n) n (Da [0,1,0,0] (aa Tryz.f20)) 0 Kk Jk K m (i,()) (l,((),()))
theorem Nu (n:Nat) (K:XE→List AV→ia→Option OutS):∀ (m:Nat) i l,Mh n K m i l=(Uc n m i l).bind (Pc K)
 | 0,_,_=>by kernel_rfl
 | m+1,i,l=>by
  have h1:Mh n K (m+1) i l=Xj n i l (Mh n K m) (fun a=>Pc K (.out a)) (fun a=>Pc K (.ret a)) (fun p=>Pc K (.pan p)):=by kernel_rfl
  have h2:Mh n K m=fun i l=>(Uc n m i l).bind (Pc K):=by
   repeat (refine funext fun _=>?_)
   exact Nu n K m _ _
  rw [h1,h2];exact (fJ n m _ _ (Pc K)).symm
theorem CG (n:Nat):ie tys (da OutS (ec n)) (Nh n) n (Da [0,1,0,0] (aa Tryz.f20)) 0:=Oa (sp:=Kk) (rp:=Jk) (by kernel_rfl) fun K σ ρ=>Nu n K n σ.1 ρ.1
theorem gJ (n:Nat):ta tys (da OutS (ec n)) (Nh n) n (aa Tryz.f20) 0:=⟨⟨trivial,⟨CG n,⟨⟨trivial,⟨trivial,trivial⟩⟩,⟨trivial,trivial⟩⟩⟩⟩,trivial⟩
theorem uK (n:Nat):Enters Tryz.prog 20:=enters_of (c:=aa Tryz.f20) Tryz.func20 (by kernel_rfl) (by kernel_rfl)
def Qy:List RSp:=[.one (.row 0)]
def Py:List RS:=[.row 9 1 .str true true]
def vK:List Sl:=[.top]
def wK:List RSp:=[]
def Fi:List RS:=[]
def zt (y:Unit):OutS:=⟨false,dl (dc Fi ()) vK (),aw (Xt (dc Fi ()) wK ()),Qo (dc Fi ()) Fi ()⟩
theorem cM (n:Nat):EntryOk Tryz.prog gl ⟨20,gf,none,some (csT Qy Py (fun σ ρ=>rm n ρ.1) zt)⟩:=
 Sc (uK n) fun σ ρ y h=>df tys_ok (Gh n) mixed (hint:=Nh n) (n:=n) Tryz.func20 (Pa (gJ n)) (la (φ:=fun y=>some (zt y)) (by kernel_rfl) (DO n ρ.1 _) h)
def sh (n:Nat):List Entry:=⟨20,gf,none,some (csT Qy Py (fun σ ρ=>rm n ρ.1) zt)⟩::ec n
theorem At (n:Nat):AllOk Tryz.prog gl (sh n):=.cons (cM n) (Gh n)
def Wd (n:Nat) {R:Type} (i:Int) (p1:Bool) (p2:(Sq Int)) (p3:U8) (x:Bool) (x1:(Sq Int)) (x2:BA) (x3:Bool) (x4 x5:BA) (x6:Bool) (x7:BA) (r:Bool) (r1:(Sq Int)) (r2:Int) (r3:BA) (r4:Bool) (r5:BA) (r6:Bool) (r7:BA) (r31 r41:(Sq BA)) (r51:(Sq U1)) (r61:(Sq BA)) (kn:Int→Bool→(Sq Int)→U8→Bool→(Sq Int)→BA→Bool→BA→BA→Bool→BA→Bool→(Sq Int)→Int→BA→Bool→BA→Bool→BA→(Sq BA)→(Sq BA)→(Sq U1)→(Sq BA)→Option R) (ko:(Unit)→Option R) (kr:(Bool)→Option R) (kp:Int→Option R):Option R:=
 if (decide (i<(p3.n:Int)))=true then
 if (decide (i<(20:Int)))=true then
  if 0≤i∧i<(p3.n:Int) then
  (gu n ((p3.at' (Int.toNat i)))).bind fun v5=>
  (Hb n v5 x x1 x2 x3 x4 x5 x6 x7 r31 r41).bind fun v6=>
  if 0≤i∧i<(p3.n:Int) then
   (Ec n ((p3.at' (Int.toNat i))) r r1 r2 r3 r4 r5 r6 r7 r51 r61).bind fun v7=>
   if (!(v6.1.toList==v7.1.toList))=false then
   if 0≤i∧i<(p3.n:Int) then
    (MC n v5 ((p3.at' (Int.toNat i)))).bind fun v8=>
    if (!v8)=true then
    kr false
    else
    (ab n v6.2.1 v6.2.2.1 v6.2.2.2.1 v6.2.2.2.2.1 v6.2.2.2.2.2.1 v6.2.2.2.2.2.2.1 v6.2.2.2.2.2.2.2.1 v6.2.2.2.2.2.2.2.2.1 v6.2.2.2.2.2.2.2.2.2.1 v6.2.2.2.2.2.2.2.2.2.2.1).bind fun v9=>
    (Yc n v7.2.1 v7.2.2.1 v7.2.2.2.1 v7.2.2.2.2.1 v7.2.2.2.2.2.1 v7.2.2.2.2.2.2.1 v7.2.2.2.2.2.2.2.1 v7.2.2.2.2.2.2.2.2.1 v7.2.2.2.2.2.2.2.2.2.1 v7.2.2.2.2.2.2.2.2.2.2.1).bind fun v10=>
    (Ef n v9.2.2.2.2.2.2.2.2.1 v10.2.2.2.2.2.2.2.2.1).bind fun v11=>
    if (!v11)=true then
     kr false
    else
     (rm n v9.2.2.2.2.2.2.2.2.1).bind fun v12=>
     kn (IntKind.wrap .i64 (i+(1:Int))) p1 p2 p3 v9.1 v9.2.1 v9.2.2.1 v9.2.2.2.1 v9.2.2.2.2.1 v9.2.2.2.2.2.1 v9.2.2.2.2.2.2.1 v9.2.2.2.2.2.2.2.1 v10.1 v10.2.1 v10.2.2.1 v10.2.2.2.1 v10.2.2.2.2.1 v10.2.2.2.2.2.1 v10.2.2.2.2.2.2.1 v10.2.2.2.2.2.2.2.1 v9.2.2.2.2.2.2.2.2.2.1 v9.2.2.2.2.2.2.2.2.2.2.1 v10.2.2.2.2.2.2.2.2.2.1 v10.2.2.2.2.2.2.2.2.2.2.1
   else
    none
   else
   kr false
  else
   none
  else
  none
 else
  ko ()
 else
 ko ()
def mb (n:Nat):Nat→Int→Bool→(Sq Int)→U8→Bool→(Sq Int)→BA→Bool→BA→BA→Bool→BA→Bool→(Sq Int)→Int→BA→Bool→BA→Bool→BA→(Sq BA)→(Sq BA)→(Sq U1)→(Sq BA)→Option (Lx (Unit) (Bool))
 | 0,_,_,_,_,_,_,_,_,_,_,_,_,_,_,_,_,_,_,_,_,_,_,_,_=>none
 | m+1,i,p1,p2,p3,x,x1,x2,x3,x4,x5,x6,x7,r,r1,r2,r3,r4,r5,r6,r7,r31,r41,r51,r61=>Wd n i p1 p2 p3 x x1 x2 x3 x4 x5 x6 x7 r r1 r2 r3 r4 r5 r6 r7 r31 r41 r51 r61 (mb n m) (fun a=>some (.out a)) (fun a=>some (.ret a)) (fun p=>some (.pan p))
theorem fv (n m:Nat) {S:Type}:∀ i p1 p2 p3 x x1 x2 x3 x4 x5 x6 x7 r r1 r2 r3 r4 r5 r6 r7 r31 r41 r51 r61 (φ:_→Option S),(mb n (m+1) i p1 p2 p3 x x1 x2 x3 x4 x5 x6 x7 r r1 r2 r3 r4 r5 r6 r7 r31 r41 r51 r61).bind φ=Wd n i p1 p2 p3 x x1 x2 x3 x4 x5 x6 x7 r r1 r2 r3 r4 r5 r6 r7 r31 r41 r51 r61 (fun i p1 p2 p3 x x1 x2 x3 x4 x5 x6 x7 r r1 r2 r3 r4 r5 r6 r7 r31 r41 r51 r61=>(mb n m i p1 p2 p3 x x1 x2 x3 x4 x5 x6 x7 r r1 r2 r3 r4 r5 r6 r7 r31 r41 r51 r61).bind φ) (fun a=>φ (.out a)) (fun a=>φ (.ret a)) (fun p=>φ (.pan p)):=by
 intros;first | (simp only [mb,Wd,fa,ba,iB,bB,oL,oX,nB,Option.bind_some]) | rfl
def Se:List Sl:=.top::.ptr 0 0 0::.top::.ptr 1 0 0::.ptr 2 0 0::.dat (.int .i64)::tp 80 []
def Re:List RS:=[.box 25 3 true [.dat .bool,.dat (.sl (.int .i64)),.dat (.sl (.sl (.int .u8)))],.box 71 10 false [.dat .bool,.dat (.sl (.int .i64)),.dat .str,.dat .bool,.dat .str,.row 3,.dat .str,.dat .bool,.row 4,.dat .str],.box 74 10 false [.dat .bool,.dat (.sl (.int .i64)),.dat (.int .i64),.dat .str,.dat .bool,.dat .str,.row 5,.dat .bool,.dat .str,.row 6],.row 9 1 .str true true,.row 9 1 .str true true,.row 47 2 (.pair .str (.pair .str .unit)) true true,.row 9 1 .str true true]
def vo:List Sl:=tp 86 []
def uo:List RS:=[]
def xo:List Sl:=.top::.top::.dat .bool::tp 83 []
def wo:List RS:=[]
def rb (K:XE→List AV→ia→Option Out):Lx (Unit) (Bool)→Option Out:=fun x=>onL x (fun a=>ak vo uo () () (K (.exit 0))) (fun a=>ak xo wo (a,()) () (K .ret)) (fun _=>none)
def wh (n:Nat) {R:Type} (p:U18) (k:Bool→Option R):Option R:=
 if (decide ((p.2.1.n:Int)>(500:Int)))=false then
 (ae n p.2.2.1).bind fun v=>
 if (decide (v>(20000:Int)))=true then
  k true
 else
  dup 1 (
  (Jj n p.2.1).bind fun v1=>
  (Hd n p.1 v1).bind fun v2=>
  (lc n v2.1 v2.2.1 v2.2.2.1 v2.2.2.2.1 v2.2.2.2.2.1 v2.2.2.2.2.2.1 v2.2.2.2.2.2.2.1 v2.2.2.2.2.2.2.2.1 v2.2.2.2.2.2.2.2.2.1 v2.2.2.2.2.2.2.2.2.2.1).bind fun v3=>
  if (!(v3.1.toList==(⟨#[50,50,48,32,104,101,114,101,13,10]⟩:BA).toList))=true then
   k false
  else
   (gg n p.1 p.2.1).bind fun v4=>
   (mb n n (0:Int) p.1 p.2.1 p.2.2.1 v3.2.1 v3.2.2.1 v3.2.2.2.1 v3.2.2.2.2.1 v3.2.2.2.2.2.1 v3.2.2.2.2.2.2.1 v3.2.2.2.2.2.2.2.1 v3.2.2.2.2.2.2.2.2.1 v4.1 v4.2.1 v4.2.2.1 v4.2.2.2.1 v4.2.2.2.2.1 v4.2.2.2.2.2.1 v4.2.2.2.2.2.2.1 v4.2.2.2.2.2.2.2.1 v3.2.2.2.2.2.2.2.2.2.1 v3.2.2.2.2.2.2.2.2.2.2.1 v4.2.2.2.2.2.2.2.2.1 v4.2.2.2.2.2.2.2.2.2.1).bind fun x_1=>onL x_1
   (fun a_2=>
    (Gb n).bind fun v13=>
    k v13)
   (fun a_3=>
    k a_3)
   (fun _=>none))
 else
 k true
def qj (n:Nat) (p:U18):Option Bool:=wh n p some
theorem pz (n:Nat) {S:Type}:∀ p (φ:_→Option S),(qj n p).bind φ=wh n p φ:=by
 intros;unfold qj wh;first | (simp only [fa,ba,iB,bB,oL,oX,nB,Option.bind_some]) | rfl
def sd (n:Nat):Hint Out:={ live:=fun c=>(cond (Nat.beq c 0) (lv [1,3,4,5]) []),run:=fun c=>(cond (Nat.beq c 0) (some (aq Se Re fun σ ρ K=>(mb n n σ.1 ρ.1.1 ρ.1.2.1 ρ.1.2.2.1 ρ.2.1.1 ρ.2.1.2.1 ρ.2.1.2.2.1 ρ.2.1.2.2.2.1 ρ.2.1.2.2.2.2.1 ρ.2.1.2.2.2.2.2.1 ρ.2.1.2.2.2.2.2.2.1 ρ.2.1.2.2.2.2.2.2.2.1 ρ.2.2.1.1 ρ.2.2.1.2.1 ρ.2.2.1.2.2.1 ρ.2.2.1.2.2.2.1 ρ.2.2.1.2.2.2.2.1 ρ.2.2.1.2.2.2.2.2.1 ρ.2.2.1.2.2.2.2.2.2.1 ρ.2.2.1.2.2.2.2.2.2.2.1 ρ.2.2.2.1 ρ.2.2.2.2.1 ρ.2.2.2.2.2.1 ρ.2.2.2.2.2.2.1).bind (rb K))) none),xm:=fun c q=>(cond (Nat.beq c 0&&Nat.beq (q.getD 1000000) 0&&q.isSome) (some []) (cond (Nat.beq c 1&&q.isNone) (some [(2,none)]) none)),sch:=fun c=>(cond (Nat.beq c 3) (some [(0,0),(2,0),(3,1),(4,5),(1,7),(5,7),(6,6)]) none) }
def rd (n:Nat) (K:XE→List AV→ia→Option Out) (m:Nat) (i:Int) (p1:Bool) (p2:(Sq Int)) (p3:U8) (x:Bool) (x1:(Sq Int)) (x2:BA) (x3:Bool) (x4:BA) (x5:BA) (x6:Bool) (x7:BA) (r:Bool) (r1:(Sq Int)) (r2:Int) (r3:BA) (r4:Bool) (r5:BA) (r6:Bool) (r7:BA) (r31:(Sq BA)) (r41:(Sq BA)) (r51:(Sq U1)) (r61:(Sq BA)):Option Out:=Pe tys (da Out (sh n)) (sd n) n (Da [1,1,1,1,1,0,1,0,0] (aa Tryz.f3)) 0 Se Re K m (i,()) ((p1,(p2,(p3,()))),((x,(x1,(x2,(x3,(x4,(x5,(x6,(x7,())))))))),((r,(r1,(r2,(r3,(r4,(r5,(r6,(r7,())))))))),(r31,(r41,(r51,(r61,())))))))
theorem Bj (n:Nat) (K:XE→List AV→ia→Option Out):∀ (m:Nat) i p1 p2 p3 x x1 x2 x3 x4 x5 x6 x7 r r1 r2 r3 r4 r5 r6 r7 r31 r41 r51 r61,rd n K m i p1 p2 p3 x x1 x2 x3 x4 x5 x6 x7 r r1 r2 r3 r4 r5 r6 r7 r31 r41 r51 r61=(mb n m i p1 p2 p3 x x1 x2 x3 x4 x5 x6 x7 r r1 r2 r3 r4 r5 r6 r7 r31 r41 r51 r61).bind (rb K)
 | 0,_,_,_,_,_,_,_,_,_,_,_,_,_,_,_,_,_,_,_,_,_,_,_,_=>by kernel_rfl
 | m+1,i,p1,p2,p3,x,x1,x2,x3,x4,x5,x6,x7,r,r1,r2,r3,r4,r5,r6,r7,r31,r41,r51,r61=>by
  have h1:rd n K (m+1) i p1 p2 p3 x x1 x2 x3 x4 x5 x6 x7 r r1 r2 r3 r4 r5 r6 r7 r31 r41 r51 r61=Wd n i p1 p2 p3 x x1 x2 x3 x4 x5 x6 x7 r r1 r2 r3 r4 r5 r6 r7 r31 r41 r51 r61 (rd n K m) (fun a=>rb K (.out a)) (fun a=>rb K (.ret a)) (fun p=>rb K (.pan p)):=by kernel_rfl
  have h2:rd n K m=fun i p1 p2 p3 x x1 x2 x3 x4 x5 x6 x7 r r1 r2 r3 r4 r5 r6 r7 r31 r41 r51 r61=>(mb n m i p1 p2 p3 x x1 x2 x3 x4 x5 x6 x7 r r1 r2 r3 r4 r5 r6 r7 r31 r41 r51 r61).bind (rb K):=by
   repeat (refine funext fun _=>?_)
   exact Bj n K m _ _ _ _ _ _ _ _ _ _ _ _ _ _ _ _ _ _ _ _ _ _ _ _
  rw [h1,h2];exact (fv n m _ _ _ _ _ _ _ _ _ _ _ _ _ _ _ _ _ _ _ _ _ _ _ _ (rb K)).symm
theorem Bt (n:Nat):ie tys (da Out (sh n)) (sd n) n (Da [1,1,1,1,1,0,1,0,0] (aa Tryz.f3)) 0:=Oa (sp:=Se) (rp:=Re) (by kernel_rfl) fun K σ ρ=>Bj n K n σ.1 ρ.1.1 ρ.1.2.1 ρ.1.2.2.1 ρ.2.1.1 ρ.2.1.2.1 ρ.2.1.2.2.1 ρ.2.1.2.2.2.1 ρ.2.1.2.2.2.2.1 ρ.2.1.2.2.2.2.2.1 ρ.2.1.2.2.2.2.2.2.1 ρ.2.1.2.2.2.2.2.2.2.1 ρ.2.2.1.1 ρ.2.2.1.2.1 ρ.2.2.1.2.2.1 ρ.2.2.1.2.2.2.1 ρ.2.2.1.2.2.2.2.1 ρ.2.2.1.2.2.2.2.2.1 ρ.2.2.1.2.2.2.2.2.2.1 ρ.2.2.1.2.2.2.2.2.2.2.1 ρ.2.2.2.1 ρ.2.2.2.2.1 ρ.2.2.2.2.2.1 ρ.2.2.2.2.2.2.1
theorem iv (n:Nat):ta tys (da Out (sh n)) (sd n) n (aa Tryz.f3) 0:=⟨trivial,⟨⟨trivial,⟨⟨trivial,trivial⟩,trivial⟩⟩,⟨trivial,⟨⟨trivial,⟨⟨trivial,trivial⟩,trivial⟩⟩,⟨trivial,⟨⟨trivial,⟨Bt n,⟨⟨trivial,⟨trivial,trivial⟩⟩,⟨⟨trivial,⟨trivial,⟨⟨trivial,⟨⟨trivial,trivial⟩,trivial⟩⟩,⟨trivial,⟨⟨trivial,⟨⟨trivial,trivial⟩,trivial⟩⟩,trivial⟩⟩⟩⟩⟩,trivial⟩⟩⟩⟩,⟨trivial,trivial⟩⟩⟩⟩⟩⟩⟩
theorem zw (n:Nat):Enters Tryz.prog 3:=enters_of (c:=aa Tryz.f3) Tryz.func3 (by kernel_rfl) (by kernel_rfl)
def Hl (n:Nat):Entry:=⟨3,pcT K5 (.one .bool) (fun xs=>qj n xs.1),none,none⟩
theorem Rx (n:Nat):EntryOk Tryz.prog gl (Hl n):=
 Qa (zw n) fun xs y h=>ra tys_ok (At n) mixed (hint:=sd n) (n:=n) Tryz.func3 (Pa (iv n)) (la (φ:=(fun y=>some (Out.ret (Vf (.one .bool) y)))) (by kernel_rfl) (pz n xs.1 _) h)
def Wa (n:Nat):List Entry:=Hl n::sh n
theorem Ct (n:Nat):AllOk Tryz.prog gl (Wa n):=.cons (Rx n) (At n)
end
end Go.Proofs.YtddefjokgaajfaaGreatDoor.AM
