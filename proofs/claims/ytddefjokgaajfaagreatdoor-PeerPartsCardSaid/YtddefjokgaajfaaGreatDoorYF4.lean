/- Typed functions that tell what the Go functions of this seat answer, and proofs of it, by program (gen.py). -/
import Derived.Test.YtddefjokgaajfaaGreatDoorYF3
set_option linter.all false
set_option linter.unusedVariables false
set_option linter.unusedSimpArgs false
set_option maxRecDepth 1000000
set_option maxHeartbeats 0
namespace Go.Proofs.YtddefjokgaajfaaGreatDoor.AM
open Go Go.RowKit
noncomputable section
def Cb (n:Nat) {R:Type} (i:Int) (p1:Bool) (p2:(Sq Int)) (p3:U8) (all:(Sq Int)) (kn:Int→Bool→(Sq Int)→U8→(Sq Int)→Option R) (ko:((Sq Int)×Bool×(Sq Int)×U8)→Option R) (kr:Unit→Option R) (kp:Int→Option R):Option R:=
 if (decide (i<(p3.n:Int)))=true then
 if (decide (i<(20:Int)))=true then
  if 0≤i∧i<(p3.n:Int) then
  if Ta (all.n+((p3.at' (Int.toNat i))).n) 1=true then
   kn (IntKind.wrap .i64 (i+(1:Int))) p1 p2 p3 (⟨(all.n+((p3.at' (Int.toNat i))).n),fun q=>if q<all.n then all.at' q else (((p3.at' (Int.toNat i))).at') (q - all.n)⟩:Sq Int)
  else
   none
  else
  none
 else
  ko (all,p1,p2,p3)
 else
 ko (all,p1,p2,p3)
def Ga (n:Nat):Nat→Int→Bool→(Sq Int)→U8→(Sq Int)→Option (Lx ((Sq Int)×Bool×(Sq Int)×U8) Unit)
 | 0,_,_,_,_,_=>none
 | m+1,i,p1,p2,p3,all=>Cb n i p1 p2 p3 all (Ga n m) (fun a=>some (.out a)) (fun a=>some (.ret a)) (fun p=>some (.pan p))
theorem jv (n m:Nat) {S:Type}:∀ i p1 p2 p3 all (φ:_→Option S),(Ga n (m+1) i p1 p2 p3 all).bind φ=Cb n i p1 p2 p3 all (fun i p1 p2 p3 all=>(Ga n m i p1 p2 p3 all).bind φ) (fun a=>φ (.out a)) (fun a=>φ (.ret a)) (fun p=>φ (.pan p)):=by
 intros;first | (simp only [Ga,Cb,fa,ba,iB,bB,oL,oX,nB,Option.bind_some]) | rfl
def Ue:List Sl:=.top::.ptr 0 0 0::.top::.row 1::.dat (.int .i64)::tp 131 []
def Te:List RS:=[.box 25 3 true [.dat .bool,.dat (.sl (.int .i64)),.dat (.sl (.sl (.int .u8)))],.row 5 1 (.int .u8) true false]
def Bo:List Sl:=.top::.ptr 0 0 0::.top::.dat (.sl (.int .u8))::tp 132 []
def Ao:List RS:=[.box 25 3 true [.dat .bool,.dat (.sl (.int .i64)),.dat (.sl (.sl (.int .u8)))],.dead]
def tb (K:XE→List AV→ia→Option Out):Lx ((Sq Int)×Bool×(Sq Int)×U8) Unit→Option Out:=fun x=>onL x (fun a=>ak Bo Ao (a.1,()) ((a.2.1,(a.2.2.1,(a.2.2.2,()))),()) (K (.exit 0))) (fun _=>none) (fun _=>none)
def td (n:Nat) {R:Type} (all2:(Sq Int)) (p7:Bool) (p8:(Sq Int)) (p9:U8) (ko:U6→Option R) (kr:Unit→Option R) (kp:Int→Option R):Option R:=
 (Hd n p7 p8).bind fun v1=>
 (Hd n p7 p8).bind fun v2=>
 (Hd n p7 p8).bind fun v3=>
 ko (all2,p7,p8,p9,v1.1,v1.2.1,v1.2.2.1,v1.2.2.2.1,v1.2.2.2.2.1,v1.2.2.2.2.2.1,v1.2.2.2.2.2.2.1,v1.2.2.2.2.2.2.2.1,v2.1,v2.2.1,v2.2.2.1,v2.2.2.2.1,v2.2.2.2.2.1,v2.2.2.2.2.2.1,v2.2.2.2.2.2.2.1,v2.2.2.2.2.2.2.2.1,v3.1,v3.2.1,v3.2.2.1,v3.2.2.2.1,v3.2.2.2.2.1,v3.2.2.2.2.2.1,v3.2.2.2.2.2.2.1,v3.2.2.2.2.2.2.2.1,v1.2.2.2.2.2.2.2.2.1,v1.2.2.2.2.2.2.2.2.2.1,v2.2.2.2.2.2.2.2.2.1,v2.2.2.2.2.2.2.2.2.2.1,v3.2.2.2.2.2.2.2.2.1,v3.2.2.2.2.2.2.2.2.2.1)
def Yb (n:Nat) (all2:(Sq Int)) (p7:Bool) (p8:(Sq Int)) (p9:U8):Option (Lx U6 Unit):=td n all2 p7 p8 p9 (fun a=>some (.out a)) (fun a=>some (.ret a)) (fun p=>some (.pan p))
theorem Xr (n:Nat) {S:Type}:∀ all2 p7 p8 p9 (φ:_→Option S),(Yb n all2 p7 p8 p9).bind φ=td n all2 p7 p8 p9 (fun a=>φ (.out a)) (fun a=>φ (.ret a)) (fun p=>φ (.pan p)):=by
 intros;first | (simp only [Yb,td,fa,ba,iB,bB,oL,oX,nB,Option.bind_some]) | rfl
def Ii:List Sl:=.top::.ptr 0 0 0::.top::.dat (.sl (.int .u8))::tp 132 []
def Hi:List RS:=[.box 25 3 true [.dat .bool,.dat (.sl (.int .i64)),.dat (.sl (.sl (.int .u8)))]]
def zo:List Sl:=.top::.ptr 0 0 0::.top::.dat (.sl (.int .u8))::.top::.ptr 1 0 0::.ptr 2 0 0::.ptr 3 0 0::tp 128 []
def yo:List RS:=[.box 25 3 true [.dat .bool,.dat (.sl (.int .i64)),.dat (.sl (.sl (.int .u8)))],.box 71 10 false [.dat .bool,.dat (.sl (.int .i64)),.dat .str,.dat .bool,.dat .str,.row 4,.dat .str,.dat .bool,.row 5,.dat .str],.box 71 10 false [.dat .bool,.dat (.sl (.int .i64)),.dat .str,.dat .bool,.dat .str,.row 6,.dat .str,.dat .bool,.row 7,.dat .str],.box 71 10 false [.dat .bool,.dat (.sl (.int .i64)),.dat .str,.dat .bool,.dat .str,.row 8,.dat .str,.dat .bool,.row 9,.dat .str],.row 9 1 .str true true,.row 9 1 .str true true,.row 9 1 .str true true,.row 9 1 .str true true,.row 9 1 .str true true,.row 9 1 .str true true]
def Cj (K:XE→List AV→ia→Option Out):Lx U6 Unit→Option Out:=fun x=>onL x (fun a=>ak zo yo (a.1,()) ((a.2.1,(a.2.2.1,(a.2.2.2.1,()))),((a.2.2.2.2.1,(a.2.2.2.2.2.1,(a.2.2.2.2.2.2.1,(a.2.2.2.2.2.2.2.1,(a.2.2.2.2.2.2.2.2.1,(a.2.2.2.2.2.2.2.2.2.1,(a.2.2.2.2.2.2.2.2.2.2.1,(a.2.2.2.2.2.2.2.2.2.2.2.1,())))))))),((a.2.2.2.2.2.2.2.2.2.2.2.2.1,(a.2.2.2.2.2.2.2.2.2.2.2.2.2.1,(a.2.2.2.2.2.2.2.2.2.2.2.2.2.2.1,(a.2.2.2.2.2.2.2.2.2.2.2.2.2.2.2.1,(a.2.2.2.2.2.2.2.2.2.2.2.2.2.2.2.2.1,(a.2.2.2.2.2.2.2.2.2.2.2.2.2.2.2.2.2.1,(a.2.2.2.2.2.2.2.2.2.2.2.2.2.2.2.2.2.2.1,(a.2.2.2.2.2.2.2.2.2.2.2.2.2.2.2.2.2.2.2.1,())))))))),((a.2.2.2.2.2.2.2.2.2.2.2.2.2.2.2.2.2.2.2.2.1,(a.2.2.2.2.2.2.2.2.2.2.2.2.2.2.2.2.2.2.2.2.2.1,(a.2.2.2.2.2.2.2.2.2.2.2.2.2.2.2.2.2.2.2.2.2.2.1,(a.2.2.2.2.2.2.2.2.2.2.2.2.2.2.2.2.2.2.2.2.2.2.2.1,(a.2.2.2.2.2.2.2.2.2.2.2.2.2.2.2.2.2.2.2.2.2.2.2.2.1,(a.2.2.2.2.2.2.2.2.2.2.2.2.2.2.2.2.2.2.2.2.2.2.2.2.2.1,(a.2.2.2.2.2.2.2.2.2.2.2.2.2.2.2.2.2.2.2.2.2.2.2.2.2.2.1,(a.2.2.2.2.2.2.2.2.2.2.2.2.2.2.2.2.2.2.2.2.2.2.2.2.2.2.2.1,())))))))),(a.2.2.2.2.2.2.2.2.2.2.2.2.2.2.2.2.2.2.2.2.2.2.2.2.2.2.2.2.1,(a.2.2.2.2.2.2.2.2.2.2.2.2.2.2.2.2.2.2.2.2.2.2.2.2.2.2.2.2.2.1,(a.2.2.2.2.2.2.2.2.2.2.2.2.2.2.2.2.2.2.2.2.2.2.2.2.2.2.2.2.2.2.1,(a.2.2.2.2.2.2.2.2.2.2.2.2.2.2.2.2.2.2.2.2.2.2.2.2.2.2.2.2.2.2.2.1,(a.2.2.2.2.2.2.2.2.2.2.2.2.2.2.2.2.2.2.2.2.2.2.2.2.2.2.2.2.2.2.2.2.1,(a.2.2.2.2.2.2.2.2.2.2.2.2.2.2.2.2.2.2.2.2.2.2.2.2.2.2.2.2.2.2.2.2.2,())))))))))) (K .normal)) (fun _=>none) (fun _=>none)
def Xb (n:Nat) {R:Type} (all4:(Sq Int)) (a b d:BA) (i1:Int) (p13:Bool) (p14:(Sq Int)) (p15:U8) (x8:Bool) (x9:(Sq Int)) (x10:BA) (x11:Bool) (x12 x13:BA) (x14:Bool) (x15:BA) (y8:Bool) (y9:(Sq Int)) (y10:BA) (y11:Bool) (y12 y13:BA) (y14:Bool) (y15:BA) (w8:Bool) (w9:(Sq Int)) (w10:BA) (w11:Bool) (w12 w13:BA) (w14:Bool) (w15:BA) (r41 r51 r61 r71 r81 r91:(Sq BA)) (kn:(Sq Int)→BA→BA→BA→Int→Bool→(Sq Int)→U8→Bool→(Sq Int)→BA→Bool→BA→BA→Bool→BA→Bool→(Sq Int)→BA→Bool→BA→BA→Bool→BA→Bool→(Sq Int)→BA→Bool→BA→BA→Bool→BA→(Sq BA)→(Sq BA)→(Sq BA)→(Sq BA)→(Sq BA)→(Sq BA)→Option R) (ko:U5→Option R) (kr:Unit→Option R) (kp:Int→Option R):Option R:=
 if (decide (i1<(all4.n:Int)))=true then
 if 0≤(IntKind.wrap .i64 (i1+(1:Int)))∧(IntKind.wrap .i64 (i1+(1:Int)))≤(all4.n:Int) then
  if 0≤i1∧i1≤(IntKind.wrap .i64 (i1+(1:Int))) then
  (Hb n (⟨((Int.toNat (IntKind.wrap .i64 (i1+(1:Int)))) - (Int.toNat i1)),fun j_0=>all4.at' ((Int.toNat i1)+j_0)⟩:Sq Int) y8 y9 y10 y11 y12 y13 y14 y15 r61 r71).bind fun v5=>
  if Ca b v5.1=true then
   kn all4 a (b++v5.1) d (IntKind.wrap .i64 (i1+(1:Int))) p13 p14 p15 x8 x9 x10 x11 x12 x13 x14 x15 v5.2.1 v5.2.2.1 v5.2.2.2.1 v5.2.2.2.2.1 v5.2.2.2.2.2.1 v5.2.2.2.2.2.2.1 v5.2.2.2.2.2.2.2.1 v5.2.2.2.2.2.2.2.2.1 w8 w9 w10 w11 w12 w13 w14 w15 r41 r51 v5.2.2.2.2.2.2.2.2.2.1 v5.2.2.2.2.2.2.2.2.2.2.1 r81 r91
  else
   none
  else
  none
 else
  none
 else
 ko (a,b,d,p13,p14,p15,x8,x9,x10,x11,x12,x13,x14,x15,y8,y9,y10,y11,y12,y13,y14,y15,w8,w9,w10,w11,w12,w13,w14,w15,r41,r51,r61,r71,r81,r91)
def Ka (n:Nat):Nat→(Sq Int)→BA→BA→BA→Int→Bool→(Sq Int)→U8→Bool→(Sq Int)→BA→Bool→BA→BA→Bool→BA→Bool→(Sq Int)→BA→Bool→BA→BA→Bool→BA→Bool→(Sq Int)→BA→Bool→BA→BA→Bool→BA→(Sq BA)→(Sq BA)→(Sq BA)→(Sq BA)→(Sq BA)→(Sq BA)→Option (Lx U5 Unit)
 | 0,_,_,_,_,_,_,_,_,_,_,_,_,_,_,_,_,_,_,_,_,_,_,_,_,_,_,_,_,_,_,_,_,_,_,_,_,_,_=>none
 | m+1,all4,a,b,d,i1,p13,p14,p15,x8,x9,x10,x11,x12,x13,x14,x15,y8,y9,y10,y11,y12,y13,y14,y15,w8,w9,w10,w11,w12,w13,w14,w15,r41,r51,r61,r71,r81,r91=>Xb n all4 a b d i1 p13 p14 p15 x8 x9 x10 x11 x12 x13 x14 x15 y8 y9 y10 y11 y12 y13 y14 y15 w8 w9 w10 w11 w12 w13 w14 w15 r41 r51 r61 r71 r81 r91 (Ka n m) (fun a=>some (.out a)) (fun a=>some (.ret a)) (fun p=>some (.pan p))
theorem mv (n m:Nat) {S:Type}:∀ all4 a b d i1 p13 p14 p15 x8 x9 x10 x11 x12 x13 x14 x15 y8 y9 y10 y11 y12 y13 y14 y15 w8 w9 w10 w11 w12 w13 w14 w15 r41 r51 r61 r71 r81 r91 (φ:_→Option S),(Ka n (m+1) all4 a b d i1 p13 p14 p15 x8 x9 x10 x11 x12 x13 x14 x15 y8 y9 y10 y11 y12 y13 y14 y15 w8 w9 w10 w11 w12 w13 w14 w15 r41 r51 r61 r71 r81 r91).bind φ=Xb n all4 a b d i1 p13 p14 p15 x8 x9 x10 x11 x12 x13 x14 x15 y8 y9 y10 y11 y12 y13 y14 y15 w8 w9 w10 w11 w12 w13 w14 w15 r41 r51 r61 r71 r81 r91 (fun all4 a b d i1 p13 p14 p15 x8 x9 x10 x11 x12 x13 x14 x15 y8 y9 y10 y11 y12 y13 y14 y15 w8 w9 w10 w11 w12 w13 w14 w15 r41 r51 r61 r71 r81 r91=>(Ka n m all4 a b d i1 p13 p14 p15 x8 x9 x10 x11 x12 x13 x14 x15 y8 y9 y10 y11 y12 y13 y14 y15 w8 w9 w10 w11 w12 w13 w14 w15 r41 r51 r61 r71 r81 r91).bind φ) (fun a=>φ (.out a)) (fun a=>φ (.ret a)) (fun p=>φ (.pan p)):=by
 intros;first | (simp only [Ka,Xb,fa,ba,iB,bB,oL,oX,nB,Option.bind_some]) | rfl
def We:List Sl:=.top::.ptr 0 0 0::.top::.dat (.sl (.int .u8))::.top::.ptr 1 0 0::.ptr 2 0 0::.ptr 3 0 0::.dat .str::.dat .str::.dat .str::.dat (.int .i64)::tp 124 []
def Ve:List RS:=[.box 25 3 true [.dat .bool,.dat (.sl (.int .i64)),.dat (.sl (.sl (.int .u8)))],.box 71 10 false [.dat .bool,.dat (.sl (.int .i64)),.dat .str,.dat .bool,.dat .str,.row 4,.dat .str,.dat .bool,.row 5,.dat .str],.box 71 10 false [.dat .bool,.dat (.sl (.int .i64)),.dat .str,.dat .bool,.dat .str,.row 6,.dat .str,.dat .bool,.row 7,.dat .str],.box 71 10 false [.dat .bool,.dat (.sl (.int .i64)),.dat .str,.dat .bool,.dat .str,.row 8,.dat .str,.dat .bool,.row 9,.dat .str],.row 9 1 .str true true,.row 9 1 .str true true,.row 9 1 .str true true,.row 9 1 .str true true,.row 9 1 .str true true,.row 9 1 .str true true]
def Eo:List Sl:=.top::.ptr 0 0 0::.top::.top::.top::.ptr 1 0 0::.ptr 2 0 0::.ptr 3 0 0::.dat .str::.dat .str::.dat .str::tp 125 []
def Co:List RS:=[.box 25 3 true [.dat .bool,.dat (.sl (.int .i64)),.dat (.sl (.sl (.int .u8)))],.box 71 10 false [.dat .bool,.dat (.sl (.int .i64)),.dat .str,.dat .bool,.dat .str,.row 4,.dat .str,.dat .bool,.row 5,.dat .str],.box 71 10 false [.dat .bool,.dat (.sl (.int .i64)),.dat .str,.dat .bool,.dat .str,.row 6,.dat .str,.dat .bool,.row 7,.dat .str],.box 71 10 false [.dat .bool,.dat (.sl (.int .i64)),.dat .str,.dat .bool,.dat .str,.row 8,.dat .str,.dat .bool,.row 9,.dat .str],.row 9 1 .str true true,.row 9 1 .str true true,.row 9 1 .str true true,.row 9 1 .str true true,.row 9 1 .str true true,.row 9 1 .str true true]
def ub (K:XE→List AV→ia→Option Out):Lx U5 Unit→Option Out:=fun x=>onL x (fun a=>ak Eo Co (a.1,(a.2.1,(a.2.2.1,()))) ((a.2.2.2.1,(a.2.2.2.2.1,(a.2.2.2.2.2.1,()))),((a.2.2.2.2.2.2.1,(a.2.2.2.2.2.2.2.1,(a.2.2.2.2.2.2.2.2.1,(a.2.2.2.2.2.2.2.2.2.1,(a.2.2.2.2.2.2.2.2.2.2.1,(a.2.2.2.2.2.2.2.2.2.2.2.1,(a.2.2.2.2.2.2.2.2.2.2.2.2.1,(a.2.2.2.2.2.2.2.2.2.2.2.2.2.1,())))))))),((a.2.2.2.2.2.2.2.2.2.2.2.2.2.2.1,(a.2.2.2.2.2.2.2.2.2.2.2.2.2.2.2.1,(a.2.2.2.2.2.2.2.2.2.2.2.2.2.2.2.2.1,(a.2.2.2.2.2.2.2.2.2.2.2.2.2.2.2.2.2.1,(a.2.2.2.2.2.2.2.2.2.2.2.2.2.2.2.2.2.2.1,(a.2.2.2.2.2.2.2.2.2.2.2.2.2.2.2.2.2.2.2.1,(a.2.2.2.2.2.2.2.2.2.2.2.2.2.2.2.2.2.2.2.2.1,(a.2.2.2.2.2.2.2.2.2.2.2.2.2.2.2.2.2.2.2.2.2.1,())))))))),((a.2.2.2.2.2.2.2.2.2.2.2.2.2.2.2.2.2.2.2.2.2.2.1,(a.2.2.2.2.2.2.2.2.2.2.2.2.2.2.2.2.2.2.2.2.2.2.2.1,(a.2.2.2.2.2.2.2.2.2.2.2.2.2.2.2.2.2.2.2.2.2.2.2.2.1,(a.2.2.2.2.2.2.2.2.2.2.2.2.2.2.2.2.2.2.2.2.2.2.2.2.2.1,(a.2.2.2.2.2.2.2.2.2.2.2.2.2.2.2.2.2.2.2.2.2.2.2.2.2.2.1,(a.2.2.2.2.2.2.2.2.2.2.2.2.2.2.2.2.2.2.2.2.2.2.2.2.2.2.2.1,(a.2.2.2.2.2.2.2.2.2.2.2.2.2.2.2.2.2.2.2.2.2.2.2.2.2.2.2.2.1,(a.2.2.2.2.2.2.2.2.2.2.2.2.2.2.2.2.2.2.2.2.2.2.2.2.2.2.2.2.2.1,())))))))),(a.2.2.2.2.2.2.2.2.2.2.2.2.2.2.2.2.2.2.2.2.2.2.2.2.2.2.2.2.2.2.1,(a.2.2.2.2.2.2.2.2.2.2.2.2.2.2.2.2.2.2.2.2.2.2.2.2.2.2.2.2.2.2.2.1,(a.2.2.2.2.2.2.2.2.2.2.2.2.2.2.2.2.2.2.2.2.2.2.2.2.2.2.2.2.2.2.2.2.1,(a.2.2.2.2.2.2.2.2.2.2.2.2.2.2.2.2.2.2.2.2.2.2.2.2.2.2.2.2.2.2.2.2.2.1,(a.2.2.2.2.2.2.2.2.2.2.2.2.2.2.2.2.2.2.2.2.2.2.2.2.2.2.2.2.2.2.2.2.2.2.1,(a.2.2.2.2.2.2.2.2.2.2.2.2.2.2.2.2.2.2.2.2.2.2.2.2.2.2.2.2.2.2.2.2.2.2.2,())))))))))) (K (.exit 2))) (fun _=>none) (fun _=>none)
def Db (n:Nat) {R:Type} (a2 b2 d2:BA) (i2:Int) (p19:Bool) (p20:(Sq Int)) (p21:U8) (x24:Bool) (x25:(Sq Int)) (x26:BA) (x27:Bool) (x28 x29:BA) (x30:Bool) (x31:BA) (y24:Bool) (y25:(Sq Int)) (y26:BA) (y27:Bool) (y28 y29:BA) (y30:Bool) (y31:BA) (w24:Bool) (w25:(Sq Int)) (w26:BA) (w27:Bool) (w28 w29:BA) (w30:Bool) (w31:BA) (r43 r53 r63 r73 r83 r93:(Sq BA)) (kn:BA→BA→BA→Int→Bool→(Sq Int)→U8→Bool→(Sq Int)→BA→Bool→BA→BA→Bool→BA→Bool→(Sq Int)→BA→Bool→BA→BA→Bool→BA→Bool→(Sq Int)→BA→Bool→BA→BA→Bool→BA→(Sq BA)→(Sq BA)→(Sq BA)→(Sq BA)→(Sq BA)→(Sq BA)→Option R) (ko:U7→Option R) (kr:Unit→Option R) (kp:Int→Option R):Option R:=
 if (decide (i2<(p21.n:Int)))=true then
 if (decide (i2<(20:Int)))=true then
  if 0≤i2∧i2<(p21.n:Int) then
  (Hb n ((p21.at' (Int.toNat i2))) w24 w25 w26 w27 w28 w29 w30 w31 r83 r93).bind fun v6=>
  if Ca d2 v6.1=true then
   kn a2 b2 (d2++v6.1) (IntKind.wrap .i64 (i2+(1:Int))) p19 p20 p21 x24 x25 x26 x27 x28 x29 x30 x31 y24 y25 y26 y27 y28 y29 y30 y31 v6.2.1 v6.2.2.1 v6.2.2.2.1 v6.2.2.2.2.1 v6.2.2.2.2.2.1 v6.2.2.2.2.2.2.1 v6.2.2.2.2.2.2.2.1 v6.2.2.2.2.2.2.2.2.1 r43 r53 r63 r73 v6.2.2.2.2.2.2.2.2.2.1 v6.2.2.2.2.2.2.2.2.2.2.1
  else
   none
  else
  none
 else
  ko (a2,b2,d2,x24,x25,x26,x27,x28,x29,x30,x31,y24,y25,y26,y27,y28,y29,y30,y31,w24,w25,w26,w27,w28,w29,w30,w31,r43,r53,r63,r73,r83,r93)
 else
 ko (a2,b2,d2,x24,x25,x26,x27,x28,x29,x30,x31,y24,y25,y26,y27,y28,y29,y30,y31,w24,w25,w26,w27,w28,w29,w30,w31,r43,r53,r63,r73,r83,r93)
def Ha (n:Nat):Nat→BA→BA→BA→Int→Bool→(Sq Int)→U8→Bool→(Sq Int)→BA→Bool→BA→BA→Bool→BA→Bool→(Sq Int)→BA→Bool→BA→BA→Bool→BA→Bool→(Sq Int)→BA→Bool→BA→BA→Bool→BA→(Sq BA)→(Sq BA)→(Sq BA)→(Sq BA)→(Sq BA)→(Sq BA)→Option (Lx U7 Unit)
 | 0,_,_,_,_,_,_,_,_,_,_,_,_,_,_,_,_,_,_,_,_,_,_,_,_,_,_,_,_,_,_,_,_,_,_,_,_,_=>none
 | m+1,a2,b2,d2,i2,p19,p20,p21,x24,x25,x26,x27,x28,x29,x30,x31,y24,y25,y26,y27,y28,y29,y30,y31,w24,w25,w26,w27,w28,w29,w30,w31,r43,r53,r63,r73,r83,r93=>Db n a2 b2 d2 i2 p19 p20 p21 x24 x25 x26 x27 x28 x29 x30 x31 y24 y25 y26 y27 y28 y29 y30 y31 w24 w25 w26 w27 w28 w29 w30 w31 r43 r53 r63 r73 r83 r93 (Ha n m) (fun a=>some (.out a)) (fun a=>some (.ret a)) (fun p=>some (.pan p))
theorem nv (n m:Nat) {S:Type}:∀ a2 b2 d2 i2 p19 p20 p21 x24 x25 x26 x27 x28 x29 x30 x31 y24 y25 y26 y27 y28 y29 y30 y31 w24 w25 w26 w27 w28 w29 w30 w31 r43 r53 r63 r73 r83 r93 (φ:_→Option S),(Ha n (m+1) a2 b2 d2 i2 p19 p20 p21 x24 x25 x26 x27 x28 x29 x30 x31 y24 y25 y26 y27 y28 y29 y30 y31 w24 w25 w26 w27 w28 w29 w30 w31 r43 r53 r63 r73 r83 r93).bind φ=Db n a2 b2 d2 i2 p19 p20 p21 x24 x25 x26 x27 x28 x29 x30 x31 y24 y25 y26 y27 y28 y29 y30 y31 w24 w25 w26 w27 w28 w29 w30 w31 r43 r53 r63 r73 r83 r93 (fun a2 b2 d2 i2 p19 p20 p21 x24 x25 x26 x27 x28 x29 x30 x31 y24 y25 y26 y27 y28 y29 y30 y31 w24 w25 w26 w27 w28 w29 w30 w31 r43 r53 r63 r73 r83 r93=>(Ha n m a2 b2 d2 i2 p19 p20 p21 x24 x25 x26 x27 x28 x29 x30 x31 y24 y25 y26 y27 y28 y29 y30 y31 w24 w25 w26 w27 w28 w29 w30 w31 r43 r53 r63 r73 r83 r93).bind φ) (fun a=>φ (.out a)) (fun a=>φ (.ret a)) (fun p=>φ (.pan p)):=by
 intros;first | (simp only [Ha,Db,fa,ba,iB,bB,oL,oX,nB,Option.bind_some]) | rfl
def Ye:List Sl:=.top::.ptr 0 0 0::.top::.top::.top::.ptr 1 0 0::.ptr 2 0 0::.ptr 3 0 0::.dat .str::.dat .str::.dat .str::.top::.dat (.int .i64)::tp 123 []
def Xe:List RS:=[.box 25 3 true [.dat .bool,.dat (.sl (.int .i64)),.dat (.sl (.sl (.int .u8)))],.box 71 10 false [.dat .bool,.dat (.sl (.int .i64)),.dat .str,.dat .bool,.dat .str,.row 4,.dat .str,.dat .bool,.row 5,.dat .str],.box 71 10 false [.dat .bool,.dat (.sl (.int .i64)),.dat .str,.dat .bool,.dat .str,.row 6,.dat .str,.dat .bool,.row 7,.dat .str],.box 71 10 false [.dat .bool,.dat (.sl (.int .i64)),.dat .str,.dat .bool,.dat .str,.row 8,.dat .str,.dat .bool,.row 9,.dat .str],.row 9 1 .str true true,.row 9 1 .str true true,.row 9 1 .str true true,.row 9 1 .str true true,.row 9 1 .str true true,.row 9 1 .str true true]
def Ho:List Sl:=tp 5 (.ptr 0 0 0::.ptr 1 0 0::.ptr 2 0 0::.dat .str::.dat .str::.dat .str::tp 125 [])
def Fo:List RS:=[.box 71 10 false [.dat .bool,.dat (.sl (.int .i64)),.dat .str,.dat .bool,.dat .str,.row 3,.dat .str,.dat .bool,.row 4,.dat .str],.box 71 10 false [.dat .bool,.dat (.sl (.int .i64)),.dat .str,.dat .bool,.dat .str,.row 5,.dat .str,.dat .bool,.row 6,.dat .str],.box 71 10 false [.dat .bool,.dat (.sl (.int .i64)),.dat .str,.dat .bool,.dat .str,.row 7,.dat .str,.dat .bool,.row 8,.dat .str],.row 9 1 .str true true,.row 9 1 .str true true,.row 9 1 .str true true,.row 9 1 .str true true,.row 9 1 .str true true,.row 9 1 .str true true]
def wb (K:XE→List AV→ia→Option Out):Lx U7 Unit→Option Out:=fun x=>onL x (fun a=>ak Ho Fo (a.1,(a.2.1,(a.2.2.1,()))) ((a.2.2.2.1,(a.2.2.2.2.1,(a.2.2.2.2.2.1,(a.2.2.2.2.2.2.1,(a.2.2.2.2.2.2.2.1,(a.2.2.2.2.2.2.2.2.1,(a.2.2.2.2.2.2.2.2.2.1,(a.2.2.2.2.2.2.2.2.2.2.1,())))))))),((a.2.2.2.2.2.2.2.2.2.2.2.1,(a.2.2.2.2.2.2.2.2.2.2.2.2.1,(a.2.2.2.2.2.2.2.2.2.2.2.2.2.1,(a.2.2.2.2.2.2.2.2.2.2.2.2.2.2.1,(a.2.2.2.2.2.2.2.2.2.2.2.2.2.2.2.1,(a.2.2.2.2.2.2.2.2.2.2.2.2.2.2.2.2.1,(a.2.2.2.2.2.2.2.2.2.2.2.2.2.2.2.2.2.1,(a.2.2.2.2.2.2.2.2.2.2.2.2.2.2.2.2.2.2.1,())))))))),((a.2.2.2.2.2.2.2.2.2.2.2.2.2.2.2.2.2.2.2.1,(a.2.2.2.2.2.2.2.2.2.2.2.2.2.2.2.2.2.2.2.2.1,(a.2.2.2.2.2.2.2.2.2.2.2.2.2.2.2.2.2.2.2.2.2.1,(a.2.2.2.2.2.2.2.2.2.2.2.2.2.2.2.2.2.2.2.2.2.2.1,(a.2.2.2.2.2.2.2.2.2.2.2.2.2.2.2.2.2.2.2.2.2.2.2.1,(a.2.2.2.2.2.2.2.2.2.2.2.2.2.2.2.2.2.2.2.2.2.2.2.2.1,(a.2.2.2.2.2.2.2.2.2.2.2.2.2.2.2.2.2.2.2.2.2.2.2.2.2.1,(a.2.2.2.2.2.2.2.2.2.2.2.2.2.2.2.2.2.2.2.2.2.2.2.2.2.2.1,())))))))),(a.2.2.2.2.2.2.2.2.2.2.2.2.2.2.2.2.2.2.2.2.2.2.2.2.2.2.2.1,(a.2.2.2.2.2.2.2.2.2.2.2.2.2.2.2.2.2.2.2.2.2.2.2.2.2.2.2.2.1,(a.2.2.2.2.2.2.2.2.2.2.2.2.2.2.2.2.2.2.2.2.2.2.2.2.2.2.2.2.2.1,(a.2.2.2.2.2.2.2.2.2.2.2.2.2.2.2.2.2.2.2.2.2.2.2.2.2.2.2.2.2.2.1,(a.2.2.2.2.2.2.2.2.2.2.2.2.2.2.2.2.2.2.2.2.2.2.2.2.2.2.2.2.2.2.2.1,(a.2.2.2.2.2.2.2.2.2.2.2.2.2.2.2.2.2.2.2.2.2.2.2.2.2.2.2.2.2.2.2.2,()))))))))) (K (.exit 4))) (fun _=>none) (fun _=>none)
def Le (n:Nat) {R:Type} (p:U18) (k:Bool→Option R):Option R:=
 if (decide ((p.2.1.n:Int)>(500:Int)))=false then
 (ae n p.2.2.1).bind fun v=>
 if (decide (v>(5000:Int)))=true then
  k true
 else
  (Ga n n (0:Int) p.1 p.2.1 p.2.2.1 (⟨0,fun _=>Ba (.int .u8)⟩:Sq Int)).bind fun x_1=>onL x_1
  (fun a_2=>
   (Yb n a_2.1 a_2.2.1 a_2.2.2.1 a_2.2.2.2).bind fun x_3=>onL x_3
   (fun a_4=>
    (Hb n a_4.1 a_4.2.2.2.2.1 a_4.2.2.2.2.2.1 a_4.2.2.2.2.2.2.1 a_4.2.2.2.2.2.2.2.1 a_4.2.2.2.2.2.2.2.2.1 a_4.2.2.2.2.2.2.2.2.2.1 a_4.2.2.2.2.2.2.2.2.2.2.1 a_4.2.2.2.2.2.2.2.2.2.2.2.1 a_4.2.2.2.2.2.2.2.2.2.2.2.2.2.2.2.2.2.2.2.2.2.2.2.2.2.2.2.2.1 a_4.2.2.2.2.2.2.2.2.2.2.2.2.2.2.2.2.2.2.2.2.2.2.2.2.2.2.2.2.2.1).bind fun v4=>
    (Ka n n a_4.1 v4.1 (⟨#[]⟩:BA) (⟨#[]⟩:BA) (0:Int) a_4.2.1 a_4.2.2.1 a_4.2.2.2.1 v4.2.1 v4.2.2.1 v4.2.2.2.1 v4.2.2.2.2.1 v4.2.2.2.2.2.1 v4.2.2.2.2.2.2.1 v4.2.2.2.2.2.2.2.1 v4.2.2.2.2.2.2.2.2.1 a_4.2.2.2.2.2.2.2.2.2.2.2.2.1 a_4.2.2.2.2.2.2.2.2.2.2.2.2.2.1 a_4.2.2.2.2.2.2.2.2.2.2.2.2.2.2.1 a_4.2.2.2.2.2.2.2.2.2.2.2.2.2.2.2.1 a_4.2.2.2.2.2.2.2.2.2.2.2.2.2.2.2.2.1 a_4.2.2.2.2.2.2.2.2.2.2.2.2.2.2.2.2.2.1 a_4.2.2.2.2.2.2.2.2.2.2.2.2.2.2.2.2.2.2.1 a_4.2.2.2.2.2.2.2.2.2.2.2.2.2.2.2.2.2.2.2.1 a_4.2.2.2.2.2.2.2.2.2.2.2.2.2.2.2.2.2.2.2.2.1 a_4.2.2.2.2.2.2.2.2.2.2.2.2.2.2.2.2.2.2.2.2.2.1 a_4.2.2.2.2.2.2.2.2.2.2.2.2.2.2.2.2.2.2.2.2.2.2.1 a_4.2.2.2.2.2.2.2.2.2.2.2.2.2.2.2.2.2.2.2.2.2.2.2.1 a_4.2.2.2.2.2.2.2.2.2.2.2.2.2.2.2.2.2.2.2.2.2.2.2.2.1 a_4.2.2.2.2.2.2.2.2.2.2.2.2.2.2.2.2.2.2.2.2.2.2.2.2.2.1 a_4.2.2.2.2.2.2.2.2.2.2.2.2.2.2.2.2.2.2.2.2.2.2.2.2.2.2.1 a_4.2.2.2.2.2.2.2.2.2.2.2.2.2.2.2.2.2.2.2.2.2.2.2.2.2.2.2.1 v4.2.2.2.2.2.2.2.2.2.1 v4.2.2.2.2.2.2.2.2.2.2.1 a_4.2.2.2.2.2.2.2.2.2.2.2.2.2.2.2.2.2.2.2.2.2.2.2.2.2.2.2.2.2.2.1 a_4.2.2.2.2.2.2.2.2.2.2.2.2.2.2.2.2.2.2.2.2.2.2.2.2.2.2.2.2.2.2.2.1 a_4.2.2.2.2.2.2.2.2.2.2.2.2.2.2.2.2.2.2.2.2.2.2.2.2.2.2.2.2.2.2.2.2.1 a_4.2.2.2.2.2.2.2.2.2.2.2.2.2.2.2.2.2.2.2.2.2.2.2.2.2.2.2.2.2.2.2.2.2).bind fun x_5=>onL x_5
    (fun a_6=>
     (Ha n n a_6.1 a_6.2.1 a_6.2.2.1 (0:Int) a_6.2.2.2.1 a_6.2.2.2.2.1 a_6.2.2.2.2.2.1 a_6.2.2.2.2.2.2.1 a_6.2.2.2.2.2.2.2.1 a_6.2.2.2.2.2.2.2.2.1 a_6.2.2.2.2.2.2.2.2.2.1 a_6.2.2.2.2.2.2.2.2.2.2.1 a_6.2.2.2.2.2.2.2.2.2.2.2.1 a_6.2.2.2.2.2.2.2.2.2.2.2.2.1 a_6.2.2.2.2.2.2.2.2.2.2.2.2.2.1 a_6.2.2.2.2.2.2.2.2.2.2.2.2.2.2.1 a_6.2.2.2.2.2.2.2.2.2.2.2.2.2.2.2.1 a_6.2.2.2.2.2.2.2.2.2.2.2.2.2.2.2.2.1 a_6.2.2.2.2.2.2.2.2.2.2.2.2.2.2.2.2.2.1 a_6.2.2.2.2.2.2.2.2.2.2.2.2.2.2.2.2.2.2.1 a_6.2.2.2.2.2.2.2.2.2.2.2.2.2.2.2.2.2.2.2.1 a_6.2.2.2.2.2.2.2.2.2.2.2.2.2.2.2.2.2.2.2.2.1 a_6.2.2.2.2.2.2.2.2.2.2.2.2.2.2.2.2.2.2.2.2.2.1 a_6.2.2.2.2.2.2.2.2.2.2.2.2.2.2.2.2.2.2.2.2.2.2.1 a_6.2.2.2.2.2.2.2.2.2.2.2.2.2.2.2.2.2.2.2.2.2.2.2.1 a_6.2.2.2.2.2.2.2.2.2.2.2.2.2.2.2.2.2.2.2.2.2.2.2.2.1 a_6.2.2.2.2.2.2.2.2.2.2.2.2.2.2.2.2.2.2.2.2.2.2.2.2.2.1 a_6.2.2.2.2.2.2.2.2.2.2.2.2.2.2.2.2.2.2.2.2.2.2.2.2.2.2.1 a_6.2.2.2.2.2.2.2.2.2.2.2.2.2.2.2.2.2.2.2.2.2.2.2.2.2.2.2.1 a_6.2.2.2.2.2.2.2.2.2.2.2.2.2.2.2.2.2.2.2.2.2.2.2.2.2.2.2.2.1 a_6.2.2.2.2.2.2.2.2.2.2.2.2.2.2.2.2.2.2.2.2.2.2.2.2.2.2.2.2.2.1 a_6.2.2.2.2.2.2.2.2.2.2.2.2.2.2.2.2.2.2.2.2.2.2.2.2.2.2.2.2.2.2.1 a_6.2.2.2.2.2.2.2.2.2.2.2.2.2.2.2.2.2.2.2.2.2.2.2.2.2.2.2.2.2.2.2.1 a_6.2.2.2.2.2.2.2.2.2.2.2.2.2.2.2.2.2.2.2.2.2.2.2.2.2.2.2.2.2.2.2.2.1 a_6.2.2.2.2.2.2.2.2.2.2.2.2.2.2.2.2.2.2.2.2.2.2.2.2.2.2.2.2.2.2.2.2.2.1 a_6.2.2.2.2.2.2.2.2.2.2.2.2.2.2.2.2.2.2.2.2.2.2.2.2.2.2.2.2.2.2.2.2.2.2.1 a_6.2.2.2.2.2.2.2.2.2.2.2.2.2.2.2.2.2.2.2.2.2.2.2.2.2.2.2.2.2.2.2.2.2.2.2).bind fun x_7=>onL x_7
     (fun a_8=>
      if (a_8.1.toList==a_8.2.1.toList)=true then
      if (a_8.1.toList==a_8.2.2.1.toList)=true then
       (ab n a_8.2.2.2.1 a_8.2.2.2.2.1 a_8.2.2.2.2.2.1 a_8.2.2.2.2.2.2.1 a_8.2.2.2.2.2.2.2.1 a_8.2.2.2.2.2.2.2.2.1 a_8.2.2.2.2.2.2.2.2.2.1 a_8.2.2.2.2.2.2.2.2.2.2.1 a_8.2.2.2.2.2.2.2.2.2.2.2.2.2.2.2.2.2.2.2.2.2.2.2.2.2.2.2.1 a_8.2.2.2.2.2.2.2.2.2.2.2.2.2.2.2.2.2.2.2.2.2.2.2.2.2.2.2.2.1).bind fun v7=>
       (ab n a_8.2.2.2.2.2.2.2.2.2.2.2.1 a_8.2.2.2.2.2.2.2.2.2.2.2.2.1 a_8.2.2.2.2.2.2.2.2.2.2.2.2.2.1 a_8.2.2.2.2.2.2.2.2.2.2.2.2.2.2.1 a_8.2.2.2.2.2.2.2.2.2.2.2.2.2.2.2.1 a_8.2.2.2.2.2.2.2.2.2.2.2.2.2.2.2.2.1 a_8.2.2.2.2.2.2.2.2.2.2.2.2.2.2.2.2.2.1 a_8.2.2.2.2.2.2.2.2.2.2.2.2.2.2.2.2.2.2.1 a_8.2.2.2.2.2.2.2.2.2.2.2.2.2.2.2.2.2.2.2.2.2.2.2.2.2.2.2.2.2.1 a_8.2.2.2.2.2.2.2.2.2.2.2.2.2.2.2.2.2.2.2.2.2.2.2.2.2.2.2.2.2.2.1).bind fun v8=>
       (Ef n v7.2.2.2.2.2.2.2.2.1 v8.2.2.2.2.2.2.2.2.1).bind fun v9=>
       if v9=true then
       (ab n v7.1 v7.2.1 v7.2.2.1 v7.2.2.2.1 v7.2.2.2.2.1 v7.2.2.2.2.2.1 v7.2.2.2.2.2.2.1 v7.2.2.2.2.2.2.2.1 v7.2.2.2.2.2.2.2.2.2.1 v7.2.2.2.2.2.2.2.2.2.2.1).bind fun v10=>
       (ab n a_8.2.2.2.2.2.2.2.2.2.2.2.2.2.2.2.2.2.2.2.1 a_8.2.2.2.2.2.2.2.2.2.2.2.2.2.2.2.2.2.2.2.2.1 a_8.2.2.2.2.2.2.2.2.2.2.2.2.2.2.2.2.2.2.2.2.2.1 a_8.2.2.2.2.2.2.2.2.2.2.2.2.2.2.2.2.2.2.2.2.2.2.1 a_8.2.2.2.2.2.2.2.2.2.2.2.2.2.2.2.2.2.2.2.2.2.2.2.1 a_8.2.2.2.2.2.2.2.2.2.2.2.2.2.2.2.2.2.2.2.2.2.2.2.2.1 a_8.2.2.2.2.2.2.2.2.2.2.2.2.2.2.2.2.2.2.2.2.2.2.2.2.2.1 a_8.2.2.2.2.2.2.2.2.2.2.2.2.2.2.2.2.2.2.2.2.2.2.2.2.2.2.1 a_8.2.2.2.2.2.2.2.2.2.2.2.2.2.2.2.2.2.2.2.2.2.2.2.2.2.2.2.2.2.2.2.1 a_8.2.2.2.2.2.2.2.2.2.2.2.2.2.2.2.2.2.2.2.2.2.2.2.2.2.2.2.2.2.2.2.2).bind fun v11=>
       (Ef n v10.2.2.2.2.2.2.2.2.1 v11.2.2.2.2.2.2.2.2.1).bind fun v12=>
       if v12=true then
        (ab n v10.1 v10.2.1 v10.2.2.1 v10.2.2.2.1 v10.2.2.2.2.1 v10.2.2.2.2.2.1 v10.2.2.2.2.2.2.1 v10.2.2.2.2.2.2.2.1 v10.2.2.2.2.2.2.2.2.2.1 v10.2.2.2.2.2.2.2.2.2.2.1).bind fun v13=>
        if ((Int.tmod (v13.2.2.2.2.2.2.2.2.1.n:Int) (3:Int))==(0:Int))=true then
        (Gb n).bind fun v14=>
        k v14
        else
        k false
       else
        k false
       else
       k false
      else
       k false
      else
      k false)
     (fun _=>none)
     (fun _=>none))
    (fun _=>none)
    (fun _=>none))
   (fun _=>none)
   (fun _=>none))
  (fun _=>none)
  (fun _=>none)
 else
 k true
def pouchlaw27_PeerParts (n:Nat) (p:U18):Option Bool:=Le n p some
theorem qz (n:Nat) {S:Type}:∀ p (φ:_→Option S),(pouchlaw27_PeerParts n p).bind φ=Le n p φ:=by
 intros;unfold pouchlaw27_PeerParts Le;first | (simp only [fa,ba,iB,bB,oL,oX,nB,Option.bind_some]) | rfl
def Ra (n:Nat):Hint Out:={ live:=fun c=>(cond (Nat.beq c 4) (lv [1,5,6,7,8,9,10,12]) (cond (Nat.beq c 2) [(1,none),(3,some (.sl (.int .u8))),(5,none),(6,none),(7,none),(8,none),(9,none),(10,none),(11,none)] (cond (Nat.beq c 0) [(1,none),(3,some (.sl (.int .u8))),(4,none)] []))),run:=fun c=>(cond (Nat.beq c 4) (some (aq Ye Xe fun σ ρ K=>(Ha n n σ.1 σ.2.1 σ.2.2.1 σ.2.2.2.1 ρ.1.1 ρ.1.2.1 ρ.1.2.2.1 ρ.2.1.1 ρ.2.1.2.1 ρ.2.1.2.2.1 ρ.2.1.2.2.2.1 ρ.2.1.2.2.2.2.1 ρ.2.1.2.2.2.2.2.1 ρ.2.1.2.2.2.2.2.2.1 ρ.2.1.2.2.2.2.2.2.2.1 ρ.2.2.1.1 ρ.2.2.1.2.1 ρ.2.2.1.2.2.1 ρ.2.2.1.2.2.2.1 ρ.2.2.1.2.2.2.2.1 ρ.2.2.1.2.2.2.2.2.1 ρ.2.2.1.2.2.2.2.2.2.1 ρ.2.2.1.2.2.2.2.2.2.2.1 ρ.2.2.2.1.1 ρ.2.2.2.1.2.1 ρ.2.2.2.1.2.2.1 ρ.2.2.2.1.2.2.2.1 ρ.2.2.2.1.2.2.2.2.1 ρ.2.2.2.1.2.2.2.2.2.1 ρ.2.2.2.1.2.2.2.2.2.2.1 ρ.2.2.2.1.2.2.2.2.2.2.2.1 ρ.2.2.2.2.1 ρ.2.2.2.2.2.1 ρ.2.2.2.2.2.2.1 ρ.2.2.2.2.2.2.2.1 ρ.2.2.2.2.2.2.2.2.1 ρ.2.2.2.2.2.2.2.2.2.1).bind (wb K))) (cond (Nat.beq c 2) (some (aq We Ve fun σ ρ K=>(Ka n n σ.1 σ.2.1 σ.2.2.1 σ.2.2.2.1 σ.2.2.2.2.1 ρ.1.1 ρ.1.2.1 ρ.1.2.2.1 ρ.2.1.1 ρ.2.1.2.1 ρ.2.1.2.2.1 ρ.2.1.2.2.2.1 ρ.2.1.2.2.2.2.1 ρ.2.1.2.2.2.2.2.1 ρ.2.1.2.2.2.2.2.2.1 ρ.2.1.2.2.2.2.2.2.2.1 ρ.2.2.1.1 ρ.2.2.1.2.1 ρ.2.2.1.2.2.1 ρ.2.2.1.2.2.2.1 ρ.2.2.1.2.2.2.2.1 ρ.2.2.1.2.2.2.2.2.1 ρ.2.2.1.2.2.2.2.2.2.1 ρ.2.2.1.2.2.2.2.2.2.2.1 ρ.2.2.2.1.1 ρ.2.2.2.1.2.1 ρ.2.2.2.1.2.2.1 ρ.2.2.2.1.2.2.2.1 ρ.2.2.2.1.2.2.2.2.1 ρ.2.2.2.1.2.2.2.2.2.1 ρ.2.2.2.1.2.2.2.2.2.2.1 ρ.2.2.2.1.2.2.2.2.2.2.2.1 ρ.2.2.2.2.1 ρ.2.2.2.2.2.1 ρ.2.2.2.2.2.2.1 ρ.2.2.2.2.2.2.2.1 ρ.2.2.2.2.2.2.2.2.1 ρ.2.2.2.2.2.2.2.2.2.1).bind (ub K))) (cond (Nat.beq c 0) (some (aq Ue Te fun σ ρ K=>(Ga n n σ.1 ρ.1.1 ρ.1.2.1 ρ.1.2.2.1 ρ.2.1).bind (tb K))) none))),xm:=fun c q=>(cond (Nat.beq c 4&&Nat.beq (q.getD 1000000) 4&&q.isSome) (some (lv [5,6,7,8,9,10])) (cond (Nat.beq c 2&&Nat.beq (q.getD 1000000) 2&&q.isSome) (some (lv [1,5,6,7,8,9,10])) (cond (Nat.beq c 0&&Nat.beq (q.getD 1000000) 0&&q.isSome) (some [(1,none),(3,some (.sl (.int .u8)))]) (cond (Nat.beq c 0&&q.isNone) (some [(2,none)]) none)))),jn:=fun c=>(cond (Nat.beq c 10) (some (aq Ii Hi fun σ ρ K=>(Yb n σ.1 ρ.1.1 ρ.1.2.1 ρ.1.2.2.1).bind (Cj K))) none),jl:=fun c=>(cond (Nat.beq c 10) [(1,none),(3,some (.sl (.int .u8)))] []),jo:=fun c=>(cond (Nat.beq c 10) [(1,none),(3,some (.sl (.int .u8))),(5,none),(6,none),(7,none)] []),sch:=fun c=>(cond (Nat.beq c 8) (some [(0,0),(2,0),(5,0),(7,0),(10,0),(12,0),(1,1),(3,1),(6,1),(8,1),(11,1),(13,1),(4,3),(9,3),(14,3),(15,0),(16,0),(17,0)]) none),fe:=fun _ q=>(cond (Nat.beq (q.getD 1000000) 0&&q.isSome) [3] []) }
def ud (n:Nat) (K:XE→List AV→ia→Option Out) (m:Nat) (i:Int) (p1:Bool) (p2:(Sq Int)) (p3:U8) (all:(Sq Int)):Option Out:=Pe tys (da Out (Wa n)) (Ra n) n (Da [1,1,1,0,1,0,0] (aa Tryz.f5)) 0 Ue Te K m (i,()) ((p1,(p2,(p3,()))),(all,()))
theorem Dj (n:Nat) (K:XE→List AV→ia→Option Out):∀ (m:Nat) i p1 p2 p3 all,ud n K m i p1 p2 p3 all=(Ga n m i p1 p2 p3 all).bind (tb K)
 | 0,_,_,_,_,_=>by kernel_rfl
 | m+1,i,p1,p2,p3,all=>by
  have h1:ud n K (m+1) i p1 p2 p3 all=Cb n i p1 p2 p3 all (ud n K m) (fun a=>tb K (.out a)) (fun a=>tb K (.ret a)) (fun p=>tb K (.pan p)):=by kernel_rfl
  have h2:ud n K m=fun i p1 p2 p3 all=>(Ga n m i p1 p2 p3 all).bind (tb K):=by
   repeat (refine funext fun _=>?_)
   exact Dj n K m _ _ _ _ _
  rw [h1,h2];exact (jv n m _ _ _ _ _ (tb K)).symm
theorem Et (n:Nat):ie tys (da Out (Wa n)) (Ra n) n (Da [1,1,1,0,1,0,0] (aa Tryz.f5)) 0:=Oa (sp:=Ue) (rp:=Te) (by kernel_rfl) fun K σ ρ=>Dj n K n σ.1 ρ.1.1 ρ.1.2.1 ρ.1.2.2.1 ρ.2.1
theorem Dt (n:Nat):Bab tys (da Out (Wa n)) (Ra n) n (Da [1,1,1,1,0] (aa Tryz.f5)) 0 10:=G7 (sp:=Ii) (rp:=Hi) (by kernel_rfl) fun K σ ρ=>Eq.trans (by kernel_rfl) (Xr n σ.1 ρ.1.1 ρ.1.2.1 ρ.1.2.2.1 (Cj K)).symm
def vd (n:Nat) (K:XE→List AV→ia→Option Out) (m:Nat) (all4:(Sq Int)) (a:BA) (b:BA) (d:BA) (i1:Int) (p13:Bool) (p14:(Sq Int)) (p15:U8) (x8:Bool) (x9:(Sq Int)) (x10:BA) (x11:Bool) (x12:BA) (x13:BA) (x14:Bool) (x15:BA) (y8:Bool) (y9:(Sq Int)) (y10:BA) (y11:Bool) (y12:BA) (y13:BA) (y14:Bool) (y15:BA) (w8:Bool) (w9:(Sq Int)) (w10:BA) (w11:Bool) (w12:BA) (w13:BA) (w14:Bool) (w15:BA) (r41:(Sq BA)) (r51:(Sq BA)) (r61:(Sq BA)) (r71:(Sq BA)) (r81:(Sq BA)) (r91:(Sq BA)):Option Out:=Pe tys (da Out (Wa n)) (Ra n) n (Da [1,1,1,1,1,1,1,0,1,0,0] (aa Tryz.f5)) 2 We Ve K m (all4,(a,(b,(d,(i1,()))))) ((p13,(p14,(p15,()))),((x8,(x9,(x10,(x11,(x12,(x13,(x14,(x15,())))))))),((y8,(y9,(y10,(y11,(y12,(y13,(y14,(y15,())))))))),((w8,(w9,(w10,(w11,(w12,(w13,(w14,(w15,())))))))),(r41,(r51,(r61,(r71,(r81,(r91,()))))))))))
theorem Ej (n:Nat) (K:XE→List AV→ia→Option Out):∀ (m:Nat) all4 a b d i1 p13 p14 p15 x8 x9 x10 x11 x12 x13 x14 x15 y8 y9 y10 y11 y12 y13 y14 y15 w8 w9 w10 w11 w12 w13 w14 w15 r41 r51 r61 r71 r81 r91,vd n K m all4 a b d i1 p13 p14 p15 x8 x9 x10 x11 x12 x13 x14 x15 y8 y9 y10 y11 y12 y13 y14 y15 w8 w9 w10 w11 w12 w13 w14 w15 r41 r51 r61 r71 r81 r91=(Ka n m all4 a b d i1 p13 p14 p15 x8 x9 x10 x11 x12 x13 x14 x15 y8 y9 y10 y11 y12 y13 y14 y15 w8 w9 w10 w11 w12 w13 w14 w15 r41 r51 r61 r71 r81 r91).bind (ub K)
 | 0,_,_,_,_,_,_,_,_,_,_,_,_,_,_,_,_,_,_,_,_,_,_,_,_,_,_,_,_,_,_,_,_,_,_,_,_,_,_=>by kernel_rfl
 | m+1,all4,a,b,d,i1,p13,p14,p15,x8,x9,x10,x11,x12,x13,x14,x15,y8,y9,y10,y11,y12,y13,y14,y15,w8,w9,w10,w11,w12,w13,w14,w15,r41,r51,r61,r71,r81,r91=>by
  have h1:vd n K (m+1) all4 a b d i1 p13 p14 p15 x8 x9 x10 x11 x12 x13 x14 x15 y8 y9 y10 y11 y12 y13 y14 y15 w8 w9 w10 w11 w12 w13 w14 w15 r41 r51 r61 r71 r81 r91=Xb n all4 a b d i1 p13 p14 p15 x8 x9 x10 x11 x12 x13 x14 x15 y8 y9 y10 y11 y12 y13 y14 y15 w8 w9 w10 w11 w12 w13 w14 w15 r41 r51 r61 r71 r81 r91 (vd n K m) (fun a=>ub K (.out a)) (fun a=>ub K (.ret a)) (fun p=>ub K (.pan p)):=by kernel_rfl
  have h2:vd n K m=fun all4 a b d i1 p13 p14 p15 x8 x9 x10 x11 x12 x13 x14 x15 y8 y9 y10 y11 y12 y13 y14 y15 w8 w9 w10 w11 w12 w13 w14 w15 r41 r51 r61 r71 r81 r91=>(Ka n m all4 a b d i1 p13 p14 p15 x8 x9 x10 x11 x12 x13 x14 x15 y8 y9 y10 y11 y12 y13 y14 y15 w8 w9 w10 w11 w12 w13 w14 w15 r41 r51 r61 r71 r81 r91).bind (ub K):=by
   repeat (refine funext fun _=>?_)
   exact Ej n K m _ _ _ _ _ _ _ _ _ _ _ _ _ _ _ _ _ _ _ _ _ _ _ _ _ _ _ _ _ _ _ _ _ _ _ _ _ _
  rw [h1,h2];exact (mv n m _ _ _ _ _ _ _ _ _ _ _ _ _ _ _ _ _ _ _ _ _ _ _ _ _ _ _ _ _ _ _ _ _ _ _ _ _ _ (ub K)).symm
theorem Ft (n:Nat):ie tys (da Out (Wa n)) (Ra n) n (Da [1,1,1,1,1,1,1,0,1,0,0] (aa Tryz.f5)) 2:=Oa (sp:=We) (rp:=Ve) (by kernel_rfl) fun K σ ρ=>Ej n K n σ.1 σ.2.1 σ.2.2.1 σ.2.2.2.1 σ.2.2.2.2.1 ρ.1.1 ρ.1.2.1 ρ.1.2.2.1 ρ.2.1.1 ρ.2.1.2.1 ρ.2.1.2.2.1 ρ.2.1.2.2.2.1 ρ.2.1.2.2.2.2.1 ρ.2.1.2.2.2.2.2.1 ρ.2.1.2.2.2.2.2.2.1 ρ.2.1.2.2.2.2.2.2.2.1 ρ.2.2.1.1 ρ.2.2.1.2.1 ρ.2.2.1.2.2.1 ρ.2.2.1.2.2.2.1 ρ.2.2.1.2.2.2.2.1 ρ.2.2.1.2.2.2.2.2.1 ρ.2.2.1.2.2.2.2.2.2.1 ρ.2.2.1.2.2.2.2.2.2.2.1 ρ.2.2.2.1.1 ρ.2.2.2.1.2.1 ρ.2.2.2.1.2.2.1 ρ.2.2.2.1.2.2.2.1 ρ.2.2.2.1.2.2.2.2.1 ρ.2.2.2.1.2.2.2.2.2.1 ρ.2.2.2.1.2.2.2.2.2.2.1 ρ.2.2.2.1.2.2.2.2.2.2.2.1 ρ.2.2.2.2.1 ρ.2.2.2.2.2.1 ρ.2.2.2.2.2.2.1 ρ.2.2.2.2.2.2.2.1 ρ.2.2.2.2.2.2.2.2.1 ρ.2.2.2.2.2.2.2.2.2.1
def wd (n:Nat) (K:XE→List AV→ia→Option Out) (m:Nat) (a2:BA) (b2:BA) (d2:BA) (i2:Int) (p19:Bool) (p20:(Sq Int)) (p21:U8) (x24:Bool) (x25:(Sq Int)) (x26:BA) (x27:Bool) (x28:BA) (x29:BA) (x30:Bool) (x31:BA) (y24:Bool) (y25:(Sq Int)) (y26:BA) (y27:Bool) (y28:BA) (y29:BA) (y30:Bool) (y31:BA) (w24:Bool) (w25:(Sq Int)) (w26:BA) (w27:Bool) (w28:BA) (w29:BA) (w30:Bool) (w31:BA) (r43:(Sq BA)) (r53:(Sq BA)) (r63:(Sq BA)) (r73:(Sq BA)) (r83:(Sq BA)) (r93:(Sq BA)):Option Out:=Pe tys (da Out (Wa n)) (Ra n) n (Da [1,1,1,1,1,1,1,1,0,1,0,0] (aa Tryz.f5)) 4 Ye Xe K m (a2,(b2,(d2,(i2,())))) ((p19,(p20,(p21,()))),((x24,(x25,(x26,(x27,(x28,(x29,(x30,(x31,())))))))),((y24,(y25,(y26,(y27,(y28,(y29,(y30,(y31,())))))))),((w24,(w25,(w26,(w27,(w28,(w29,(w30,(w31,())))))))),(r43,(r53,(r63,(r73,(r83,(r93,()))))))))))
theorem Fj (n:Nat) (K:XE→List AV→ia→Option Out):∀ (m:Nat) a2 b2 d2 i2 p19 p20 p21 x24 x25 x26 x27 x28 x29 x30 x31 y24 y25 y26 y27 y28 y29 y30 y31 w24 w25 w26 w27 w28 w29 w30 w31 r43 r53 r63 r73 r83 r93,wd n K m a2 b2 d2 i2 p19 p20 p21 x24 x25 x26 x27 x28 x29 x30 x31 y24 y25 y26 y27 y28 y29 y30 y31 w24 w25 w26 w27 w28 w29 w30 w31 r43 r53 r63 r73 r83 r93=(Ha n m a2 b2 d2 i2 p19 p20 p21 x24 x25 x26 x27 x28 x29 x30 x31 y24 y25 y26 y27 y28 y29 y30 y31 w24 w25 w26 w27 w28 w29 w30 w31 r43 r53 r63 r73 r83 r93).bind (wb K)
 | 0,_,_,_,_,_,_,_,_,_,_,_,_,_,_,_,_,_,_,_,_,_,_,_,_,_,_,_,_,_,_,_,_,_,_,_,_,_=>by kernel_rfl
 | m+1,a2,b2,d2,i2,p19,p20,p21,x24,x25,x26,x27,x28,x29,x30,x31,y24,y25,y26,y27,y28,y29,y30,y31,w24,w25,w26,w27,w28,w29,w30,w31,r43,r53,r63,r73,r83,r93=>by
  have h1:wd n K (m+1) a2 b2 d2 i2 p19 p20 p21 x24 x25 x26 x27 x28 x29 x30 x31 y24 y25 y26 y27 y28 y29 y30 y31 w24 w25 w26 w27 w28 w29 w30 w31 r43 r53 r63 r73 r83 r93=Db n a2 b2 d2 i2 p19 p20 p21 x24 x25 x26 x27 x28 x29 x30 x31 y24 y25 y26 y27 y28 y29 y30 y31 w24 w25 w26 w27 w28 w29 w30 w31 r43 r53 r63 r73 r83 r93 (wd n K m) (fun a=>wb K (.out a)) (fun a=>wb K (.ret a)) (fun p=>wb K (.pan p)):=by kernel_rfl
  have h2:wd n K m=fun a2 b2 d2 i2 p19 p20 p21 x24 x25 x26 x27 x28 x29 x30 x31 y24 y25 y26 y27 y28 y29 y30 y31 w24 w25 w26 w27 w28 w29 w30 w31 r43 r53 r63 r73 r83 r93=>(Ha n m a2 b2 d2 i2 p19 p20 p21 x24 x25 x26 x27 x28 x29 x30 x31 y24 y25 y26 y27 y28 y29 y30 y31 w24 w25 w26 w27 w28 w29 w30 w31 r43 r53 r63 r73 r83 r93).bind (wb K):=by
   repeat (refine funext fun _=>?_)
   exact Fj n K m _ _ _ _ _ _ _ _ _ _ _ _ _ _ _ _ _ _ _ _ _ _ _ _ _ _ _ _ _ _ _ _ _ _ _ _ _
  rw [h1,h2];exact (nv n m _ _ _ _ _ _ _ _ _ _ _ _ _ _ _ _ _ _ _ _ _ _ _ _ _ _ _ _ _ _ _ _ _ _ _ _ _ (wb K)).symm
theorem Gt (n:Nat):ie tys (da Out (Wa n)) (Ra n) n (Da [1,1,1,1,1,1,1,1,0,1,0,0] (aa Tryz.f5)) 4:=Oa (sp:=Ye) (rp:=Xe) (by kernel_rfl) fun K σ ρ=>Fj n K n σ.1 σ.2.1 σ.2.2.1 σ.2.2.2.1 ρ.1.1 ρ.1.2.1 ρ.1.2.2.1 ρ.2.1.1 ρ.2.1.2.1 ρ.2.1.2.2.1 ρ.2.1.2.2.2.1 ρ.2.1.2.2.2.2.1 ρ.2.1.2.2.2.2.2.1 ρ.2.1.2.2.2.2.2.2.1 ρ.2.1.2.2.2.2.2.2.2.1 ρ.2.2.1.1 ρ.2.2.1.2.1 ρ.2.2.1.2.2.1 ρ.2.2.1.2.2.2.1 ρ.2.2.1.2.2.2.2.1 ρ.2.2.1.2.2.2.2.2.1 ρ.2.2.1.2.2.2.2.2.2.1 ρ.2.2.1.2.2.2.2.2.2.2.1 ρ.2.2.2.1.1 ρ.2.2.2.1.2.1 ρ.2.2.2.1.2.2.1 ρ.2.2.2.1.2.2.2.1 ρ.2.2.2.1.2.2.2.2.1 ρ.2.2.2.1.2.2.2.2.2.1 ρ.2.2.2.1.2.2.2.2.2.2.1 ρ.2.2.2.1.2.2.2.2.2.2.2.1 ρ.2.2.2.2.1 ρ.2.2.2.2.2.1 ρ.2.2.2.2.2.2.1 ρ.2.2.2.2.2.2.2.1 ρ.2.2.2.2.2.2.2.2.1 ρ.2.2.2.2.2.2.2.2.2.1
theorem ov (n:Nat):ta tys (da Out (Wa n)) (Ra n) n (aa Tryz.f5) 0:=⟨trivial,⟨⟨trivial,⟨⟨trivial,trivial⟩,trivial⟩⟩,⟨trivial,⟨⟨trivial,⟨Et n,⟨⟨trivial,⟨trivial,trivial⟩⟩,⟨trivial,trivial⟩⟩⟩⟩,⟨⟨trivial,⟨⟨trivial,⟨⟨trivial,trivial⟩,trivial⟩⟩,⟨trivial,⟨⟨trivial,⟨Ft n,⟨⟨trivial,⟨trivial,trivial⟩⟩,⟨trivial,trivial⟩⟩⟩⟩,⟨⟨trivial,⟨Gt n,⟨⟨trivial,⟨trivial,trivial⟩⟩,⟨trivial,trivial⟩⟩⟩⟩,⟨trivial,trivial⟩⟩⟩⟩⟩⟩,Dt n⟩⟩⟩⟩⟩
theorem Aw (n:Nat):Enters Tryz.prog 5:=enters_of (c:=aa Tryz.f5) Tryz.func5 (by kernel_rfl) (by kernel_rfl)
def Sx (n:Nat):Entry:=⟨5,pcT K5 (.one .bool) (fun xs=>pouchlaw27_PeerParts n xs.1),none,none⟩
theorem pouchlaw27_PeerParts_ok (n:Nat):EntryOk Tryz.prog gl (Sx n):=
 Qa (Aw n) fun xs y h=>ra tys_ok (Ct n) mixed (hint:=Ra n) (n:=n) Tryz.func5 (Pa (ov n)) (la (φ:=(fun y=>some (Out.ret (Vf (.one .bool) y)))) (by kernel_rfl) (qz n xs.1 _) h)
end
end Go.Proofs.YtddefjokgaajfaaGreatDoor.AM
