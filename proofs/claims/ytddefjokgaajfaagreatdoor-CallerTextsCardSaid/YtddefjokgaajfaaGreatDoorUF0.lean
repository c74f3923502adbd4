/- Typed functions that tell what the Go functions of this seat answer, and proofs of it, by program (gen.py). -/
import Derived.Test.YtddefjokgaajfaaGreatDoorUT
import Derived.Test.YtddefjokgaajfaaGreatDoorUB
import Derived.Test.YtddefjokgaajfaaGreatDoorUL
import Derived.Test.YtddefjokgaajfaaGreatDoorUM
import Derived.Test.YtddefjokgaajfaaGreatDoorUN
set_option linter.all false
set_option linter.unusedVariables false
set_option linter.unusedSimpArgs false
set_option maxRecDepth 1000000
set_option maxHeartbeats 0
namespace Go.Proofs.YtddefjokgaajfaaGreatDoor.AM
open Go Go.RowKit
noncomputable section
abbrev K0:CTy:=(.pair (.int .i64) (.pair (.int .i64) (.pair (.int .i64) (.pair (.pair .str (.pair .bool .unit)) (.pair (.int .i64) (.pair .str (.pair .bool (.pair (.pair .str (.pair .str .unit)) (.pair (.sl (.pair .str (.pair .str .unit))) (.pair (.sl .str) (.pair (.int .i64) (.pair .bool .unit))))))))))))
abbrev K1:CTy:=(.pair K0 .unit)
abbrev K2:CTy:=(.pair (.int .i64) (.pair .str (.pair .bool (.pair (.pair .str (.pair .str .unit)) (.pair (.int .i64) .unit)))))
abbrev K3:CTy:=(.pair (.int .i64) (.pair (.int .i64) (.pair (.int .i64) (.pair (.pair .str (.pair .bool .unit)) (.pair K2 .unit)))))
abbrev K4:CTy:=(.pair K0 (.pair (.sl K3) .unit))
abbrev K5:CTy:=(.pair K4 .unit)
abbrev K6:CTy:=(.pair .str (.pair .str (.pair (.int .i64) (.pair (.int .i64) .unit))))
abbrev K7:CTy:=(.pair (.sl (.pair .str (.pair .str .unit))) (.pair (.pair .str (.pair .str .unit)) .unit))
abbrev K8:CTy:=(.pair (.pair .str (.pair .str .unit)) (.pair .bool (.pair (.int .i64) .unit)))
abbrev K9:CTy:=(.pair (.pair .str (.pair .str .unit)) (.pair .bool (.pair .str .unit)))
abbrev aX:CTy:=(.pair K2 (.pair .bool .unit))
abbrev bX:CTy:=(.pair K2 .unit)
abbrev cX:CTy:=(.pair K2 (.pair (.int .i64) .unit))
abbrev dX:CTy:=(.pair K0 (.pair K2 .unit))
abbrev eX:CTy:=(.pair K0 (.pair (.int .i64) (.pair .str .unit)))
abbrev fX:CTy:=(.pair K0 (.pair (.int .i64) (.pair .str (.pair (.int .i64) .unit))))
abbrev gX:CTy:=(.pair K0 (.pair (.pair .str (.pair .bool .unit)) .unit))
abbrev iX:CTy:=(.pair K0 (.pair (.int .i64) .unit))
abbrev U0:Type:=(BA×(BA×Unit))
abbrev T1:Type:=(Int×(BA×(Bool×(U0×(Int×Unit)))))
abbrev U1:Type:=(Int×Int×Int×BA×Bool×Int×BA×Bool×BA×BA×Int×Bool×(Sq U0)×(Sq BA)×Unit)
abbrev U3:Type:=(Bool×Int×Int×Int×BA×Bool×Int×BA×Bool×BA×BA×(Sq U0)×(Sq BA)×Int×Bool×(Sq BA))
abbrev U6:Type:=(BA×(Bool×Unit))
abbrev T0:Type:=(Int×(Int×(Int×(U6×(Int×(BA×(Bool×(U0×((Sq U0)×((Sq BA)×(Int×(Bool×Unit))))))))))))
abbrev T2:Type:=(Int×(Int×(Int×(U6×(T1×Unit)))))
abbrev U2:Type:=(Int×Bool×Int×Int×Int×Int×BA×Bool×Int×BA×Bool×BA×BA×(Sq U0)×(Sq BA)×Int×Bool×(Sq T2)×Int×Int×Int×BA×Bool×Int×BA×Bool×BA×BA×(Sq U0)×(Sq BA)×Int×Bool×(Sq BA)×BA×Bool)
abbrev U4:Type:=(Int×Int×Int×Int×BA×Bool×Int×BA×Bool×BA×BA×(Sq U0)×(Sq BA)×Int×Bool×(Sq T2))
abbrev U5:Type:=(Int×Int×Int×BA×Bool×Int×BA×Bool×BA×BA×(Sq U0)×(Sq BA)×Int×Bool×(Sq T2))
abbrev U7:Type:=((Sq Int)×Unit)
abbrev U8:Type:=(T0×((Sq T2)×Unit))
def uU (n:Nat):List Entry:=[]
theorem GO (n:Nat):AllOk Tryz.prog gl (uU n):=.nil
def Fb (n:Nat) {R:Type} (l1:(Sq BA)) (n0 i:Int) (kn:(Sq BA)→Int→Int→Option R) (ko:(Int)→Option R) (kr:Unit→Option R) (kp:Int→Option R):Option R:=if (decide (i<(l1.n:Int)))=true then if (decide (n0<(1048576:Int)))=true then if 0≤i∧i<(l1.n:Int) then kn l1 (IntKind.wrap .i64 (n0+((l1.at' (Int.toNat i)).size:Int))) (IntKind.wrap .i64 (i+(1:Int))) else none else ko n0 else ko n0
def La (n:Nat):Nat→(Sq BA)→Int→Int→Option (Lx (Int) Unit)
 | 0,_,_,_=>none
 | m+1,l1,n0,i=>Fb n l1 n0 i (La n m) (fun a=>some (.out a)) (fun a=>some (.ret a)) (fun p=>some (.pan p))
theorem Xu (n m:Nat) {S:Type}:∀ l1 n0 i (φ:_→Option S),(La n (m+1) l1 n0 i).bind φ=Fb n l1 n0 i (fun l1 n0 i=>(La n m l1 n0 i).bind φ) (fun a=>φ (.out a)) (fun a=>φ (.ret a)) (fun p=>φ (.pan p)):=by
  intros;first | (simp only [La,Fb,ia,ba,iB,bB,oL,oX,nB,Option.bind_some]) | rfl
def Se:List Sl:=.dat (.sl .str)::.top::.top::.dat (.int .i64)::.dat (.int .i64)::tp 20 []
def Re:List RS:=[]
def lm:List Sl:=.top::.top::.top::.dat (.int .i64)::tp 21 []
def km:List RS:=[]
def ob (K:XE→List AV→la→Option Out):Lx (Int) Unit→Option Out:=fun x=>iY x (fun a=>Jh lm km (a,()) () (K (.exit 0))) (fun _=>none) (fun _=>none)
def Df (n:Nat) {R:Type} (l:(Sq BA)) (k:Int→Option R):Option R:=(La n n l (l.n:Int) (0:Int)).bind fun x_1=>iY x_1 (fun a_2=>k a_2) (fun _=>none) (fun _=>none)
def de (n:Nat) (l:(Sq BA)):Option Int:=Df n l some
theorem OB (n:Nat) {S:Type}:∀ l (φ:_→Option S),(de n l).bind φ=Df n l φ:=by
  intros;unfold de Df;first | (simp only [ia,ba,iB,bB,oL,oX,nB,Option.bind_some]) | rfl
def ud (n:Nat):Hint Out:={ live:=fun c=>(cond (Nat.beq c 0) [(0,some (.sl .str)),(3,none),(4,none)] []),run:=fun c=>(cond (Nat.beq c 0) (some (vp Se Re fun σ ρ K=>(La n n σ.1 σ.2.1 σ.2.2.1).bind (ob K))) none),xm:=fun c q=>(cond (Nat.beq c 0&&Nat.beq (q.getD 1000000) 0&&q.isSome) (some [(3,none)]) none) }
def td (n:Nat) (K:XE→List AV→la→Option Out) (m:Nat) (l1:(Sq BA)) (n0:Int) (i:Int):Option Out:=lf tys (fa Out (uU n)) (ud n) n (Da [1,1,0,1,0,0] (aa Tryz.f83)) 0 Se Re K m (l1,(n0,(i,()))) ()
theorem Fj (n:Nat) (K:XE→List AV→la→Option Out):∀ (m:Nat) l1 n0 i,td n K m l1 n0 i=(La n m l1 n0 i).bind (ob K)
  | 0,_,_,_=>by kernel_rfl
  | m+1,l1,n0,i=>by
    have h1:td n K (m+1) l1 n0 i=Fb n l1 n0 i (td n K m) (fun a=>ob K (.out a)) (fun a=>ob K (.ret a)) (fun p=>ob K (.pan p)):=by kernel_rfl
    have h2:td n K m=fun l1 n0 i=>(La n m l1 n0 i).bind (ob K):=by
      repeat (refine funext fun _=>?_)
      exact Fj n K m _ _ _
    rw [h1,h2];exact (Xu n m _ _ _ (ob K)).symm
theorem Vr (n:Nat):le tys (fa Out (uU n)) (ud n) n (Da [1,1,0,1,0,0] (aa Tryz.f83)) 0:=Oa (sp:=Se) (rp:=Re) (by kernel_rfl) fun K σ ρ=>Fj n K n σ.1 σ.2.1 σ.2.2.1
theorem Yu (n:Nat):ya tys (fa Out (uU n)) (ud n) n (aa Tryz.f83) 0:=⟨trivial,⟨trivial,⟨⟨trivial,⟨Vr n,⟨⟨trivial,⟨trivial,trivial⟩⟩,⟨trivial,trivial⟩⟩⟩⟩,⟨trivial,trivial⟩⟩⟩⟩
theorem Lw (n:Nat):Enters Tryz.prog 83:=enters_of (c:=aa Tryz.f83) Tryz.func83 (by kernel_rfl) (by kernel_rfl)
def Gm (n:Nat):Entry:=⟨83,nY (.pair (.sl .str) .unit) (.one (.int .i64)) (fun xs=>de n xs.1),none,none⟩
theorem Wy (n:Nat):EntryOk Tryz.prog gl (Gm n):=Ea (Lw n) fun xs y h=>ma tys_ok (GO n) mixed (hint:=ud n) (n:=n) Tryz.func83 (Ha (Yu n)) (oa (φ:=(fun y=>some (Out.ret (Ub (.one (.int .i64)) y)))) (by kernel_rfl) (OB n xs.1 _) h)
def ld (n:Nat):List Entry:=Gm n::uU n
theorem Gi (n:Nat):AllOk Tryz.prog gl (ld n):=.cons (Wy n) (GO n)
def Pa (n:Nat) {R:Type} (n0 i c1 c2 c3:Int) (c4:BA) (c5:Bool) (c6:Int) (c7:BA) (c8:Bool) (c9 c10:BA) (c11:(Sq U0)) (c12:(Sq BA)) (c13:Int) (c14:Bool) (kn:Int→Int→Int→Int→Int→BA→Bool→Int→BA→Bool→BA→BA→(Sq U0)→(Sq BA)→Int→Bool→Option R) (ko:(Int)→Option R) (kr:Unit→Option R) (kp:Int→Option R):Option R:=if (decide (i<(c11.n:Int)))=true then if (decide (n0<(1048576:Int)))=true then if 0≤i∧i<(c11.n:Int) then if 0≤i∧i<(c11.n:Int) then kn (IntKind.wrap .i64 ((IntKind.wrap .i64 ((IntKind.wrap .i64 (n0+(1:Int)))+((((c11.at' (Int.toNat i))).1).size:Int)))+(((((c11.at' (Int.toNat i))).2).1).size:Int))) (IntKind.wrap .i64 (i+(1:Int))) c1 c2 c3 c4 c5 c6 c7 c8 c9 c10 c11 c12 c13 c14 else none else none else ko n0 else ko n0
def Ca (n:Nat):Nat→Int→Int→Int→Int→Int→BA→Bool→Int→BA→Bool→BA→BA→(Sq U0)→(Sq BA)→Int→Bool→Option (Lx (Int) Unit)
 | 0,_,_,_,_,_,_,_,_,_,_,_,_,_,_,_,_=>none
 | m+1,n0,i,c1,c2,c3,c4,c5,c6,c7,c8,c9,c10,c11,c12,c13,c14=>Pa n n0 i c1 c2 c3 c4 c5 c6 c7 c8 c9 c10 c11 c12 c13 c14 (Ca n m) (fun a=>some (.out a)) (fun a=>some (.ret a)) (fun p=>some (.pan p))
theorem aq (n m:Nat) {S:Type}:∀ n0 i c1 c2 c3 c4 c5 c6 c7 c8 c9 c10 c11 c12 c13 c14 (φ:_→Option S),(Ca n (m+1) n0 i c1 c2 c3 c4 c5 c6 c7 c8 c9 c10 c11 c12 c13 c14).bind φ=Pa n n0 i c1 c2 c3 c4 c5 c6 c7 c8 c9 c10 c11 c12 c13 c14 (fun n0 i c1 c2 c3 c4 c5 c6 c7 c8 c9 c10 c11 c12 c13 c14=>(Ca n m n0 i c1 c2 c3 c4 c5 c6 c7 c8 c9 c10 c11 c12 c13 c14).bind φ) (fun a=>φ (.out a)) (fun a=>φ (.ret a)) (fun p=>φ (.pan p)):=by
  intros;first | (simp only [Ca,Pa,ia,ba,iB,bB,oL,oX,nB,Option.bind_some]) | rfl
def Td:List Sl:=.top::.ptr 0 0 0::.top::.dat (.int .i64)::.dat (.int .i64)::tp 52 []
def Sd:List RS:=[.box 50 14 true [.dat (.int .i64),.dat (.int .i64),.dat (.int .i64),.dat .str,.dat .bool,.dat (.int .i64),.dat .str,.dat .bool,.dat .str,.dat .str,.dat (.sl (.pair .str (.pair .str .unit))),.dat (.sl .str),.dat (.int .i64),.dat .bool]]
def qk:List Sl:=.top::.top::.top::.dat (.int .i64)::tp 53 []
def nk:List RS:=[]
def Ua (K:XE→List AV→la→Option Out):Lx (Int) Unit→Option Out:=fun x=>iY x (fun a=>Jh qk nk (a,()) () (K (.exit 0))) (fun _=>none) (fun _=>none)
def ce (n:Nat) {R:Type} (c:T0) (k:Int→Option R):Option R:=(de n c.2.2.2.2.2.2.2.2.2.1).bind fun v=>(Ca n n (IntKind.wrap .i64 ((IntKind.wrap .i64 ((IntKind.wrap .i64 ((IntKind.wrap .i64 ((c.2.2.2.2.2.1.size:Int)+(c.2.2.2.1.1.size:Int)))+v))+(c.2.2.2.2.2.2.2.1.1.size:Int)))+(c.2.2.2.2.2.2.2.1.2.1.size:Int))) (0:Int) c.1 c.2.1 c.2.2.1 c.2.2.2.1.1 c.2.2.2.1.2.1 c.2.2.2.2.1 c.2.2.2.2.2.1 c.2.2.2.2.2.2.1 c.2.2.2.2.2.2.2.1.1 c.2.2.2.2.2.2.2.1.2.1 c.2.2.2.2.2.2.2.2.1 c.2.2.2.2.2.2.2.2.2.1 c.2.2.2.2.2.2.2.2.2.2.1 c.2.2.2.2.2.2.2.2.2.2.2.1).bind fun x_1=>iY x_1 (fun a_2=>k a_2) (fun _=>none) (fun _=>none)
def zc (n:Nat) (c:T0):Option Int:=ce n c some
theorem Kw (n:Nat) {S:Type}:∀ c (φ:_→Option S),(zc n c).bind φ=ce n c φ:=by
  intros;unfold zc ce;first | (simp only [ia,ba,iB,bB,oL,oX,nB,Option.bind_some]) | rfl
def mc (n:Nat):Hint Out:={ live:=fun c=>(cond (Nat.beq c 0) (lv [1,3,4]) []),run:=fun c=>(cond (Nat.beq c 0) (some (vp Td Sd fun σ ρ K=>(Ca n n σ.1 σ.2.1 ρ.1.1 ρ.1.2.1 ρ.1.2.2.1 ρ.1.2.2.2.1 ρ.1.2.2.2.2.1 ρ.1.2.2.2.2.2.1 ρ.1.2.2.2.2.2.2.1 ρ.1.2.2.2.2.2.2.2.1 ρ.1.2.2.2.2.2.2.2.2.1 ρ.1.2.2.2.2.2.2.2.2.2.1 ρ.1.2.2.2.2.2.2.2.2.2.2.1 ρ.1.2.2.2.2.2.2.2.2.2.2.2.1 ρ.1.2.2.2.2.2.2.2.2.2.2.2.2.1 ρ.1.2.2.2.2.2.2.2.2.2.2.2.2.2.1).bind (Ua K))) none),xm:=fun c q=>(cond (Nat.beq c 0&&Nat.beq (q.getD 1000000) 0&&q.isSome) (some [(3,none)]) none) }
def lc (n:Nat) (K:XE→List AV→la→Option Out) (m:Nat) (n0:Int) (i:Int) (c1:Int) (c2:Int) (c3:Int) (c4:BA) (c5:Bool) (c6:Int) (c7:BA) (c8:Bool) (c9:BA) (c10:BA) (c11:(Sq U0)) (c12:(Sq BA)) (c13:Int) (c14:Bool):Option Out:=lf tys (fa Out (ld n)) (mc n) n (Da [1,1,0,1,0,0] (aa Tryz.f45)) 0 Td Sd K m (n0,(i,())) ((c1,(c2,(c3,(c4,(c5,(c6,(c7,(c8,(c9,(c10,(c11,(c12,(c13,(c14,())))))))))))))),())
theorem Yg (n:Nat) (K:XE→List AV→la→Option Out):∀ (m:Nat) n0 i c1 c2 c3 c4 c5 c6 c7 c8 c9 c10 c11 c12 c13 c14,lc n K m n0 i c1 c2 c3 c4 c5 c6 c7 c8 c9 c10 c11 c12 c13 c14=(Ca n m n0 i c1 c2 c3 c4 c5 c6 c7 c8 c9 c10 c11 c12 c13 c14).bind (Ua K)
  | 0,_,_,_,_,_,_,_,_,_,_,_,_,_,_,_,_=>by kernel_rfl
  | m+1,n0,i,c1,c2,c3,c4,c5,c6,c7,c8,c9,c10,c11,c12,c13,c14=>by
    have h1:lc n K (m+1) n0 i c1 c2 c3 c4 c5 c6 c7 c8 c9 c10 c11 c12 c13 c14=Pa n n0 i c1 c2 c3 c4 c5 c6 c7 c8 c9 c10 c11 c12 c13 c14 (lc n K m) (fun a=>Ua K (.out a)) (fun a=>Ua K (.ret a)) (fun p=>Ua K (.pan p)):=by kernel_rfl
    have h2:lc n K m=fun n0 i c1 c2 c3 c4 c5 c6 c7 c8 c9 c10 c11 c12 c13 c14=>(Ca n m n0 i c1 c2 c3 c4 c5 c6 c7 c8 c9 c10 c11 c12 c13 c14).bind (Ua K):=by
      repeat (refine funext fun _=>?_)
      exact Yg n K m _ _ _ _ _ _ _ _ _ _ _ _ _ _ _ _
    rw [h1,h2];exact (aq n m _ _ _ _ _ _ _ _ _ _ _ _ _ _ _ _ (Ua K)).symm
theorem Po (n:Nat):le tys (fa Out (ld n)) (mc n) n (Da [1,1,0,1,0,0] (aa Tryz.f45)) 0:=Oa (sp:=Td) (rp:=Sd) (by kernel_rfl) fun K σ ρ=>Yg n K n σ.1 σ.2.1 ρ.1.1 ρ.1.2.1 ρ.1.2.2.1 ρ.1.2.2.2.1 ρ.1.2.2.2.2.1 ρ.1.2.2.2.2.2.1 ρ.1.2.2.2.2.2.2.1 ρ.1.2.2.2.2.2.2.2.1 ρ.1.2.2.2.2.2.2.2.2.1 ρ.1.2.2.2.2.2.2.2.2.2.1 ρ.1.2.2.2.2.2.2.2.2.2.2.1 ρ.1.2.2.2.2.2.2.2.2.2.2.2.1 ρ.1.2.2.2.2.2.2.2.2.2.2.2.2.1 ρ.1.2.2.2.2.2.2.2.2.2.2.2.2.2.1
theorem bq (n:Nat):ya tys (fa Out (ld n)) (mc n) n (aa Tryz.f45) 0:=⟨trivial,⟨trivial,⟨⟨trivial,⟨Po n,⟨⟨trivial,⟨trivial,trivial⟩⟩,⟨trivial,trivial⟩⟩⟩⟩,⟨trivial,trivial⟩⟩⟩⟩
theorem Ur (n:Nat):Enters Tryz.prog 45:=enters_of (c:=aa Tryz.f45) Tryz.func45 (by kernel_rfl) (by kernel_rfl)
def Ej (n:Nat):Entry:=⟨45,nY K1 (.one (.int .i64)) (fun xs=>zc n xs.1),none,none⟩
theorem Wu (n:Nat):EntryOk Tryz.prog gl (Ej n):=Ea (Ur n) fun xs y h=>ma tys_ok (Gi n) mixed (hint:=mc n) (n:=n) Tryz.func45 (Ha (bq n)) (oa (φ:=(fun y=>some (Out.ret (Ub (.one (.int .i64)) y)))) (by kernel_rfl) (Kw n xs.1 _) h)
def bc (n:Nat):List Entry:=Ej n::ld n
theorem Fg (n:Nat):AllOk Tryz.prog gl (bc n):=.cons (Wu n) (Gi n)
def Yc (n:Nat) {R:Type} (n0 i p1 p2 p3:Int) (p4:BA) (p5:Bool) (p6:Int) (p7:BA) (p8:Bool) (p9 p10:BA) (p11:(Sq U0)) (p12:(Sq BA)) (p13:Int) (p14:Bool) (p15:(Sq T2)) (kn:Int→Int→Int→Int→Int→BA→Bool→Int→BA→Bool→BA→BA→(Sq U0)→(Sq BA)→Int→Bool→(Sq T2)→Option R) (ko:U4→Option R) (kr:Unit→Option R) (kp:Int→Option R):Option R:=if (decide (i<(p15.n:Int)))=true then if (decide (n0<(1048576:Int)))=true then if 0≤i∧i<(p15.n:Int) then if 0≤i∧i<(p15.n:Int) then if 0≤i∧i<(p15.n:Int) then if 0≤i∧i<(p15.n:Int) then kn (IntKind.wrap .i64 ((IntKind.wrap .i64 ((IntKind.wrap .i64 ((IntKind.wrap .i64 ((IntKind.wrap .i64 (n0+(1:Int)))+((((((((p15.at' (Int.toNat i))).2).2).2).1).1).size:Int)))+((((((((((p15.at' (Int.toNat i))).2).2).2).2).1).2).1).size:Int)))+(((((((((((((p15.at' (Int.toNat i))).2).2).2).2).1).2).2).2).1).1).size:Int)))+((((((((((((((p15.at' (Int.toNat i))).2).2).2).2).1).2).2).2).1).2).1).size:Int))) (IntKind.wrap .i64 (i+(1:Int))) p1 p2 p3 p4 p5 p6 p7 p8 p9 p10 p11 p12 p13 p14 p15 else none else none else none else none else ko (n0,p1,p2,p3,p4,p5,p6,p7,p8,p9,p10,p11,p12,p13,p14,p15)
 else ko (n0,p1,p2,p3,p4,p5,p6,p7,p8,p9,p10,p11,p12,p13,p14,p15)
def qb (n:Nat):Nat→Int→Int→Int→Int→Int→BA→Bool→Int→BA→Bool→BA→BA→(Sq U0)→(Sq BA)→Int→Bool→(Sq T2)→Option (Lx U4 Unit)
 | 0,_,_,_,_,_,_,_,_,_,_,_,_,_,_,_,_,_=>none
 | m+1,n0,i,p1,p2,p3,p4,p5,p6,p7,p8,p9,p10,p11,p12,p13,p14,p15=>Yc n n0 i p1 p2 p3 p4 p5 p6 p7 p8 p9 p10 p11 p12 p13 p14 p15 (qb n m) (fun a=>some (.out a)) (fun a=>some (.ret a)) (fun p=>some (.pan p))
theorem TF (n m:Nat) {S:Type}:∀ n0 i p1 p2 p3 p4 p5 p6 p7 p8 p9 p10 p11 p12 p13 p14 p15 (φ:_→Option S),(qb n (m+1) n0 i p1 p2 p3 p4 p5 p6 p7 p8 p9 p10 p11 p12 p13 p14 p15).bind φ=Yc n n0 i p1 p2 p3 p4 p5 p6 p7 p8 p9 p10 p11 p12 p13 p14 p15 (fun n0 i p1 p2 p3 p4 p5 p6 p7 p8 p9 p10 p11 p12 p13 p14 p15=>(qb n m n0 i p1 p2 p3 p4 p5 p6 p7 p8 p9 p10 p11 p12 p13 p14 p15).bind φ) (fun a=>φ (.out a)) (fun a=>φ (.ret a)) (fun p=>φ (.pan p)):=by
  intros;first | (simp only [qb,Yc,ia,ba,iB,bB,oL,oX,nB,Option.bind_some]) | rfl
def tk:List Sl:=.top::.ptr 0 0 0::.top::.dat (.int .i64)::.dat (.int .i64)::tp 62 []
def rk:List RS:=[.box 53 15 true [.dat (.int .i64),.dat (.int .i64),.dat (.int .i64),.dat .str,.dat .bool,.dat (.int .i64),.dat .str,.dat .bool,.dat .str,.dat .str,.dat (.sl (.pair .str (.pair .str .unit))),.dat (.sl .str),.dat (.int .i64),.dat .bool,.dat (.sl K3)]]
def nv:List Sl:=.top::.ptr 0 0 0::.top::.dat (.int .i64)::tp 63 []
def mv:List RS:=[.box 53 15 true [.dat (.int .i64),.dat (.int .i64),.dat (.int .i64),.dat .str,.dat .bool,.dat (.int .i64),.dat .str,.dat .bool,.dat .str,.dat .str,.dat (.sl (.pair .str (.pair .str .unit))),.dat (.sl .str),.dat (.int .i64),.dat .bool,.dat (.sl K3)]]
def Zc (K:XE→List AV→la→Option Out):Lx U4 Unit→Option Out:=fun x=>iY x (fun a=>Jh nv mv (a.1,()) ((a.2.1,(a.2.2.1,(a.2.2.2.1,(a.2.2.2.2.1,(a.2.2.2.2.2.1,(a.2.2.2.2.2.2.1,(a.2.2.2.2.2.2.2.1,(a.2.2.2.2.2.2.2.2.1,(a.2.2.2.2.2.2.2.2.2.1,(a.2.2.2.2.2.2.2.2.2.2.1,(a.2.2.2.2.2.2.2.2.2.2.2.1,(a.2.2.2.2.2.2.2.2.2.2.2.2.1,(a.2.2.2.2.2.2.2.2.2.2.2.2.2.1,(a.2.2.2.2.2.2.2.2.2.2.2.2.2.2.1,(a.2.2.2.2.2.2.2.2.2.2.2.2.2.2.2,()))))))))))))))),()) (K (.exit 0))) (fun _=>none) (fun _=>none)
def Ip (n:Nat) {R:Type} (p:U8) (k:Bool→Option R):Option R:=(zc n p.1).bind fun v=>(qb n n v (0:Int) p.1.1 p.1.2.1 p.1.2.2.1 p.1.2.2.2.1.1 p.1.2.2.2.1.2.1 p.1.2.2.2.2.1 p.1.2.2.2.2.2.1 p.1.2.2.2.2.2.2.1 p.1.2.2.2.2.2.2.2.1.1 p.1.2.2.2.2.2.2.2.1.2.1 p.1.2.2.2.2.2.2.2.2.1 p.1.2.2.2.2.2.2.2.2.2.1 p.1.2.2.2.2.2.2.2.2.2.2.1 p.1.2.2.2.2.2.2.2.2.2.2.2.1 p.2.1).bind fun x_1=>iY x_1 (fun a_2=>if (decide (a_2.1>(20000:Int)))=false then k (decide ((a_2.2.2.2.2.2.2.2.2.2.2.2.2.2.2.2.n:Int)>(100:Int))) else k true) (fun _=>none) (fun _=>none)
def Hp (n:Nat) (p:U8):Option Bool:=Ip n p some
theorem LN (n:Nat) {S:Type}:∀ p (φ:_→Option S),(Hp n p).bind φ=Ip n p φ:=by
  intros;unfold Hp Ip;first | (simp only [ia,ba,iB,bB,oL,oX,nB,Option.bind_some]) | rfl
def Eh (n:Nat):Hint Out:={ live:=fun c=>(cond (Nat.beq c 0) (lv [1,3,4]) []),run:=fun c=>(cond (Nat.beq c 0) (some (vp tk rk fun σ ρ K=>(qb n n σ.1 σ.2.1 ρ.1.1 ρ.1.2.1 ρ.1.2.2.1 ρ.1.2.2.2.1 ρ.1.2.2.2.2.1 ρ.1.2.2.2.2.2.1 ρ.1.2.2.2.2.2.2.1 ρ.1.2.2.2.2.2.2.2.1 ρ.1.2.2.2.2.2.2.2.2.1 ρ.1.2.2.2.2.2.2.2.2.2.1 ρ.1.2.2.2.2.2.2.2.2.2.2.1 ρ.1.2.2.2.2.2.2.2.2.2.2.2.1 ρ.1.2.2.2.2.2.2.2.2.2.2.2.2.1 ρ.1.2.2.2.2.2.2.2.2.2.2.2.2.2.1 ρ.1.2.2.2.2.2.2.2.2.2.2.2.2.2.2.1).bind (Zc K))) none),xm:=fun c q=>(cond (Nat.beq c 0&&Nat.beq (q.getD 1000000) 0&&q.isSome) (some [(1,none),(3,none)]) none) }
def Dh (n:Nat) (K:XE→List AV→la→Option Out) (m:Nat) (n0:Int) (i:Int) (p1:Int) (p2:Int) (p3:Int) (p4:BA) (p5:Bool) (p6:Int) (p7:BA) (p8:Bool) (p9:BA) (p10:BA) (p11:(Sq U0)) (p12:(Sq BA)) (p13:Int) (p14:Bool) (p15:(Sq T2)):Option Out:=lf tys (fa Out (bc n)) (Eh n) n (Da [1,1,0,1,0,0] (aa Tryz.f28)) 0 tk rk K m (n0,(i,())) ((p1,(p2,(p3,(p4,(p5,(p6,(p7,(p8,(p9,(p10,(p11,(p12,(p13,(p14,(p15,()))))))))))))))),())
theorem jv (n:Nat) (K:XE→List AV→la→Option Out):∀ (m:Nat) n0 i p1 p2 p3 p4 p5 p6 p7 p8 p9 p10 p11 p12 p13 p14 p15,Dh n K m n0 i p1 p2 p3 p4 p5 p6 p7 p8 p9 p10 p11 p12 p13 p14 p15=(qb n m n0 i p1 p2 p3 p4 p5 p6 p7 p8 p9 p10 p11 p12 p13 p14 p15).bind (Zc K)
  | 0,_,_,_,_,_,_,_,_,_,_,_,_,_,_,_,_,_=>by kernel_rfl
  | m+1,n0,i,p1,p2,p3,p4,p5,p6,p7,p8,p9,p10,p11,p12,p13,p14,p15=>by
    have h1:Dh n K (m+1) n0 i p1 p2 p3 p4 p5 p6 p7 p8 p9 p10 p11 p12 p13 p14 p15=Yc n n0 i p1 p2 p3 p4 p5 p6 p7 p8 p9 p10 p11 p12 p13 p14 p15 (Dh n K m) (fun a=>Zc K (.out a)) (fun a=>Zc K (.ret a)) (fun p=>Zc K (.pan p)):=by kernel_rfl
    have h2:Dh n K m=fun n0 i p1 p2 p3 p4 p5 p6 p7 p8 p9 p10 p11 p12 p13 p14 p15=>(qb n m n0 i p1 p2 p3 p4 p5 p6 p7 p8 p9 p10 p11 p12 p13 p14 p15).bind (Zc K):=by
      repeat (refine funext fun _=>?_)
      exact jv n K m _ _ _ _ _ _ _ _ _ _ _ _ _ _ _ _ _
    rw [h1,h2];exact (TF n m _ _ _ _ _ _ _ _ _ _ _ _ _ _ _ _ _ (Zc K)).symm
theorem iD (n:Nat):le tys (fa Out (bc n)) (Eh n) n (Da [1,1,0,1,0,0] (aa Tryz.f28)) 0:=Oa (sp:=tk) (rp:=rk) (by kernel_rfl) fun K σ ρ=>jv n K n σ.1 σ.2.1 ρ.1.1 ρ.1.2.1 ρ.1.2.2.1 ρ.1.2.2.2.1 ρ.1.2.2.2.2.1 ρ.1.2.2.2.2.2.1 ρ.1.2.2.2.2.2.2.1 ρ.1.2.2.2.2.2.2.2.1 ρ.1.2.2.2.2.2.2.2.2.1 ρ.1.2.2.2.2.2.2.2.2.2.1 ρ.1.2.2.2.2.2.2.2.2.2.2.1 ρ.1.2.2.2.2.2.2.2.2.2.2.2.1 ρ.1.2.2.2.2.2.2.2.2.2.2.2.2.1 ρ.1.2.2.2.2.2.2.2.2.2.2.2.2.2.1 ρ.1.2.2.2.2.2.2.2.2.2.2.2.2.2.2.1
theorem UF (n:Nat):ya tys (fa Out (bc n)) (Eh n) n (aa Tryz.f28) 0:=⟨trivial,⟨trivial,⟨⟨trivial,⟨iD n,⟨⟨trivial,⟨trivial,trivial⟩⟩,⟨trivial,trivial⟩⟩⟩⟩,⟨trivial,trivial⟩⟩⟩⟩
theorem HI (n:Nat):Enters Tryz.prog 28:=enters_of (c:=aa Tryz.f28) Tryz.func28 (by kernel_rfl) (by kernel_rfl)
def QB (n:Nat):Entry:=⟨28,nY K5 (.one .bool) (fun xs=>Hp n xs.1),none,none⟩
theorem LK (n:Nat):EntryOk Tryz.prog gl (QB n):=Ea (HI n) fun xs y h=>ma tys_ok (Fg n) mixed (hint:=Eh n) (n:=n) Tryz.func28 (Ha (UF n)) (oa (φ:=(fun y=>some (Out.ret (Ub (.one .bool) y)))) (by kernel_rfl) (LN n xs.1 _) h)
def Zr (n:Nat):List Entry:=QB n::bc n
theorem Jq (n:Nat):AllOk Tryz.prog gl (Zr n):=.cons (LK n) (Fg n)
def dp (n:Nat) {R:Type} (n0 least most:Int) (k:Bool→Option R):Option R:=if (decide (n0≥least))=true then k (decide (n0≤most)) else k false
def Xd (n:Nat) (n0 least most:Int):Option Bool:=dp n n0 least most some
theorem MM (n:Nat) {S:Type}:∀ n0 least most (φ:_→Option S),(Xd n n0 least most).bind φ=dp n n0 least most φ:=by
  intros;unfold Xd dp;first | (simp only [ia,ba,iB,bB,oL,oX,nB,Option.bind_some]) | rfl
def Gt (n:Nat):Hint Out:={ live:=fun c=>[],run:=fun c=>none,xm:=fun c q=>none }
theorem KE (n:Nat):ya tys (fa Out (Zr n)) (Gt n) n (aa Tryz.f72) 0:=pa (fun _=>rfl) _ _ (by kernel_rfl)
theorem cH (n:Nat):Enters Tryz.prog 72:=enters_of (c:=aa Tryz.f72) Tryz.func72 (by kernel_rfl) (by kernel_rfl)
def iA (n:Nat):Entry:=⟨72,nY (.pair (.int .i64) (.pair (.int .i64) (.pair (.int .i64) .unit))) (.one .bool) (fun xs=>Xd n xs.1 xs.2.1 xs.2.2.1),none,none⟩
theorem AJ (n:Nat):EntryOk Tryz.prog gl (iA n):=Ea (cH n) fun xs y h=>ma tys_ok (Jq n) mixed (hint:=Gt n) (n:=n) Tryz.func72 (Ha (KE n)) (oa (φ:=(fun y=>some (Out.ret (Ub (.one .bool) y)))) (by kernel_rfl) (MM n xs.1 xs.2.1 xs.2.2.1 _) h)
def jA (n:Nat):List Entry:=iA n::Zr n
theorem AC (n:Nat):AllOk Tryz.prog gl (jA n):=.cons (AJ n) (Jq n)
def fk (n:Nat):List Entry:=⟨102,nY (.pair .str (.pair .str .unit)) (.one .bool) (fun xs=>Fk xs.1 xs.2.1),none,none⟩::jA n
theorem Xk (n:Nat):AllOk Tryz.prog gl (fk n):=.cons DJ (AC n)
def Ql (n:Nat) {R:Type} (f:U6) (k:Bool→Option R):Option R:=if f.2.1=true then if (f.1.toList==(⟨#[]⟩:BA).toList)=false then k (f.1.toList==(⟨#[13]⟩:BA).toList) else k true else if (decide ((f.1.size:Int)<(512:Int)))=true then (Fk f.1 (⟨#[13,10]⟩:BA)).bind fun v=>k (!v) else k false
def ci (n:Nat) (f:U6):Option Bool:=Ql n f some
theorem MJ (n:Nat) {S:Type}:∀ f (φ:_→Option S),(ci n f).bind φ=Ql n f φ:=by
  intros;unfold ci Ql;first | (simp only [ia,ba,iB,bB,oL,oX,nB,Option.bind_some]) | rfl
def vq (n:Nat):Hint Out:={ live:=fun c=>[],run:=fun c=>none,xm:=fun c q=>none }
theorem IC (n:Nat):ya tys (fa Out (fk n)) (vq n) n (aa Tryz.f73) 0:=pa (fun _=>rfl) _ _ (by kernel_rfl)
theorem SE (n:Nat):Enters Tryz.prog 73:=enters_of (c:=aa Tryz.f73) Tryz.func73 (by kernel_rfl) (by kernel_rfl)
def Ax (n:Nat):Entry:=⟨73,nY (.pair (.pair .str (.pair .bool .unit)) .unit) (.one .bool) (fun xs=>ci n xs.1),none,none⟩
theorem sH (n:Nat):EntryOk Tryz.prog gl (Ax n):=Ea (SE n) fun xs y h=>ma tys_ok (Xk n) mixed (hint:=vq n) (n:=n) Tryz.func73 (Ha (IC n)) (oa (φ:=(fun y=>some (Out.ret (Ub (.one .bool) y)))) (by kernel_rfl) (MJ n xs.1 _) h)
def Jn (n:Nat):List Entry:=Ax n::fk n
theorem Kn (n:Nat):AllOk Tryz.prog gl (Jn n):=.cons (sH n) (Xk n)
def gg (n:Nat) {R:Type} (s prefix0:BA) (k:Bool→Option R):Option R:=if (decide ((s.size:Int)≥(prefix0.size:Int)))=true then if 0≤(prefix0.size:Int)∧(prefix0.size:Int)≤(s.size:Int) then k ((s.extract (Int.toNat (0:Int)) (Int.toNat (prefix0.size:Int))).toList==prefix0.toList) else none else k false
def Bc (n:Nat) (s prefix0:BA):Option Bool:=gg n s prefix0 some
theorem JC (n:Nat) {S:Type}:∀ s prefix0 (φ:_→Option S),(Bc n s prefix0).bind φ=gg n s prefix0 φ:=by
  intros;unfold Bc gg;first | (simp only [ia,ba,iB,bB,oL,oX,nB,Option.bind_some]) | rfl
def Ik (n:Nat):Hint Out:={ live:=fun c=>[],run:=fun c=>none,xm:=fun c q=>none }
theorem Uv (n:Nat):ya tys (fa Out (Jn n)) (Ik n) n (aa Tryz.f94) 0:=pa (fun _=>rfl) _ _ (by kernel_rfl)
theorem ky (n:Nat):Enters Tryz.prog 94:=enters_of (c:=aa Tryz.f94) Tryz.func94 (by kernel_rfl) (by kernel_rfl)
def Nn (n:Nat):Entry:=⟨94,nY (.pair .str (.pair .str .unit)) (.one .bool) (fun xs=>Bc n xs.1 xs.2.1),none,none⟩
theorem qA (n:Nat):EntryOk Tryz.prog gl (Nn n):=Ea (ky n) fun xs y h=>ma tys_ok (Kn n) mixed (hint:=Ik n) (n:=n) Tryz.func94 (Ha (Uv n)) (oa (φ:=(fun y=>some (Out.ret (Ub (.one .bool) y)))) (by kernel_rfl) (JC n xs.1 xs.2.1 _) h)
def fi (n:Nat):List Entry:=Nn n::Jn n
theorem Zi (n:Nat):AllOk Tryz.prog gl (fi n):=.cons (qA n) (Kn n)
def ve (n:Nat) {R:Type} (s prefix0:BA) (k:Bool→Option R):Option R:=(Bc n s prefix0).bind fun v=>k v
def rb (n:Nat) (s prefix0:BA):Option Bool:=ve n s prefix0 some
theorem cD (n:Nat) {S:Type}:∀ s prefix0 (φ:_→Option S),(rb n s prefix0).bind φ=ve n s prefix0 φ:=by
  intros;unfold rb ve;first | (simp only [ia,ba,iB,bB,oL,oX,nB,Option.bind_some]) | rfl
def Yk (n:Nat):Hint Out:={ live:=fun c=>[],run:=fun c=>none,xm:=fun c q=>none }
theorem xw (n:Nat):ya tys (fa Out (fi n)) (Yk n) n (aa Tryz.f58) 0:=pa (fun _=>rfl) _ _ (by kernel_rfl)
theorem Fy (n:Nat):Enters Tryz.prog 58:=enters_of (c:=aa Tryz.f58) Tryz.func58 (by kernel_rfl) (by kernel_rfl)
def mo (n:Nat):Entry:=⟨58,nY (.pair .str (.pair .str .unit)) (.one .bool) (fun xs=>rb n xs.1 xs.2.1),none,none⟩
theorem eB (n:Nat):EntryOk Tryz.prog gl (mo n):=Ea (Fy n) fun xs y h=>ma tys_ok (Zi n) mixed (hint:=Yk n) (n:=n) Tryz.func58 (Ha (xw n)) (oa (φ:=(fun y=>some (Out.ret (Ub (.one .bool) y)))) (by kernel_rfl) (cD n xs.1 xs.2.1 _) h)
def zi (n:Nat):List Entry:=mo n::fi n
theorem wj (n:Nat):AllOk Tryz.prog gl (zi n):=.cons (eB n) (Zi n)
def cg (n:Nat) {R:Type} (s:BA) (k:Bool→Option R):Option R:=(rb n s (⟨#[91]⟩:BA)).bind fun v=>k v
def Ac (n:Nat) (s:BA):Option Bool:=cg n s some
theorem bC (n:Nat) {S:Type}:∀ s (φ:_→Option S),(Ac n s).bind φ=cg n s φ:=by
  intros;unfold Ac cg;first | (simp only [ia,ba,iB,bB,oL,oX,nB,Option.bind_some]) | rfl
def xk (n:Nat):Hint Out:={ live:=fun c=>[],run:=fun c=>none,xm:=fun c q=>none }
theorem tv (n:Nat):ya tys (fa Out (zi n)) (xk n) n (aa Tryz.f128) 0:=pa (fun _=>rfl) _ _ (by kernel_rfl)
theorem Ux (n:Nat):Enters Tryz.prog 128:=enters_of (c:=aa Tryz.f128) Tryz.func128 (by kernel_rfl) (by kernel_rfl)
def Qm (n:Nat):Entry:=⟨128,nY (.pair .str .unit) (.one .bool) (fun xs=>Ac n xs.1),none,none⟩
theorem Rm (n:Nat):EntryOk Tryz.prog gl (Qm n):=Ea (Ux n) fun xs y h=>ma tys_ok (wj n) mixed (hint:=xk n) (n:=n) Tryz.func128 (Ha (tv n)) (oa (φ:=(fun y=>some (Out.ret (Ub (.one .bool) y)))) (by kernel_rfl) (bC n xs.1 _) h)
def Mh (n:Nat):List Entry:=Qm n::zi n
theorem Ni (n:Nat):AllOk Tryz.prog gl (Mh n):=.cons (Rm n) (wj n)
def ig (n:Nat) {R:Type} (s suffix:BA) (k:Bool→Option R):Option R:=if (decide ((s.size:Int)≥(suffix.size:Int)))=true then if 0≤(IntKind.wrap .i64 ((s.size:Int) - (suffix.size:Int)))∧(IntKind.wrap .i64 ((s.size:Int) - (suffix.size:Int)))≤(s.size:Int) then k ((s.extract (Int.toNat (IntKind.wrap .i64 ((s.size:Int) - (suffix.size:Int)))) (Int.toNat (s.size:Int))).toList==suffix.toList) else none else k false
def wg (n:Nat) (s suffix:BA):Option Bool:=ig n s suffix some
theorem KC (n:Nat) {S:Type}:∀ s suffix (φ:_→Option S),(wg n s suffix).bind φ=ig n s suffix φ:=by
  intros;unfold wg ig;first | (simp only [ia,ba,iB,bB,oL,oX,nB,Option.bind_some]) | rfl
def Jk (n:Nat):Hint Out:={ live:=fun c=>[],run:=fun c=>none,xm:=fun c q=>none }
theorem Vv (n:Nat):ya tys (fa Out (Mh n)) (Jk n) n (aa Tryz.f95) 0:=pa (fun _=>rfl) _ _ (by kernel_rfl)
theorem ly (n:Nat):Enters Tryz.prog 95:=enters_of (c:=aa Tryz.f95) Tryz.func95 (by kernel_rfl) (by kernel_rfl)
def On (n:Nat):Entry:=⟨95,nY (.pair .str (.pair .str .unit)) (.one .bool) (fun xs=>wg n xs.1 xs.2.1),none,none⟩
theorem rA (n:Nat):EntryOk Tryz.prog gl (On n):=Ea (ly n) fun xs y h=>ma tys_ok (Ni n) mixed (hint:=Jk n) (n:=n) Tryz.func95 (Ha (Vv n)) (oa (φ:=(fun y=>some (Out.ret (Ub (.one .bool) y)))) (by kernel_rfl) (KC n xs.1 xs.2.1 _) h)
def ii (n:Nat):List Entry:=On n::Mh n
theorem aj (n:Nat):AllOk Tryz.prog gl (ii n):=.cons (rA n) (Ni n)
def pg (n:Nat) {R:Type} (s suffix:BA) (k:Bool→Option R):Option R:=(wg n s suffix).bind fun v=>k v
def Fc (n:Nat) (s suffix:BA):Option Bool:=pg n s suffix some
theorem dD (n:Nat) {S:Type}:∀ s suffix (φ:_→Option S),(Fc n s suffix).bind φ=pg n s suffix φ:=by
  intros;unfold Fc pg;first | (simp only [ia,ba,iB,bB,oL,oX,nB,Option.bind_some]) | rfl
def Zk (n:Nat):Hint Out:={ live:=fun c=>[],run:=fun c=>none,xm:=fun c q=>none }
theorem yw (n:Nat):ya tys (fa Out (ii n)) (Zk n) n (aa Tryz.f59) 0:=pa (fun _=>rfl) _ _ (by kernel_rfl)
theorem Gy (n:Nat):Enters Tryz.prog 59:=enters_of (c:=aa Tryz.f59) Tryz.func59 (by kernel_rfl) (by kernel_rfl)
def oo (n:Nat):Entry:=⟨59,nY (.pair .str (.pair .str .unit)) (.one .bool) (fun xs=>Fc n xs.1 xs.2.1),none,none⟩
theorem qo (n:Nat):EntryOk Tryz.prog gl (oo n):=Ea (Gy n) fun xs y h=>ma tys_ok (aj n) mixed (hint:=Zk n) (n:=n) Tryz.func59 (Ha (yw n)) (oa (φ:=(fun y=>some (Out.ret (Ub (.one .bool) y)))) (by kernel_rfl) (dD n xs.1 xs.2.1 _) h)
def po (n:Nat):List Entry:=oo n::ii n
theorem Fu (n:Nat):AllOk Tryz.prog gl (po n):=.cons (qo n) (aj n)
theorem Sv:Tryz.prog.funcs[201]?=some Tryz.f201:=by kernel_rfl
theorem Tv:EntryOk Tryz.prog gl ⟨201,Vj,some (.flat iM),none⟩:=EJ Sv (by kernel_rfl) (by kernel_rfl) (by kernel_rfl) (by kernel_rfl)
def Gk (n:Nat):List Entry:=⟨201,Vj,some (.flat iM),none⟩::po n
theorem Qp (n:Nat):AllOk Tryz.prog gl (Gk n):=.cons Tv (Fu n)
theorem Ln:Tryz.prog.funcs[164]?=some Tryz.f164:=by kernel_rfl
theorem Mn:EntryOk Tryz.prog gl ⟨164,Vj,some (.flat Jp),none⟩:=vA Ln (by kernel_rfl) (by kernel_rfl) (by kernel_rfl) (by kernel_rfl)
def Ed (n:Nat):List Entry:=⟨164,Vj,some (.flat Jp),none⟩::Gk n
theorem We (n:Nat):AllOk Tryz.prog gl (Ed n):=.cons Mn (Qp n)
def se (n:Nat) {R:Type} (s:BA) (c:Int) (k:Int→Option R):Option R:=k (Lib.indexByte s.data.toList (Nat.toUInt8 (Int.toNat c)))
def Gd (n:Nat) (s:BA) (c:Int):Option Int:=se n s c some
theorem LC (n:Nat) {S:Type}:∀ s c (φ:_→Option S),(Gd n s c).bind φ=se n s c φ:=by
  intros;unfold Gd se;first | (simp only [ia,ba,iB,bB,oL,oX,nB,Option.bind_some]) | rfl
def Kk (n:Nat):Hint Out:={ live:=fun c=>[],run:=fun c=>none,xm:=fun c q=>none }
theorem Wv (n:Nat):ya tys (fa Out (Ed n)) (Kk n) n (aa Tryz.f142) 0:=pa (fun _=>rfl) _ _ (by kernel_rfl)
theorem my (n:Nat):Enters Tryz.prog 142:=enters_of (c:=aa Tryz.f142) Tryz.func142 (by kernel_rfl) (by kernel_rfl)
def Pn (n:Nat):Entry:=⟨142,nY (.pair .str (.pair (.int .u8) .unit)) (.one (.int .i64)) (fun xs=>Gd n xs.1 xs.2.1),none,none⟩
theorem sA (n:Nat):EntryOk Tryz.prog gl (Pn n):=Ea (my n) fun xs y h=>ma tys_ok (We n) mixed (hint:=Kk n) (n:=n) Tryz.func142 (Ha (Wv n)) (oa (φ:=(fun y=>some (Out.ret (Ub (.one (.int .i64)) y)))) (by kernel_rfl) (LC n xs.1 xs.2.1 _) h)
def ji (n:Nat):List Entry:=Pn n::Ed n
theorem bj (n:Nat):AllOk Tryz.prog gl (ji n):=.cons (sA n) (We n)
def jp (n:Nat) {R:Type} (s substr:BA) (k:Int→Option R):Option R:=if ((substr.size:Int)==(0:Int))=false then if (substr.toList==s.toList)=true then k (0:Int) else if ((substr.size:Int)==(1:Int))=true then if 0≤(0:Int)∧(0:Int)<(substr.size:Int) then (Gd n s (bt substr (0:Int))).bind fun v=>k v else none else if (decide ((substr.size:Int)≥(s.size:Int)))=true then k (-1:Int) else none else k (0:Int)
def Nt (n:Nat) (s substr:BA):Option Int:=jp n s substr some
theorem VM (n:Nat) {S:Type}:∀ s substr (φ:_→Option S),(Nt n s substr).bind φ=jp n s substr φ:=by
  intros;unfold Nt jp;first | (simp only [ia,ba,iB,bB,oL,oX,nB,Option.bind_some]) | rfl
def Ot (n:Nat):Hint Out:={ live:=fun c=>[],run:=fun c=>none,xm:=fun c q=>none }
theorem VE (n:Nat):ya tys (fa Out (ji n)) (Ot n) n (aa Tryz.f118) 0:=⟨trivial,⟨trivial,⟨⟨trivial,⟨⟨trivial,trivial⟩,⟨trivial,⟨⟨trivial,trivial⟩,⟨trivial,⟨⟨trivial,trivial⟩,⟨trivial,⟨⟨trivial,trivial⟩,trivial⟩⟩⟩⟩⟩⟩⟩⟩,⟨trivial,⟨trivial,⟨trivial,⟨trivial,⟨trivial,⟨⟨iN (by kernel_rfl),⟨⟨trivial,⟨trivial,trivial⟩⟩,⟨⟨trivial,⟨⟨trivial,⟨⟨trivial,⟨⟨trivial,trivial⟩,trivial⟩⟩,trivial⟩⟩,trivial⟩⟩,⟨⟨trivial,⟨⟨trivial,trivial⟩,trivial⟩⟩,⟨trivial,⟨trivial,⟨trivial,⟨⟨trivial,⟨⟨trivial,⟨⟨trivial,trivial⟩,trivial⟩⟩,⟨trivial,trivial⟩⟩⟩,⟨trivial,⟨⟨trivial,⟨⟨trivial,⟨⟨trivial,trivial⟩,trivial⟩⟩,⟨trivial,trivial⟩⟩⟩,trivial⟩⟩⟩⟩⟩⟩⟩⟩⟩⟩,⟨trivial,trivial⟩⟩⟩⟩⟩⟩⟩⟩⟩⟩
theorem wH (n:Nat):Enters Tryz.prog 118:=enters_of (c:=aa Tryz.f118) Tryz.func118 (by kernel_rfl) (by kernel_rfl)
def tA (n:Nat):Entry:=⟨118,nY (.pair .str (.pair .str .unit)) (.one (.int .i64)) (fun xs=>Nt n xs.1 xs.2.1),none,none⟩
theorem OJ (n:Nat):EntryOk Tryz.prog gl (tA n):=Ea (wH n) fun xs y h=>ma tys_ok (bj n) mixed (hint:=Ot n) (n:=n) Tryz.func118 (Ha (VE n)) (oa (φ:=(fun y=>some (Out.ret (Ub (.one (.int .i64)) y)))) (by kernel_rfl) (VM n xs.1 xs.2.1 _) h)
def mr (n:Nat):List Entry:=tA n::ji n
theorem wq (n:Nat):AllOk Tryz.prog gl (mr n):=.cons (OJ n) (bj n)
def Dp (n:Nat) {R:Type} (s substr:BA) (k:Int→Option R):Option R:=(Nt n s substr).bind fun v=>k v
def qg (n:Nat) (s substr:BA):Option Int:=Dp n s substr some
theorem qN (n:Nat) {S:Type}:∀ s substr (φ:_→Option S),(qg n s substr).bind φ=Dp n s substr φ:=by
  intros;unfold qg Dp;first | (simp only [ia,ba,iB,bB,oL,oX,nB,Option.bind_some]) | rfl
def Gu (n:Nat):Hint Out:={ live:=fun c=>[],run:=fun c=>none,xm:=fun c q=>none }
theorem DF (n:Nat):ya tys (fa Out (mr n)) (Gu n) n (aa Tryz.f127) 0:=pa (fun _=>rfl) _ _ (by kernel_rfl)
theorem dI (n:Nat):Enters Tryz.prog 127:=enters_of (c:=aa Tryz.f127) Tryz.func127 (by kernel_rfl) (by kernel_rfl)
def gB (n:Nat):Entry:=⟨127,nY (.pair .str (.pair .str .unit)) (.one (.int .i64)) (fun xs=>qg n xs.1 xs.2.1),none,none⟩
theorem jB (n:Nat):EntryOk Tryz.prog gl (gB n):=Ea (dI n) fun xs y h=>ma tys_ok (wq n) mixed (hint:=Gu n) (n:=n) Tryz.func127 (Ha (DF n)) (oa (φ:=(fun y=>some (Out.ret (Ub (.one (.int .i64)) y)))) (by kernel_rfl) (qN n xs.1 xs.2.1 _) h)
def Bi (n:Nat):List Entry:=gB n::mr n
theorem Hq (n:Nat):AllOk Tryz.prog gl (Bi n):=.cons (jB n) (wq n)
def bm (n:Nat) {R:Type} (s1 substr1:BA) (n0:Int) (kn:BA→BA→Int→Option R) (ko:Unit→Option R) (kr:(Int)→Option R) (kp:Int→Option R):Option R:=(qg n s1 substr1).bind fun v=>if (v==(-1:Int))=true then kr n0 else if 0≤(IntKind.wrap .i64 (v+(substr1.size:Int)))∧(IntKind.wrap .i64 (v+(substr1.size:Int)))≤(s1.size:Int) then kn (s1.extract (Int.toNat (IntKind.wrap .i64 (v+(substr1.size:Int)))) (Int.toNat (s1.size:Int))) substr1 (IntKind.wrap .i64 (n0+(1:Int))) else none
def Od (n:Nat):Nat→BA→BA→Int→Option (Lx Unit (Int))
 | 0,_,_,_=>none
 | m+1,s1,substr1,n0=>bm n s1 substr1 n0 (Od n m) (fun a=>some (.out a)) (fun a=>some (.ret a)) (fun p=>some (.pan p))
theorem BF (n m:Nat) {S:Type}:∀ s1 substr1 n0 (φ:_→Option S),(Od n (m+1) s1 substr1 n0).bind φ=bm n s1 substr1 n0 (fun s1 substr1 n0=>(Od n m s1 substr1 n0).bind φ) (fun a=>φ (.out a)) (fun a=>φ (.ret a)) (fun p=>φ (.pan p)):=by
  intros;first | (simp only [Od,bm,ia,ba,iB,bB,oL,oX,nB,Option.bind_some]) | rfl
def jk:List Sl:=.dat .str::.dat .str::.top::.top::.top::.dat (.int .i64)::tp 28 []
def ik:List RS:=[]
def Eu:List Sl:=tp 4 (.dat (.int .i64)::tp 29 [])
def Du:List RS:=[]
def Wc (K:XE→List AV→la→Option Out):Lx Unit (Int)→Option Out:=fun x=>iY x (fun _=>none) (fun a=>Jh Eu Du (a,()) () (K .ret)) (fun _=>none)
def Cp (n:Nat) {R:Type} (s substr:BA) (k:Int→Option R):Option R:=if ((substr.size:Int)==(0:Int))=true then none else if ((substr.size:Int)==(1:Int))=true then if 0≤(0:Int)∧(0:Int)<(substr.size:Int) then k ((Lib.countByte s.data.toList (Nat.toUInt8 (Int.toNat (bt substr (0:Int)))):Nat):Int) else none else (Od n n s substr (0:Int)).bind fun x_1=>iY x_1 (fun _=>none) (fun a_2=>k a_2) (fun _=>none)
def Bp (n:Nat) (s substr:BA):Option Int:=Cp n s substr some
theorem pN (n:Nat) {S:Type}:∀ s substr (φ:_→Option S),(Bp n s substr).bind φ=Cp n s substr φ:=by
  intros;unfold Bp Cp;first | (simp only [ia,ba,iB,bB,oL,oX,nB,Option.bind_some]) | rfl
def Ah (n:Nat):Hint Out:={ live:=fun c=>(cond (Nat.beq c 0) (lv [0,1,5]) []),run:=fun c=>(cond (Nat.beq c 0) (some (vp jk ik fun σ ρ K=>(Od n n σ.1 σ.2.1 σ.2.2.1).bind (Wc K))) none),xm:=fun c q=>(cond (Nat.beq c 1&&q.isNone) (some [(4,none)]) none) }
def zh (n:Nat) (K:XE→List AV→la→Option Out) (m:Nat) (s1:BA) (substr1:BA) (n0:Int):Option Out:=lf tys (fa Out (Bi n)) (Ah n) n (Da [1,1,1,1,0,0] (aa Tryz.f188)) 0 jk ik K m (s1,(substr1,(n0,()))) ()
theorem Cu (n:Nat) (K:XE→List AV→la→Option Out):∀ (m:Nat) s1 substr1 n0,zh n K m s1 substr1 n0=(Od n m s1 substr1 n0).bind (Wc K)
  | 0,_,_,_=>by kernel_rfl
  | m+1,s1,substr1,n0=>by
    have h1:zh n K (m+1) s1 substr1 n0=bm n s1 substr1 n0 (zh n K m) (fun a=>Wc K (.out a)) (fun a=>Wc K (.ret a)) (fun p=>Wc K (.pan p)):=by kernel_rfl
    have h2:zh n K m=fun s1 substr1 n0=>(Od n m s1 substr1 n0).bind (Wc K):=by
      repeat (refine funext fun _=>?_)
      exact Cu n K m _ _ _
    rw [h1,h2];exact (BF n m _ _ _ (Wc K)).symm
theorem bD (n:Nat):le tys (fa Out (Bi n)) (Ah n) n (Da [1,1,1,1,0,0] (aa Tryz.f188)) 0:=Oa (sp:=jk) (rp:=ik) (by kernel_rfl) fun K σ ρ=>Cu n K n σ.1 σ.2.1 σ.2.2.1
theorem CF (n:Nat):ya tys (fa Out (Bi n)) (Ah n) n (aa Tryz.f188) 0:=⟨trivial,⟨⟨trivial,⟨⟨trivial,trivial⟩,trivial⟩⟩,⟨⟨trivial,⟨⟨trivial,trivial⟩,trivial⟩⟩,⟨trivial,⟨bD n,⟨trivial,⟨⟨trivial,⟨⟨trivial,trivial⟩,trivial⟩⟩,⟨trivial,trivial⟩⟩⟩⟩⟩⟩⟩⟩
theorem cI (n:Nat):Enters Tryz.prog 188:=enters_of (c:=aa Tryz.f188) Tryz.func188 (by kernel_rfl) (by kernel_rfl)
def dB (n:Nat):Entry:=⟨188,nY (.pair .str (.pair .str .unit)) (.one (.int .i64)) (fun xs=>Bp n xs.1 xs.2.1),none,none⟩
theorem qK (n:Nat):EntryOk Tryz.prog gl (dB n):=Ea (cI n) fun xs y h=>ma tys_ok (Hq n) mixed (hint:=Ah n) (n:=n) Tryz.func188 (Ha (CF n)) (oa (φ:=(fun y=>some (Out.ret (Ub (.one (.int .i64)) y)))) (by kernel_rfl) (pN n xs.1 xs.2.1 _) h)
def yi (n:Nat):List Entry:=dB n::Bi n
theorem Gq (n:Nat):AllOk Tryz.prog gl (yi n):=.cons (qK n) (Hq n)
def pd (n:Nat) {R:Type} (s1 sep1:BA) (sepSave1 n01 i:Int) (a:(Sq BA)) (kn:BA→BA→Int→Int→Int→(Sq BA)→Option R) (ko:(BA×Int×(Sq BA))→Option R) (kr:Unit→Option R) (kp:Int→Option R):Option R:=if (decide (i<n01))=true then (qg n s1 sep1).bind fun v1=>if (decide (v1<(0:Int)))=true then ko (s1,i,a) else if 0≤(IntKind.wrap .i64 (v1+sepSave1))∧(IntKind.wrap .i64 (v1+sepSave1))≤(s1.size:Int) then if 0≤i∧i<(a.n:Int) then if 0≤(IntKind.wrap .i64 (v1+(sep1.size:Int)))∧(IntKind.wrap .i64 (v1+(sep1.size:Int)))≤(s1.size:Int) then kn (s1.extract (Int.toNat (IntKind.wrap .i64 (v1+(sep1.size:Int)))) (Int.toNat (s1.size:Int))) sep1 sepSave1 n01 (IntKind.wrap .i64 (i+(1:Int))) (⟨a.n,fun q=>if q=(Int.toNat i)∧q<a.n then (s1.extract (Int.toNat (0:Int)) (Int.toNat (IntKind.wrap .i64 (v1+sepSave1)))) else a.at' q⟩:Sq BA) else none else none else none else ko (s1,i,a)
def Ra (n:Nat):Nat→BA→BA→Int→Int→Int→(Sq BA)→Option (Lx (BA×Int×(Sq BA)) Unit)
 | 0,_,_,_,_,_,_=>none
 | m+1,s1,sep1,sepSave1,n01,i,a=>pd n s1 sep1 sepSave1 n01 i a (Ra n m) (fun a=>some (.out a)) (fun a=>some (.ret a)) (fun p=>some (.pan p))
theorem Jy (n m:Nat) {S:Type}:∀ s1 sep1 sepSave1 n01 i a (φ:_→Option S),(Ra n (m+1) s1 sep1 sepSave1 n01 i a).bind φ=pd n s1 sep1 sepSave1 n01 i a (fun s1 sep1 sepSave1 n01 i a=>(Ra n m s1 sep1 sepSave1 n01 i a).bind φ) (fun a=>φ (.out a)) (fun a=>φ (.ret a)) (fun p=>φ (.pan p)):=by
  intros;first | (simp only [Ra,pd,ia,ba,iB,bB,oL,oX,nB,Option.bind_some]) | rfl
def bg:List Sl:=.dat .str::.dat .str::.dat (.int .i64)::.dat (.int .i64)::tp 5 (.row 0::.dat (.int .i64)::tp 55 [])
def Zf:List RS:=[.row 9 1 .str false false]
def wo:List Sl:=.dat .str::tp 8 (.row 0::.dat (.int .i64)::tp 55 [])
def vo:List RS:=[.row 9 1 .str false false]
def Eb (K:XE→List AV→la→Option Out):Lx (BA×Int×(Sq BA)) Unit→Option Out:=fun x=>iY x (fun a=>Jh wo vo (a.1,(a.2.1,())) (a.2.2,()) (K (.exit 0))) (fun _=>none) (fun _=>none)
def Bh (n:Nat) {R:Type} (s sep:BA) (sepSave n0:Int) (k:(Sq BA)→Option R):Option R:=if (n0==(0:Int))=true then k (⟨0,fun _=>ua .str⟩:Sq BA) else if (sep.toList==(⟨#[]⟩:BA).toList)=true then none else if (decide (n0<(0:Int)))=true then (Bp n s sep).bind fun v=>if 0≤(if (IntKind.wrap .i64 ((s.size:Int)+(1:Int)))<(IntKind.wrap .i64 (v+(1:Int))) then (IntKind.wrap .i64 ((s.size:Int)+(1:Int))) else (IntKind.wrap .i64 (v+(1:Int))))∧(if (IntKind.wrap .i64 ((s.size:Int)+(1:Int)))<(IntKind.wrap .i64 (v+(1:Int))) then (IntKind.wrap .i64 ((s.size:Int)+(1:Int))) else (IntKind.wrap .i64 (v+(1:Int))))≤(if (IntKind.wrap .i64 ((s.size:Int)+(1:Int)))<(IntKind.wrap .i64 (v+(1:Int))) then (IntKind.wrap .i64 ((s.size:Int)+(1:Int))) else (IntKind.wrap .i64 (v+(1:Int)))) then if db (Int.toNat (if (IntKind.wrap .i64 ((s.size:Int)+(1:Int)))<(IntKind.wrap .i64 (v+(1:Int))) then (IntKind.wrap .i64 ((s.size:Int)+(1:Int))) else (IntKind.wrap .i64 (v+(1:Int))))) 16=true then (Ra n n s sep sepSave (IntKind.wrap .i64 ((if (IntKind.wrap .i64 ((s.size:Int)+(1:Int)))<(IntKind.wrap .i64 (v+(1:Int))) then (IntKind.wrap .i64 ((s.size:Int)+(1:Int))) else (IntKind.wrap .i64 (v+(1:Int)))) - (1:Int))) (0:Int) (⟨(Int.toNat (if (IntKind.wrap .i64 ((s.size:Int)+(1:Int)))<(IntKind.wrap .i64 (v+(1:Int))) then (IntKind.wrap .i64 ((s.size:Int)+(1:Int))) else (IntKind.wrap .i64 (v+(1:Int))))),fun _=>(⟨#[]⟩:BA)⟩:Sq BA)).bind fun x_1=>iY x_1
 (fun a_2=>if 0≤a_2.2.1∧a_2.2.1<(a_2.2.2.n:Int) then if 0≤(IntKind.wrap .i64 (a_2.2.1+(1:Int)))∧(IntKind.wrap .i64 (a_2.2.1+(1:Int)))≤(a_2.2.2.n:Int) then k (⟨((Int.toNat (IntKind.wrap .i64 (a_2.2.1+(1:Int)))) - (Int.toNat (0:Int))),fun i=>(fun q=>if q=(Int.toNat a_2.2.1)∧q<a_2.2.2.n then a_2.1 else a_2.2.2.at' q) ((Int.toNat (0:Int))+i)⟩:Sq BA) else none else none) (fun _=>none) (fun _=>none) else none else none else if 0≤(if (IntKind.wrap .i64 ((s.size:Int)+(1:Int)))<n0 then (IntKind.wrap .i64 ((s.size:Int)+(1:Int))) else n0)∧(if (IntKind.wrap .i64 ((s.size:Int)+(1:Int)))<n0 then (IntKind.wrap .i64 ((s.size:Int)+(1:Int))) else n0)≤(if (IntKind.wrap .i64 ((s.size:Int)+(1:Int)))<n0 then (IntKind.wrap .i64 ((s.size:Int)+(1:Int))) else n0) then if db (Int.toNat (if (IntKind.wrap .i64 ((s.size:Int)+(1:Int)))<n0 then (IntKind.wrap .i64 ((s.size:Int)+(1:Int))) else n0)) 16=true then (Ra n n s sep sepSave (IntKind.wrap .i64 ((if (IntKind.wrap .i64 ((s.size:Int)+(1:Int)))<n0 then (IntKind.wrap .i64 ((s.size:Int)+(1:Int))) else n0) - (1:Int))) (0:Int) (⟨(Int.toNat (if (IntKind.wrap .i64 ((s.size:Int)+(1:Int)))<n0 then (IntKind.wrap .i64 ((s.size:Int)+(1:Int))) else n0)),fun _=>(⟨#[]⟩:BA)⟩:Sq BA)).bind fun x_3=>iY x_3 (fun a_4=>if 0≤a_4.2.1∧a_4.2.1<(a_4.2.2.n:Int) then if 0≤(IntKind.wrap .i64 (a_4.2.1+(1:Int)))∧(IntKind.wrap .i64 (a_4.2.1+(1:Int)))≤(a_4.2.2.n:Int) then
 k (⟨((Int.toNat (IntKind.wrap .i64 (a_4.2.1+(1:Int)))) - (Int.toNat (0:Int))),fun i=>(fun q=>if q=(Int.toNat a_4.2.1)∧q<a_4.2.2.n then a_4.1 else a_4.2.2.at' q) ((Int.toNat (0:Int))+i)⟩:Sq BA) else none else none) (fun _=>none) (fun _=>none) else none else none
def Ei (n:Nat) (s sep:BA) (sepSave n0:Int):Option (Sq BA):=Bh n s sep sepSave n0 some
theorem FF (n:Nat) {S:Type}:∀ s sep sepSave n0 (φ:_→Option S),(Ei n s sep sepSave n0).bind φ=Bh n s sep sepSave n0 φ:=by
  intros;unfold Ei Bh;first | (simp only [ia,ba,iB,bB,oL,oX,nB,Option.bind_some]) | rfl
def Ce (n:Nat):Hint Out:={ live:=fun c=>(cond (Nat.beq c 0) [(0,none),(1,none),(2,none),(3,none),(9,some (.sl .str)),(10,none)] []),run:=fun c=>(cond (Nat.beq c 0) (some (vp bg Zf fun σ ρ K=>(Ra n n σ.1 σ.2.1 σ.2.2.1 σ.2.2.2.1 σ.2.2.2.2.1 ρ.1).bind (Eb K))) none),xm:=fun c q=>(cond (Nat.beq c 0&&Nat.beq (q.getD 1000000) 0&&q.isSome) (some [(0,none),(9,some (.sl .str)),(10,none)]) (cond (Nat.beq c 1&&Nat.beq (q.getD 1000000) 0&&q.isSome) (some [(0,none),(9,some (.sl .str)),(10,none)]) none)) }
def Be (n:Nat) (K:XE→List AV→la→Option Out) (m:Nat) (s1:BA) (sep1:BA) (sepSave1:Int) (n01:Int) (i:Int) (a:(Sq BA)):Option Out:=lf tys (fa Out (yi n)) (Ce n) n (Da [1,1,1,1,1,1,1,1,0,0,0] (aa Tryz.f168)) 0 bg Zf K m (s1,(sep1,(sepSave1,(n01,(i,()))))) (a,())
theorem Fm (n:Nat) (K:XE→List AV→la→Option Out):∀ (m:Nat) s1 sep1 sepSave1 n01 i a,Be n K m s1 sep1 sepSave1 n01 i a=(Ra n m s1 sep1 sepSave1 n01 i a).bind (Eb K)
  | 0,_,_,_,_,_,_=>by kernel_rfl
  | m+1,s1,sep1,sepSave1,n01,i,a=>by
    have h1:Be n K (m+1) s1 sep1 sepSave1 n01 i a=pd n s1 sep1 sepSave1 n01 i a (Be n K m) (fun a=>Eb K (.out a)) (fun a=>Eb K (.ret a)) (fun p=>Eb K (.pan p)):=by kernel_rfl
    have h2:Be n K m=fun s1 sep1 sepSave1 n01 i a=>(Ra n m s1 sep1 sepSave1 n01 i a).bind (Eb K):=by
      repeat (refine funext fun _=>?_)
      exact Fm n K m _ _ _ _ _ _
    rw [h1,h2];exact (Jy n m _ _ _ _ _ _ (Eb K)).symm
theorem Bw (n:Nat):le tys (fa Out (yi n)) (Ce n) n (Da [1,1,1,1,1,1,1,1,0,0,0] (aa Tryz.f168)) 0:=Oa (sp:=bg) (rp:=Zf) (by kernel_rfl) fun K σ ρ=>Fm n K n σ.1 σ.2.1 σ.2.2.1 σ.2.2.2.1 σ.2.2.2.2.1 ρ.1
theorem Ky (n:Nat):ya tys (fa Out (yi n)) (Ce n) n (aa Tryz.f168) 0:=⟨trivial,⟨⟨trivial,⟨⟨trivial,trivial⟩,trivial⟩⟩,⟨⟨trivial,⟨⟨trivial,trivial⟩,trivial⟩⟩,⟨⟨trivial,⟨trivial,trivial⟩⟩,⟨trivial,⟨trivial,⟨trivial,⟨trivial,⟨⟨Bw n,⟨⟨trivial,⟨trivial,trivial⟩⟩,⟨trivial,⟨⟨trivial,⟨trivial,trivial⟩⟩,⟨trivial,⟨trivial,trivial⟩⟩⟩⟩⟩⟩,⟨trivial,⟨trivial,trivial⟩⟩⟩⟩⟩⟩⟩⟩⟩⟩⟩
theorem oB (n:Nat):Enters Tryz.prog 168:=enters_of (c:=aa Tryz.f168) Tryz.func168 (by kernel_rfl) (by kernel_rfl)
def Iq (n:Nat):Entry:=⟨168,nY K6 (.one (.sl .str)) (fun xs=>Ei n xs.1 xs.2.1 xs.2.2.1 xs.2.2.2.1),none,none⟩
theorem gD (n:Nat):EntryOk Tryz.prog gl (Iq n):=Ea (oB n) fun xs y h=>ma tys_ok (Gq n) mixed (hint:=Ce n) (n:=n) Tryz.func168 (Ha (Ky n)) (oa (φ:=(fun y=>some (Out.ret (Ub (.one (.sl .str)) y)))) (by kernel_rfl) (FF n xs.1 xs.2.1 xs.2.2.1 xs.2.2.2.1 _) h)
def lk (n:Nat):List Entry:=Iq n::yi n
theorem cl (n:Nat):AllOk Tryz.prog gl (lk n):=.cons (gD n) (Gq n)
def Fp (n:Nat) {R:Type} (s sep:BA) (k:(Sq BA)→Option R):Option R:=(Ei n s sep (0:Int) (-1:Int)).bind fun v=>k v
def Ep (n:Nat) (s sep:BA):Option (Sq BA):=Fp n s sep some
theorem rN (n:Nat) {S:Type}:∀ s sep (φ:_→Option S),(Ep n s sep).bind φ=Fp n s sep φ:=by
  intros;unfold Ep Fp;first | (simp only [ia,ba,iB,bB,oL,oX,nB,Option.bind_some]) | rfl
def Iu (n:Nat):Hint Out:={ live:=fun c=>[],run:=fun c=>none,xm:=fun c q=>none }
theorem EF (n:Nat):ya tys (fa Out (lk n)) (Iu n) n (aa Tryz.f151) 0:=pa (fun _=>rfl) _ _ (by kernel_rfl)
theorem eI (n:Nat):Enters Tryz.prog 151:=enters_of (c:=aa Tryz.f151) Tryz.func151 (by kernel_rfl) (by kernel_rfl)
def kB (n:Nat):Entry:=⟨151,nY (.pair .str (.pair .str .unit)) (.one (.sl .str)) (fun xs=>Ep n xs.1 xs.2.1),none,none⟩
theorem rK (n:Nat):EntryOk Tryz.prog gl (kB n):=Ea (eI n) fun xs y h=>ma tys_ok (cl n) mixed (hint:=Iu n) (n:=n) Tryz.func151 (Ha (EF n)) (oa (φ:=(fun y=>some (Out.ret (Ub (.one (.sl .str)) y)))) (by kernel_rfl) (rN n xs.1 xs.2.1 _) h)
def lB (n:Nat):List Entry:=kB n::lk n
theorem fD (n:Nat):AllOk Tryz.prog gl (lB n):=.cons (rK n) (cl n)
def xo (n:Nat):List Entry:=⟨152,fun {R}=>jP (R:=R) 208,none,none⟩::lB n
theorem Ku (n:Nat):AllOk Tryz.prog gl (xo n):=.cons nS (fD n)
def Pd (n:Nat):List Entry:=⟨87,nY (.pair (.int .i64) .unit) (.one .str) (fun xs=>TO xs.1),none,none⟩::xo n
theorem zj (n:Nat):AllOk Tryz.prog gl (Pd n):=.cons PS (Ku n)
def Ud (n:Nat) {R:Type} (l t10:(Sq BA)) (t11 t12:Int) (kn:(Sq BA)→(Sq BA)→Int→Int→Option R) (ko:((Sq BA))→Option R) (kr:(Bool)→Option R) (kp:Int→Option R):Option R:=if (decide (t12<t11))=true then if 0≤t12∧t12<(t10.n:Int) then (kQ (t10.at' (Int.toNat t12))).bind fun v1=>if v1.2=true then if (decide (v1.1<(0:Int)))=false then if (decide (v1.1>(255:Int)))=false then (TO v1.1).bind fun v2=>if (!(v2.toList==(t10.at' (Int.toNat t12)).toList))=true then kr false else kn l t10 t11 (IntKind.wrap .i64 (t12+(1:Int))) else kr false else kr false else kr false else none else ko l
def fb (n:Nat):Nat→(Sq BA)→(Sq BA)→Int→Int→Option (Lx ((Sq BA)) (Bool))
 | 0,_,_,_,_=>none
 | m+1,l,t10,t11,t12=>Ud n l t10 t11 t12 (fb n m) (fun a=>some (.out a)) (fun a=>some (.ret a)) (fun p=>some (.pan p))
theorem zz (n m:Nat) {S:Type}:∀ l t10 t11 t12 (φ:_→Option S),(fb n (m+1) l t10 t11 t12).bind φ=Ud n l t10 t11 t12 (fun l t10 t11 t12=>(fb n m l t10 t11 t12).bind φ) (fun a=>φ (.out a)) (fun a=>φ (.ret a)) (fun p=>φ (.pan p)):=by
  intros;first | (simp only [fb,Ud,ia,ba,iB,bB,oL,oX,nB,Option.bind_some]) | rfl
def Hg:List Sl:=.top::.top::.top::.dat (.sl .str)::tp 6 (.dat (.sl .str)::.dat (.int .i64)::.dat (.int .i64)::tp 28 [])
def Gg:List RS:=[]
def Lp:List Sl:=.top::.top::.top::.dat (.sl .str)::tp 37 []
def Kp:List RS:=[]
def Np:List Sl:=.top::.top::.dat .bool::tp 38 []
def Mp:List RS:=[]
def Mb (K:XE→List AV→la→Option Out):Lx ((Sq BA)) (Bool)→Option Out:=fun x=>iY x (fun a=>Jh Lp Kp (a,()) () (K (.exit 0))) (fun a=>Jh Np Mp (a,()) () (K .ret)) (fun _=>none)
def Qi (n:Nat) {R:Type} (s:BA) (k:Bool→Option R):Option R:=(Ep n s (⟨#[46]⟩:BA)).bind fun v=>(fb n n v v (v.n:Int) (0:Int)).bind fun x_1=>iY x_1 (fun a_2=>k ((a_2.n:Int)==(4:Int))) (fun a_3=>k a_3) (fun _=>none)
def Mf (n:Nat) (s:BA):Option Bool:=Qi n s some
theorem rG (n:Nat) {S:Type}:∀ s (φ:_→Option S),(Mf n s).bind φ=Qi n s φ:=by
  intros;unfold Mf Qi;first | (simp only [ia,ba,iB,bB,oL,oX,nB,Option.bind_some]) | rfl
def df (n:Nat):Hint Out:={ live:=fun c=>(cond (Nat.beq c 0) [(3,some (.sl .str)),(10,some (.sl .str)),(11,none),(12,none)] []),run:=fun c=>(cond (Nat.beq c 0) (some (vp Hg Gg fun σ ρ K=>(fb n n σ.1 σ.2.1 σ.2.2.1 σ.2.2.2.1).bind (Mb K))) none),xm:=fun c q=>(cond (Nat.beq c 0&&Nat.beq (q.getD 1000000) 0&&q.isSome) (some [(3,some (.sl .str))]) (cond (Nat.beq c 1&&q.isNone) (some [(2,none)]) none)) }
def cf (n:Nat) (K:XE→List AV→la→Option Out) (m:Nat) (l:(Sq BA)) (t10:(Sq BA)) (t11:Int) (t12:Int):Option Out:=lf tys (fa Out (Pd n)) (df n) n (Da [1,1,0,1,0,0] (aa Tryz.f129)) 0 Hg Gg K m (l,(t10,(t11,(t12,())))) ()
theorem Um (n:Nat) (K:XE→List AV→la→Option Out):∀ (m:Nat) l t10 t11 t12,cf n K m l t10 t11 t12=(fb n m l t10 t11 t12).bind (Mb K)
  | 0,_,_,_,_=>by kernel_rfl
  | m+1,l,t10,t11,t12=>by
    have h1:cf n K (m+1) l t10 t11 t12=Ud n l t10 t11 t12 (cf n K m) (fun a=>Mb K (.out a)) (fun a=>Mb K (.ret a)) (fun p=>Mb K (.pan p)):=by kernel_rfl
    have h2:cf n K m=fun l t10 t11 t12=>(fb n m l t10 t11 t12).bind (Mb K):=by
      repeat (refine funext fun _=>?_)
      exact Um n K m _ _ _ _
    rw [h1,h2];exact (zz n m _ _ _ _ (Mb K)).symm
theorem Vx (n:Nat):le tys (fa Out (Pd n)) (df n) n (Da [1,1,0,1,0,0] (aa Tryz.f129)) 0:=Oa (sp:=Hg) (rp:=Gg) (by kernel_rfl) fun K σ ρ=>Um n K n σ.1 σ.2.1 σ.2.2.1 σ.2.2.2.1
theorem Az (n:Nat):ya tys (fa Out (Pd n)) (df n) n (aa Tryz.f129) 0:=⟨trivial,⟨trivial,⟨⟨trivial,⟨Vx n,⟨trivial,⟨⟨trivial,trivial⟩,⟨⟨trivial,⟨trivial,⟨trivial,⟨⟨trivial,trivial⟩,trivial⟩⟩⟩⟩,trivial⟩⟩⟩⟩⟩,⟨trivial,trivial⟩⟩⟩⟩
theorem fC (n:Nat):Enters Tryz.prog 129:=enters_of (c:=aa Tryz.f129) Tryz.func129 (by kernel_rfl) (by kernel_rfl)
def Gs (n:Nat):Entry:=⟨129,nY (.pair .str .unit) (.one .bool) (fun xs=>Mf n xs.1),none,none⟩
theorem Hs (n:Nat):EntryOk Tryz.prog gl (Gs n):=Ea (fC n) fun xs y h=>ma tys_ok (zj n) mixed (hint:=df n) (n:=n) Tryz.func129 (Ha (Az n)) (oa (φ:=(fun y=>some (Out.ret (Ub (.one .bool) y)))) (by kernel_rfl) (rG n xs.1 _) h)
def Bl (n:Nat):List Entry:=Gs n::Pd n
theorem tm (n:Nat):AllOk Tryz.prog gl (Bl n):=.cons (Hs n) (zj n)
def Ws (n:Nat) {R:Type} (c:Int) (k:Bool→Option R):Option R:=if (decide (c≥(97:Int)))=true then if (decide (c≤(122:Int)))=false then if (decide (c≥(48:Int)))=true then k (decide (c≤(57:Int))) else k false else k true else if (decide (c≥(48:Int)))=true then k (decide (c≤(57:Int))) else k false
def Tq (n:Nat) (c:Int):Option Bool:=Ws n c some
theorem fO (n:Nat) {S:Type}:∀ c (φ:_→Option S),(Tq n c).bind φ=Ws n c φ:=by
  intros;unfold Tq Ws;first | (simp only [ia,ba,iB,bB,oL,oX,nB,Option.bind_some]) | rfl
def Yw (n:Nat):Hint Out:={ live:=fun c=>[],run:=fun c=>none,xm:=fun c q=>none }
theorem yG (n:Nat):ya tys (fa Out (Bl n)) (Yw n) n (aa Tryz.f154) 0:=pa (fun _=>rfl) _ _ (by kernel_rfl)
theorem dJ (n:Nat):Enters Tryz.prog 154:=enters_of (c:=aa Tryz.f154) Tryz.func154 (by kernel_rfl) (by kernel_rfl)
def sD (n:Nat):Entry:=⟨154,nY (.pair (.int .u8) .unit) (.one .bool) (fun xs=>Tq n xs.1),none,none⟩
theorem vM (n:Nat):EntryOk Tryz.prog gl (sD n):=Ea (dJ n) fun xs y h=>ma tys_ok (tm n) mixed (hint:=Yw n) (n:=n) Tryz.func154 (Ha (yG n)) (oa (φ:=(fun y=>some (Out.ret (Ub (.one .bool) y)))) (by kernel_rfl) (fO n xs.1 _) h)
def zk (n:Nat):List Entry:=sD n::Bl n
theorem Xs (n:Nat):AllOk Tryz.prog gl (zk n):=.cons (vM n) (tm n)
def Lf (n:Nat) {R:Type} (s1:BA) (t5 t6:Int) (kn:BA→Int→Int→Option R) (ko:(BA)→Option R) (kr:(Bool)→Option R) (kp:Int→Option R):Option R:=if (decide (t6<t5))=true then if 0≤t6∧t6<(s1.size:Int) then (Tq n (bt s1 t6)).bind fun v=>if (!v)=true then if 0≤t6∧t6<(s1.size:Int) then if ((bt s1 t6) !=(45:Int))=false then if (t6==(0:Int))=false then if (t6==(IntKind.wrap .i64 ((s1.size:Int) - (1:Int))))=true then kr false else kn s1 t5 (IntKind.wrap .i64 (t6+(1:Int))) else kr false else kr false else none else kn s1 t5 (IntKind.wrap .i64 (t6+(1:Int))) else none else ko s1
def Lb (n:Nat):Nat→BA→Int→Int→Option (Lx (BA) (Bool))
 | 0,_,_,_=>none
 | m+1,s1,t5,t6=>Lf n s1 t5 t6 (Lb n m) (fun a=>some (.out a)) (fun a=>some (.ret a)) (fun p=>some (.pan p))
theorem kE (n m:Nat) {S:Type}:∀ s1 t5 t6 (φ:_→Option S),(Lb n (m+1) s1 t5 t6).bind φ=Lf n s1 t5 t6 (fun s1 t5 t6=>(Lb n m s1 t5 t6).bind φ) (fun a=>φ (.out a)) (fun a=>φ (.ret a)) (fun p=>φ (.pan p)):=by
  intros;first | (simp only [Lb,Lf,ia,ba,iB,bB,oL,oX,nB,Option.bind_some]) | rfl
def Jj:List Sl:=.dat .str::tp 4 (.dat (.int .i64)::.dat (.int .i64)::tp 33 [])
def Ij:List RS:=[]
def Ds:List Sl:=.dat .str::tp 39 []
def Cs:List RS:=[]
def Fs:List Sl:=.top::.top::.dat .bool::tp 37 []
def Es:List RS:=[]
def Ic (K:XE→List AV→la→Option Out):Lx (BA) (Bool)→Option Out:=fun x=>iY x (fun a=>Jh Ds Cs (a,()) () (K (.exit 0))) (fun a=>Jh Fs Es (a,()) () (K .ret)) (fun _=>none)
def Ro (n:Nat) {R:Type} (s:BA) (k:Bool→Option R):Option R:=(Lb n n s (s.size:Int) (0:Int)).bind fun x_1=>iY x_1 (fun a_2=>if (decide ((a_2.size:Int)≥(1:Int)))=true then k (decide ((a_2.size:Int)≤(63:Int))) else k false) (fun a_3=>k a_3) (fun _=>none)
def Pi (n:Nat) (s:BA):Option Bool:=Ro n s some
theorem qM (n:Nat) {S:Type}:∀ s (φ:_→Option S),(Pi n s).bind φ=Ro n s φ:=by
  intros;unfold Pi Ro;first | (simp only [ia,ba,iB,bB,oL,oX,nB,Option.bind_some]) | rfl
def eh (n:Nat):Hint Out:={ live:=fun c=>(cond (Nat.beq c 0) (lv [0,5,6]) []),run:=fun c=>(cond (Nat.beq c 0) (some (vp Jj Ij fun σ ρ K=>(Lb n n σ.1 σ.2.1 σ.2.2.1).bind (Ic K))) none),xm:=fun c q=>(cond (Nat.beq c 0&&Nat.beq (q.getD 1000000) 0&&q.isSome) (some [(0,none)]) (cond (Nat.beq c 1&&q.isNone) (some [(2,none)]) none)) }
def dh (n:Nat) (K:XE→List AV→la→Option Out) (m:Nat) (s1:BA) (t5:Int) (t6:Int):Option Out:=lf tys (fa Out (zk n)) (eh n) n (Da [1,0,1,0,0] (aa Tryz.f131)) 0 Jj Ij K m (s1,(t5,(t6,()))) ()
theorem Bs (n:Nat) (K:XE→List AV→la→Option Out):∀ (m:Nat) s1 t5 t6,dh n K m s1 t5 t6=(Lb n m s1 t5 t6).bind (Ic K)
  | 0,_,_,_=>by kernel_rfl
  | m+1,s1,t5,t6=>by
    have h1:dh n K (m+1) s1 t5 t6=Lf n s1 t5 t6 (dh n K m) (fun a=>Ic K (.out a)) (fun a=>Ic K (.ret a)) (fun p=>Ic K (.pan p)):=by kernel_rfl
    have h2:dh n K m=fun s1 t5 t6=>(Lb n m s1 t5 t6).bind (Ic K):=by
      repeat (refine funext fun _=>?_)
      exact Bs n K m _ _ _
    rw [h1,h2];exact (kE n m _ _ _ (Ic K)).symm
theorem dC (n:Nat):le tys (fa Out (zk n)) (eh n) n (Da [1,0,1,0,0] (aa Tryz.f131)) 0:=Oa (sp:=Jj) (rp:=Ij) (by kernel_rfl) fun K σ ρ=>Bs n K n σ.1 σ.2.1 σ.2.2.1
theorem lE (n:Nat):ya tys (fa Out (zk n)) (eh n) n (aa Tryz.f131) 0:=⟨trivial,⟨⟨trivial,⟨dC n,⟨trivial,⟨⟨trivial,trivial⟩,⟨⟨trivial,⟨trivial,⟨⟨trivial,trivial⟩,trivial⟩⟩⟩,trivial⟩⟩⟩⟩⟩,⟨trivial,trivial⟩⟩⟩
theorem qG (n:Nat):Enters Tryz.prog 131:=enters_of (c:=aa Tryz.f131) Tryz.func131 (by kernel_rfl) (by kernel_rfl)
def wz (n:Nat):Entry:=⟨131,nY (.pair .str .unit) (.one .bool) (fun xs=>Pi n xs.1),none,none⟩
theorem yz (n:Nat):EntryOk Tryz.prog gl (wz n):=Ea (qG n) fun xs y h=>ma tys_ok (Xs n) mixed (hint:=eh n) (n:=n) Tryz.func131 (Ha (lE n)) (oa (φ:=(fun y=>some (Out.ret (Ub (.one .bool) y)))) (by kernel_rfl) (qM n xs.1 _) h)
def xz (n:Nat):List Entry:=wz n::zk n
theorem eC (n:Nat):AllOk Tryz.prog gl (xz n):=.cons (yz n) (Xs n)
def wb (n:Nat) (s:BA):Option Bool:=(Ac n s).bind fun b=>if b=true then (Fc n s ⟨#[93]⟩).bind fun c=>if c=true then (if 2≤(s.size:Int)∧(s.size:Int)≤9223372036854775807 then Mf n (s.extract 1 (s.size - 1)) else none) else some false else Dom.domT (fun x=>qg n x Dom.dot) (Pi n) n s
theorem ZB:Tryz.prog.funcs[103]?=some Tryz.f103:=by kernel_rfl
theorem aC (n:Nat):EntryOk Tryz.prog gl ⟨103,nY (.pair .str .unit) (.one .bool) (fun xs=>wb n xs.1),none,none⟩:=Ea (enters_of (c:=aa Tryz.f103) ZB (by kernel_rfl) (by kernel_rfl)) fun xs y h=>by
  refine bz (args:=[.string xs.1]) (v:=.bool y) (fun w0 hg hn=>?_)
  have hlit:∀ b,Ac n xs.1=some b→∀ (w:World),Below w0.heap.size w0 w→Calls Tryz.prog 128 #[.string xs.1] w fun e w'=>e=.returned (.bool b)∧Below w.heap.size w w':=fun b hb' w hb=>
    Jt (Rm n) (args:=[.string xs.1]) (v:=.bool b) (by show (Ac n xs.1).bind _=_;rw [hb'];rfl) hg hn hb
  have hsuf:∀ b,Fc n xs.1 ⟨#[93]⟩=some b→∀ (w:World),Below w0.heap.size w0 w→Calls Tryz.prog 59 #[.string xs.1,.string ⟨#[93]⟩] w fun e w'=>e=.returned (.bool b)∧Below w.heap.size w w':=fun b hb' w hb=>
    Jt (qo n) (args:=[.string xs.1,.string ⟨#[93]⟩]) (v:=.bool b) (by show (Fc n xs.1 ⟨#[93]⟩).bind _=_;rw [hb'];rfl) hg hn hb
  unfold wb at h
  obtain ⟨b,hb,h⟩:=Option.bind_eq_some_iff.1 h
  cases b with
  | true=>
    rw [if_pos rfl] at h
    obtain ⟨c,hc,h⟩:=Option.bind_eq_some_iff.1 h
    refine Dom.dom2 xs.1 c y w0 (hlit true hb) (hsuf c hc) (fun hc'=>?_) (fun hc'=>?_)
    · rw [if_pos hc'] at h
      split at h
      · rename_i hsz
        exact ⟨hsz,fun w hbw=>Jt (Hs n) (args:=[.string (xs.1.extract 1 (xs.1.size - 1))]) (v:=.bool y) (by show (Mf n (xs.1.extract 1 (xs.1.size - 1))).bind _=_;rw [h];rfl) hg hn hbw⟩
      · cases h
    · rw [if_neg (by rw [hc'];simp)] at h
      exact (Option.some.inj h).symm
  | false=>
    rw [if_neg (by simp)] at h
    exact Dom.dom1 _ _ n xs.1 y w0 (fun x i w hbw hx=>Jt (jB n) (args:=[.string x,.string Dom.dot]) (v:=.int .i64 i) (by show (qg n x Dom.dot).bind _=_;rw [hx];rfl) hg hn hbw)
      (fun x i w hbw hx=>Jt (yz n) (args:=[.string x]) (v:=.bool i) (by show (Pi n x).bind _=_;rw [hx];rfl) hg hn hbw) (hlit false hb) h
def Hj (n:Nat):List Entry:=⟨103,nY (.pair .str .unit) (.one .bool) (fun xs=>wb n xs.1),none,none⟩::xz n
theorem wk (n:Nat):AllOk Tryz.prog gl (Hj n):=.cons (aC n) (eC n)
def zt (n:Nat) {R:Type} (s:BA) (k:Bool→Option R):Option R:=if (decide ((s.size:Int)≤(200:Int)))=true then (wb n s).bind fun v=>k v else k false
def Fe (n:Nat) (s:BA):Option Bool:=zt n s some
theorem pO (n:Nat) {S:Type}:∀ s (φ:_→Option S),(Fe n s).bind φ=zt n s φ:=by
  intros;unfold Fe zt;first | (simp only [ia,ba,iB,bB,oL,oX,nB,Option.bind_some]) | rfl
def ox (n:Nat):Hint Out:={ live:=fun c=>[],run:=fun c=>none,xm:=fun c q=>none }
theorem UG (n:Nat):ya tys (fa Out (Hj n)) (ox n) n (aa Tryz.f74) 0:=pa (fun _=>rfl) _ _ (by kernel_rfl)
theorem tJ (n:Nat):Enters Tryz.prog 74:=enters_of (c:=aa Tryz.f74) Tryz.func74 (by kernel_rfl) (by kernel_rfl)
def zD (n:Nat):Entry:=⟨74,nY (.pair .str .unit) (.one .bool) (fun xs=>Fe n xs.1),none,none⟩
theorem FM (n:Nat):EntryOk Tryz.prog gl (zD n):=Ea (tJ n) fun xs y h=>ma tys_ok (wk n) mixed (hint:=ox n) (n:=n) Tryz.func74 (Ha (UG n)) (oa (φ:=(fun y=>some (Out.ret (Ub (.one .bool) y)))) (by kernel_rfl) (pO n xs.1 _) h)
def Gv (n:Nat):List Entry:=zD n::Hj n
theorem At (n:Nat):AllOk Tryz.prog gl (Gv n):=.cons (FM n) (wk n)
def Zy (n:Nat) {R:Type} (m0:U0) (k:BA→Option R):Option R:=if Af m0.1 (⟨#[64]⟩:BA)=true then if Af (m0.1++(⟨#[64]⟩:BA)) m0.2.1=true then k ((m0.1++(⟨#[64]⟩:BA))++m0.2.1) else none else none
def mD (n:Nat) (m0:U0):Option BA:=Zy n m0 some
theorem iQ (n:Nat) {S:Type}:∀ m0 (φ:_→Option S),(mD n m0).bind φ=Zy n m0 φ:=by
  intros;unfold mD Zy;first | (simp only [ia,ba,iB,bB,oL,oX,nB,Option.bind_some]) | rfl
def rz (n:Nat):Hint Out:={ live:=fun c=>[],run:=fun c=>none,xm:=fun c q=>none }
theorem TI (n:Nat):ya tys (fa Out (Gv n)) (rz n) n (aa Tryz.f97) 0:=pa (fun _=>rfl) _ _ (by kernel_rfl)
theorem kM (n:Nat):Enters Tryz.prog 97:=enters_of (c:=aa Tryz.f97) Tryz.func97 (by kernel_rfl) (by kernel_rfl)
def lG (n:Nat):Entry:=⟨97,nY (.pair (.pair .str (.pair .str .unit)) .unit) (.one .str) (fun xs=>mD n xs.1),none,none⟩
theorem bO (n:Nat):EntryOk Tryz.prog gl (lG n):=Ea (kM n) fun xs y h=>ma tys_ok (At n) mixed (hint:=rz n) (n:=n) Tryz.func97 (Ha (TI n)) (oa (φ:=(fun y=>some (Out.ret (Ub (.one .str) y)))) (by kernel_rfl) (iQ n xs.1 _) h)
def qz (n:Nat):List Entry:=lG n::Gv n
theorem Sm (n:Nat):AllOk Tryz.prog gl (qz n):=.cons (bO n) (At n)
def Ks (n:Nat) {R:Type} (ok:Bool) (k:(Unit)→Option R) (kp:Int→Option R):Option R:=if (!ok)=true then kp (8:Int) else k ()
def Wa (n:Nat) (ok:Bool):Option (Except Int (Unit)):=Ks n ok (fun y=>some (.ok y)) (fun p=>some (.error p))
theorem tG (n:Nat) {S:Type}:∀ ok (φ:_→Option S),(Wa n ok).bind φ=Ks n ok (fun y=>φ (.ok y)) (fun p=>φ (.error p)):=by
  intros;unfold Wa Ks;first | (simp only [ia,ba,iB,bB,oL,oX,nB,Option.bind_some]) | rfl
def Vm (n:Nat):Hint Out:={ live:=fun c=>[],run:=fun c=>none,xm:=fun c q=>none }
theorem Vw (n:Nat):ya tys (fa Out (qz n)) (Vm n) n (aa Tryz.f167) 0:=pa (fun _=>rfl) _ _ (by kernel_rfl)
theorem ZI (n:Nat):Enters Tryz.prog 167:=enters_of (c:=aa Tryz.f167) Tryz.func167 (by kernel_rfl) (by kernel_rfl)
def qD (n:Nat):Entry:=⟨167,oY 184 (.pair .bool .unit) (.many .unit) (fun xs=>Wa n xs.1),none,none⟩
theorem rM (n:Nat):EntryOk Tryz.prog gl (qD n):=Ut (ZI n) (fun xs y h=>ma tys_ok (Sm n) mixed (hint:=Vm n) (n:=n) Tryz.func167 (Ha (Vw n)) (oa (φ:=(fun r=>jY r (fun p=>some (Out.pan (ge 184 p))) fun y=>some (Out.ret (Ub (.many .unit) y)))) (by kernel_rfl) (tG n xs.1 _) h)) (fun xs p h=>ma tys_ok (Sm n) mixed (hint:=Vm n) (n:=n) Tryz.func167 (Ha (Vw n)) (oa (φ:=(fun r=>jY r (fun p=>some (Out.pan (ge 184 p))) fun y=>some (Out.ret (Ub (.many .unit) y)))) (by kernel_rfl) (tG n xs.1 _) h))
def vv (n:Nat):List Entry:=qD n::qz n
theorem Ls (n:Nat):AllOk Tryz.prog gl (vv n):=.cons (rM n) (Sm n)
def ng (n:Nat) {R:Type} (k:(BA×Unit)→Option R):Option R:=if ((0:Nat):Int)=0 then k ((⟨#[]⟩:BA),()) else none
def Ze (n:Nat):Option (BA×Unit):=ng n some
theorem ZC (n:Nat) {S:Type}:∀ (φ:_→Option S),(Ze n).bind φ=ng n φ:=by
  intros;unfold Ze ng;first | (simp only [ia,ba,iB,bB,oL,oX,nB,Option.bind_some]) | rfl
def Uk (n:Nat):Hint OutS:={ live:=fun c=>[],run:=fun c=>none,xm:=fun c q=>none,sch:=fun c=>(cond (Nat.beq c 1) (some [(0,0),(1,0),(2,0),(5,0),(6,0),(7,0),(3,1),(8,1),(9,0),(4,3),(10,2),(11,0)]) none) }
theorem lw (n:Nat):ya tys (fa OutS (vv n)) (Uk n) n (aa Tryz.f88) 0:=pa (fun _=>rfl) _ _ (by kernel_rfl)
theorem uy (n:Nat):Enters Tryz.prog 88:=enters_of (c:=aa Tryz.f88) Tryz.func88 (by kernel_rfl) (by kernel_rfl)
def Zn:List RSp:=[.one (.ptr 0 0 0)]
def Yn:List RS:=[.box 126 2 true [.cn .nilp,.cn .nils]]
def wy:List Sl:=[.ptr 0 0 0]
def xy:List RSp:=[.one (.dat .str)]
def xe:List RS:=[.box 126 2 true [.cn .nilp,.cn .nils]]
def dk (y:(BA×Unit)):OutS:=⟨false,Nm (Je xe ((),())) wy (),RD (GC (Je xe ((),())) xy ((y.1,()),())),It (Je xe ((),())) xe ((),())⟩
theorem RA (n:Nat):EntryOk Tryz.prog gl ⟨88,Vj,none,some (tX Zn Yn (fun σ ρ=>Ze n) dk)⟩:=ai (uy n) fun σ ρ y h=>nc tys_ok (Ls n) mixed (hint:=Uk n) (n:=n) Tryz.func88 (Ha (lw n)) (oa (φ:=fun y=>some (dk y)) (by kernel_rfl) (ZC n _) h)
def Xn (n:Nat):List Entry:=⟨88,Vj,none,some (tX Zn Yn (fun σ ρ=>Ze n) dk)⟩::vv n
theorem tu (n:Nat):AllOk Tryz.prog gl (Xn n):=.cons (RA n) (Ls n)
theorem Lk:Tryz.prog.funcs[140]?=some Tryz.f140:=by kernel_rfl
theorem Mk:EntryOk Tryz.prog gl ⟨140,Vj,some .ident,none⟩:=OC Lk (by kernel_rfl) (by kernel_rfl) (by kernel_rfl) (by kernel_rfl)
def tc (n:Nat):List Entry:=⟨140,Vj,some .ident,none⟩::Xn n
theorem Hd (n:Nat):AllOk Tryz.prog gl (tc n):=.cons Mk (tu n)
def Vf (n:Nat) {R:Type} (k:Unit→Option R):Option R:=k ()
def Ld (n:Nat):Option Unit:=Vf n some
theorem pw (n:Nat) {S:Type}:∀ (φ:_→Option S),(Ld n).bind φ=Vf n φ:=by
  intros;unfold Ld Vf;first | (simp only [ia,ba,iB,bB,oL,oX,nB,Option.bind_some]) | rfl
def Ug (n:Nat):Hint OutS:={ live:=fun c=>[],run:=fun c=>none,xm:=fun c q=>none }
theorem Xp (n:Nat):ya tys (fa OutS (tc n)) (Ug n) n (aa Tryz.f116) 0:=pa (fun _=>rfl) _ _ (by kernel_rfl)
theorem Hr (n:Nat):Enters Tryz.prog 116:=enters_of (c:=aa Tryz.f116) Tryz.func116 (by kernel_rfl) (by kernel_rfl)
def tj:List RSp:=[.one (.ptr 0 0 0)]
def sj:List RS:=[.box 126 2 true [.cn .nilp,.cn .nils]]
def Ir:List Sl:=[.ptr 0 0 0]
def Jr:List RSp:=[]
def Uc:List RS:=[.box 126 2 false [.ptr 0 0 0,.cn .nils]]
def Wf (y:Unit):OutS:=⟨false,Nm (Je Uc ((),())) Ir (),RD (GC (Je Uc ((),())) Jr ()),It (Je Uc ((),())) Uc ((),())⟩
theorem wu (n:Nat):EntryOk Tryz.prog gl ⟨116,Vj,none,some (tX tj sj (fun σ ρ=>Ld n) Wf)⟩:=ai (Hr n) fun σ ρ y h=>nc tys_ok (Hd n) mixed (hint:=Ug n) (n:=n) Tryz.func116 (Ha (Xp n)) (oa (φ:=fun y=>some (Wf y)) (by kernel_rfl) (pw n _) h)
def uf (n:Nat):List Entry:=⟨116,Vj,none,some (tX tj sj (fun σ ρ=>Ld n) Wf)⟩::tc n
theorem zg (n:Nat):AllOk Tryz.prog gl (uf n):=.cons (wu n) (Hd n)
def Sf (n:Nat) {R:Type} (c:Int) (k:U7→Option R):Option R:=(Ld n).bind fun v=>if db (0+1) 1=true then k ((⟨(0+1),fun q=>if q<0 then (fun _=>ua (.int .u8)) q else (fun q=>List.getD (α:=Int) [c] q (ua (.int .u8))) (q - 0)⟩:Sq Int),()) else none
def Va (n:Nat) (c:Int):Option U7:=Sf n c some
theorem nw (n:Nat) {S:Type}:∀ c (φ:_→Option S),(Va n c).bind φ=Sf n c φ:=by
  intros;unfold Va Sf;first | (simp only [ia,ba,iB,bB,oL,oX,nB,Option.bind_some]) | rfl
def Sg (n:Nat):Hint OutS:={ live:=fun c=>[],run:=fun c=>none,xm:=fun c q=>none }
theorem Vp (n:Nat):ya tys (fa OutS (uf n)) (Sg n) n (aa Tryz.f198) 0:=pa (fun _=>rfl) _ _ (by kernel_rfl)
theorem Br (n:Nat):Enters Tryz.prog 198:=enters_of (c:=aa Tryz.f198) Tryz.func198 (by kernel_rfl) (by kernel_rfl)
def pj:List RSp:=[.one (.ptr 0 0 0),.one (.dat (.int .u8))]
def nj:List RS:=[.box 126 2 true [.cn .nilp,.cn .nils]]
def Cr:List Sl:=[.ptr 0 0 0,.top]
def Dr:List RSp:=[.one (.cn .nili)]
def Sc:List RS:=[.box 126 2 false [.ptr 0 0 0,.row 1],.row 5 1 (.int .u8) true false]
def Tf (y:U7):OutS:=⟨false,Nm (Je Sc ((),(y.1,()))) Cr (),RD (GC (Je Sc ((),(y.1,()))) Dr ((),())),It (Je Sc ((),(y.1,()))) Sc ((),(y.1,()))⟩
theorem uu (n:Nat):EntryOk Tryz.prog gl ⟨198,Vj,none,some (tX pj nj (fun σ ρ=>Va n σ.2.1.1) Tf)⟩:=ai (Br n) fun σ ρ y h=>nc tys_ok (zg n) mixed (hint:=Sg n) (n:=n) Tryz.func198 (Ha (Vp n)) (oa (φ:=fun y=>some (Tf y)) (by kernel_rfl) (nw n σ.2.1.1 _) h)
def tf (n:Nat):List Entry:=⟨198,Vj,none,some (tX pj nj (fun σ ρ=>Va n σ.2.1.1) Tf)⟩::uf n
theorem yg (n:Nat):AllOk Tryz.prog gl (tf n):=.cons (uu n) (zg n)
def og (n:Nat) {R:Type} (r1:(Sq Int)) (k:(BA×Unit)→Option R):Option R:=if (r1.n:Int)=(r1.n:Int)∧(r1.n:Int)≤9223372036854775807 then k ((dl r1.n r1.at'),()) else none
def Ec (n:Nat) (r1:(Sq Int)):Option (BA×Unit):=og n r1 some
theorem aD (n:Nat) {S:Type}:∀ r1 (φ:_→Option S),(Ec n r1).bind φ=og n r1 φ:=by
  intros;unfold Ec og;first | (simp only [ia,ba,iB,bB,oL,oX,nB,Option.bind_some]) | rfl
def Vk (n:Nat):Hint OutS:={ live:=fun c=>[],run:=fun c=>none,xm:=fun c q=>none,sch:=fun c=>(cond (Nat.beq c 1) (some [(0,0),(1,0),(2,0),(5,0),(6,0),(7,0),(3,1),(8,1),(9,0),(4,3),(10,2),(11,0)]) none) }
theorem mw (n:Nat):ya tys (fa OutS (tf n)) (Vk n) n (aa Tryz.f88) 0:=pa (fun _=>rfl) _ _ (by kernel_rfl)
theorem yy (n:Nat):Enters Tryz.prog 88:=enters_of (c:=aa Tryz.f88) Tryz.func88 (by kernel_rfl) (by kernel_rfl)
def bo:List RSp:=[.one (.ptr 0 0 0)]
def ao:List RS:=[.box 126 2 false [.ptr 0 0 0,.row 1],.row 5 1 (.int .u8) true false]
def zy:List Sl:=[.ptr 0 0 0]
def Ay:List RSp:=[.one (.dat .str)]
def ze:List RS:=[.box 126 2 false [.ptr 0 0 0,.top]]
def ek (y:(BA×Unit)):OutS:=⟨false,Nm (Je ze ((),())) zy (),RD (GC (Je ze ((),())) Ay ((y.1,()),())),It (Je ze ((),())) ze ((),())⟩
theorem SA (n:Nat):EntryOk Tryz.prog gl ⟨88,Vj,none,some (tX bo ao (fun σ ρ=>Ec n ρ.2.1) ek)⟩:=ai (yy n) fun σ ρ y h=>nc tys_ok (yg n) mixed (hint:=Vk n) (n:=n) Tryz.func88 (Ha (mw n)) (oa (φ:=fun y=>some (ek y)) (by kernel_rfl) (aD n ρ.2.1 _) h)
def vi (n:Nat):List Entry:=⟨88,Vj,none,some (tX bo ao (fun σ ρ=>Ec n ρ.2.1) ek)⟩::tf n
theorem mj (n:Nat):AllOk Tryz.prog gl (vi n):=.cons (SA n) (yg n)
def be (n:Nat) {R:Type} (r1:(Sq Int)) (k:U7→Option R):Option R:=k (r1,())
def wc (n:Nat) (r1:(Sq Int)):Option U7:=be n r1 some
theorem qw (n:Nat) {S:Type}:∀ r1 (φ:_→Option S),(wc n r1).bind φ=be n r1 φ:=by
  intros;unfold wc be;first | (simp only [ia,ba,iB,bB,oL,oX,nB,Option.bind_some]) | rfl
def Vg (n:Nat):Hint OutS:={ live:=fun c=>[],run:=fun c=>none,xm:=fun c q=>none }
theorem Yp (n:Nat):ya tys (fa OutS (vi n)) (Vg n) n (aa Tryz.f116) 0:=pa (fun _=>rfl) _ _ (by kernel_rfl)
theorem Kr (n:Nat):Enters Tryz.prog 116:=enters_of (c:=aa Tryz.f116) Tryz.func116 (by kernel_rfl) (by kernel_rfl)
def vj:List RSp:=[.one (.ptr 0 0 0)]
def uj:List RS:=[.box 126 2 false [.ptr 0 0 0,.row 1],.row 5 1 (.int .u8) true false]
def Lr:List Sl:=[.ptr 0 0 0]
def Mr:List RSp:=[]
def Vc:List RS:=[.box 126 2 false [.ptr 0 0 0,.row 1],.row 5 1 (.int .u8) true false]
def Xf (y:U7):OutS:=⟨false,Nm (Je Vc ((),(y.1,()))) Lr (),RD (GC (Je Vc ((),(y.1,()))) Mr ()),It (Je Vc ((),(y.1,()))) Vc ((),(y.1,()))⟩
theorem xu (n:Nat):EntryOk Tryz.prog gl ⟨116,Vj,none,some (tX vj uj (fun σ ρ=>wc n ρ.2.1) Xf)⟩:=ai (Kr n) fun σ ρ y h=>nc tys_ok (mj n) mixed (hint:=Vg n) (n:=n) Tryz.func116 (Ha (Yp n)) (oa (φ:=fun y=>some (Xf y)) (by kernel_rfl) (qw n ρ.2.1 _) h)
def vf (n:Nat):List Entry:=⟨116,Vj,none,some (tX vj uj (fun σ ρ=>wc n ρ.2.1) Xf)⟩::vi n
theorem Ag (n:Nat):AllOk Tryz.prog gl (vf n):=.cons (xu n) (mj n)
def ae (n:Nat) {R:Type} (c:Int) (r1:(Sq Int)) (k:U7→Option R):Option R:=(wc n r1).bind fun v=>if db (v.1.n+1) 1=true then k ((⟨(v.1.n+1),fun q=>if q<v.1.n then v.1.at' q else (fun q=>List.getD (α:=Int) [c] q (ua (.int .u8))) (q - v.1.n)⟩:Sq Int),()) else none
def Ja (n:Nat) (c:Int) (r1:(Sq Int)):Option U7:=ae n c r1 some
theorem ow (n:Nat) {S:Type}:∀ c r1 (φ:_→Option S),(Ja n c r1).bind φ=ae n c r1 φ:=by
  intros;unfold Ja ae;first | (simp only [ia,ba,iB,bB,oL,oX,nB,Option.bind_some]) | rfl
def Tg (n:Nat):Hint OutS:={ live:=fun c=>[],run:=fun c=>none,xm:=fun c q=>none }
theorem Wp (n:Nat):ya tys (fa OutS (vf n)) (Tg n) n (aa Tryz.f198) 0:=pa (fun _=>rfl) _ _ (by kernel_rfl)
theorem Er (n:Nat):Enters Tryz.prog 198:=enters_of (c:=aa Tryz.f198) Tryz.func198 (by kernel_rfl) (by kernel_rfl)
def rj:List RSp:=[.one (.ptr 0 0 0),.one (.dat (.int .u8))]
def qj:List RS:=[.box 126 2 false [.ptr 0 0 0,.row 1],.row 5 1 (.int .u8) true false]
def Fr:List Sl:=[.ptr 0 0 0,.top]
def Gr:List RSp:=[.one (.cn .nili)]
def Tc:List RS:=[.box 126 2 false [.ptr 0 0 0,.row 1],.row 5 1 (.int .u8) true false]
def Uf (y:U7):OutS:=⟨false,Nm (Je Tc ((),(y.1,()))) Fr (),RD (GC (Je Tc ((),(y.1,()))) Gr ((),())),It (Je Tc ((),(y.1,()))) Tc ((),(y.1,()))⟩
theorem vu (n:Nat):EntryOk Tryz.prog gl ⟨198,Vj,none,some (tX rj qj (fun σ ρ=>Ja n σ.2.1.1 ρ.2.1) Uf)⟩:=ai (Er n) fun σ ρ y h=>nc tys_ok (Ag n) mixed (hint:=Tg n) (n:=n) Tryz.func198 (Ha (Wp n)) (oa (φ:=fun y=>some (Uf y)) (by kernel_rfl) (ow n σ.2.1.1 ρ.2.1 _) h)
def ac (n:Nat):List Entry:=⟨198,Vj,none,some (tX rj qj (fun σ ρ=>Ja n σ.2.1.1 ρ.2.1) Uf)⟩::vf n
theorem Kd (n:Nat):AllOk Tryz.prog gl (ac n):=.cons (vu n) (Ag n)
def Za (n:Nat) {R:Type} (s1:BA) (i:Int) (r1:(Sq Int)) (kn:BA→Int→(Sq Int)→Option R) (ko:Unit→Option R) (kr:(BA×BA)→Option R) (kp:Int→Option R):Option R:=(Wa n (decide (i<(s1.size:Int)))).bind fun x_1=>jY x_1 (fun p3=>kp p3) (fun v5=>if 0≤i∧i<(s1.size:Int) then if ((bt s1 i)==(34:Int))=true then if 0≤(IntKind.wrap .i64 (i+(1:Int)))∧(IntKind.wrap .i64 (i+(1:Int)))≤(s1.size:Int) then (Ec n r1).bind fun v6=>kr (v6.1,(s1.extract (Int.toNat (IntKind.wrap .i64 (i+(1:Int)))) (Int.toNat (s1.size:Int)))) else none else if 0≤i∧i<(s1.size:Int) then if ((bt s1 i)==(92:Int))=true then (Wa n (decide ((IntKind.wrap .i64 (i+(1:Int)))<(s1.size:Int)))).bind fun x_2=>jY x_2 (fun p4=>kp p4) (fun v7=>if 0≤(IntKind.wrap .i64 (i+(1:Int)))∧(IntKind.wrap .i64 (i+(1:Int)))<(s1.size:Int) then if (decide ((bt s1 (IntKind.wrap .i64 (i+(1:Int))))≥(32:Int)))=true then if 0≤(IntKind.wrap .i64 (i+(1:Int)))∧(IntKind.wrap .i64 (i+(1:Int)))<(s1.size:Int) then (Wa n (decide ((bt s1 (IntKind.wrap .i64 (i+(1:Int))))≤(126:Int)))).bind fun x_3=>jY x_3 (fun p5=>kp p5) (fun v8=>if 0≤(IntKind.wrap .i64 (i+(1:Int)))∧(IntKind.wrap .i64 (i+(1:Int)))<(s1.size:Int) then (Ja n (bt s1 (IntKind.wrap .i64 (i+(1:Int)))) r1).bind fun v9=>
 kn s1 (IntKind.wrap .i64 ((IntKind.wrap .i64 (i+(1:Int)))+(1:Int))) v9.1 else none) else none else (Wa n false).bind fun x_4=>jY x_4 (fun p6=>kp p6) (fun v10=>if 0≤(IntKind.wrap .i64 (i+(1:Int)))∧(IntKind.wrap .i64 (i+(1:Int)))<(s1.size:Int) then (Ja n (bt s1 (IntKind.wrap .i64 (i+(1:Int)))) r1).bind fun v11=>kn s1 (IntKind.wrap .i64 ((IntKind.wrap .i64 (i+(1:Int)))+(1:Int))) v11.1 else none) else none) else if 0≤i∧i<(s1.size:Int) then if (decide ((bt s1 i)≥(32:Int)))=true then if 0≤i∧i<(s1.size:Int) then (Wa n (decide ((bt s1 i)≤(126:Int)))).bind fun x_5=>jY x_5 (fun p7=>kp p7) (fun v12=>if 0≤i∧i<(s1.size:Int) then (Ja n (bt s1 i) r1).bind fun v13=>kn s1 (IntKind.wrap .i64 (i+(1:Int))) v13.1 else none) else none else (Wa n false).bind fun x_6=>jY x_6 (fun p8=>kp p8) (fun v14=>if 0≤i∧i<(s1.size:Int) then (Ja n (bt s1 i) r1).bind fun v15=>kn s1 (IntKind.wrap .i64 (i+(1:Int))) v15.1 else none) else none else none else none)
def Ba (n:Nat):Nat→BA→Int→(Sq Int)→Option (Lx Unit (BA×BA))
 | 0,_,_,_=>none
 | m+1,s1,i,r1=>Za n s1 i r1 (Ba n m) (fun a=>some (.out a)) (fun a=>some (.ret a)) (fun p=>some (.pan p))
theorem jC (n m:Nat) {S:Type}:∀ s1 i r1 (φ:_→Option S),(Ba n (m+1) s1 i r1).bind φ=Za n s1 i r1 (fun s1 i r1=>(Ba n m s1 i r1).bind φ) (fun a=>φ (.out a)) (fun a=>φ (.ret a)) (fun p=>φ (.pan p)):=by
  intros;first | (simp only [Ba,Za,ia,ba,iB,bB,oL,oX,nB,Option.bind_some]) | rfl
def Rh:List Sl:=.dat .str::.top::.top::.top::.ptr 0 0 0::.dat (.int .i64)::tp 42 []
def Qh:List RS:=[.box 126 2 false [.ptr 0 0 0,.row 1],.row 5 1 (.int .u8) true false]
def Rq:List Sl:=.top::.top::.dat .str::.dat .str::tp 44 []
def Qq:List RS:=[]
def dc (K:XE→List AV→la→Option Out):Lx Unit (BA×BA)→Option Out:=fun x=>iY x (fun _=>none) (fun a=>Jh Rq Qq (a.1,(a.2,())) () (K .ret)) (fun p=>K (.panic (ge 184 p)) (List.replicate 48 .top) [])
def cc (n:Nat) {R:Type} (s:BA) (k:(BA×BA×Unit)→Option R) (kp:Int→Option R):Option R:=(Wa n (decide ((1:Int)<(s.size:Int)))).bind fun x_1=>jY x_1 (fun p=>kp p) (fun v=>if 0≤(1:Int)∧(1:Int)<(s.size:Int) then if ((bt s (1:Int))==(34:Int))=true then if 0≤(IntKind.wrap .i64 ((1:Int)+(1:Int)))∧(IntKind.wrap .i64 ((1:Int)+(1:Int)))≤(s.size:Int) then (Ze n).bind fun v1=>k (v1.1,((s.extract (Int.toNat (IntKind.wrap .i64 ((1:Int)+(1:Int)))) (Int.toNat (s.size:Int))),())) else none else if 0≤(1:Int)∧(1:Int)<(s.size:Int) then if ((bt s (1:Int))==(92:Int))=true then (Wa n (decide ((IntKind.wrap .i64 ((1:Int)+(1:Int)))<(s.size:Int)))).bind fun x_2=>jY x_2 (fun p1=>kp p1) (fun v2=>if 0≤(IntKind.wrap .i64 ((1:Int)+(1:Int)))∧(IntKind.wrap .i64 ((1:Int)+(1:Int)))<(s.size:Int) then if (decide ((bt s (IntKind.wrap .i64 ((1:Int)+(1:Int))))≥(32:Int)))=true then if 0≤(IntKind.wrap .i64 ((1:Int)+(1:Int)))∧(IntKind.wrap .i64 ((1:Int)+(1:Int)))<(s.size:Int) then (Wa n (decide ((bt s (IntKind.wrap .i64 ((1:Int)+(1:Int))))≤(126:Int)))).bind fun x_3=>jY x_3 (fun p2=>kp p2) (fun v3=>if 0≤(IntKind.wrap .i64 ((1:Int)+(1:Int)))∧(IntKind.wrap .i64 ((1:Int)+(1:Int)))<(s.size:Int) then (Va n (bt s (IntKind.wrap .i64 ((1:Int)+(1:Int))))).bind fun v4=>
 (Ba n n s (IntKind.wrap .i64 ((IntKind.wrap .i64 ((1:Int)+(1:Int)))+(1:Int))) v4.1).bind fun x_4=>iY x_4 (fun _=>none) (fun a_5=>k (a_5.1,(a_5.2,()))) (fun p9=>kp p9) else none) else none else (Wa n false).bind fun x_6=>jY x_6 (fun p10=>kp p10) (fun v16=>if 0≤(IntKind.wrap .i64 ((1:Int)+(1:Int)))∧(IntKind.wrap .i64 ((1:Int)+(1:Int)))<(s.size:Int) then (Va n (bt s (IntKind.wrap .i64 ((1:Int)+(1:Int))))).bind fun v17=>(Ba n n s (IntKind.wrap .i64 ((IntKind.wrap .i64 ((1:Int)+(1:Int)))+(1:Int))) v17.1).bind fun x_7=>iY x_7 (fun _=>none) (fun a_8=>k (a_8.1,(a_8.2,()))) (fun p11=>kp p11) else none) else none) else if 0≤(1:Int)∧(1:Int)<(s.size:Int) then if (decide ((bt s (1:Int))≥(32:Int)))=true then if 0≤(1:Int)∧(1:Int)<(s.size:Int) then (Wa n (decide ((bt s (1:Int))≤(126:Int)))).bind fun x_9=>jY x_9 (fun p12=>kp p12) (fun v18=>if 0≤(1:Int)∧(1:Int)<(s.size:Int) then (Va n (bt s (1:Int))).bind fun v19=>(Ba n n s (IntKind.wrap .i64 ((1:Int)+(1:Int))) v19.1).bind fun x_10=>iY x_10 (fun _=>none) (fun a_11=>k (a_11.1,(a_11.2,()))) (fun p13=>kp p13) else none) else none else (Wa n false).bind fun x_12=>jY x_12 (fun p14=>kp p14) (fun v20=>if 0≤(1:Int)∧(1:Int)<(s.size:Int) then (Va n (bt s (1:Int))).bind fun v21=>
 (Ba n n s (IntKind.wrap .i64 ((1:Int)+(1:Int))) v21.1).bind fun x_13=>iY x_13 (fun _=>none) (fun a_14=>k (a_14.1,(a_14.2,()))) (fun p15=>kp p15) else none) else none else none else none)
def Ob (n:Nat) (s:BA):Option (Except Int (BA×BA×Unit)):=cc n s (fun y=>some (.ok y)) (fun p=>some (.error p))
theorem Fz (n:Nat) {S:Type}:∀ s (φ:_→Option S),(Ob n s).bind φ=cc n s (fun y=>φ (.ok y)) (fun p=>φ (.error p)):=by
  intros;unfold Ob cc;first | (simp only [ia,ba,iB,bB,oL,oX,nB,Option.bind_some]) | rfl
def me (n:Nat):Hint Out:={ live:=fun c=>(cond (Nat.beq c 0) (lv [0,4,5]) []),run:=fun c=>(cond (Nat.beq c 0) (some (vp Rh Qh fun σ ρ K=>(Ba n n σ.1 σ.2.1 ρ.2.1).bind (dc K))) none),xm:=fun c q=>(cond (Nat.beq c 1&&q.isNone) (some [(2,none),(3,none)]) none),sch:=fun c=>(cond (Nat.beq c 6) (some [(1,0),(2,0),(3,0),(4,0),(0,2),(5,0),(6,0)]) none),pl:=fun c=>Nat.beq c 0 }
def dg (n:Nat) (K:XE→List AV→la→Option Out) (m:Nat) (s1:BA) (i:Int) (r1:(Sq Int)):Option Out:=lf tys (fa Out (ac n)) (me n) n (Da [1,1,1,0,0] (aa Tryz.f183)) 0 Rh Qh K m (s1,(i,())) ((),(r1,()))
theorem lq (n:Nat) (K:XE→List AV→la→Option Out):∀ (m:Nat) s1 i r1,dg n K m s1 i r1=(Ba n m s1 i r1).bind (dc K)
  | 0,_,_,_=>by kernel_rfl
  | m+1,s1,i,r1=>by
    have h1:dg n K (m+1) s1 i r1=Za n s1 i r1 (dg n K m) (fun a=>dc K (.out a)) (fun a=>dc K (.ret a)) (fun p=>dc K (.pan p)):=by kernel_rfl
    have h2:dg n K m=fun s1 i r1=>(Ba n m s1 i r1).bind (dc K):=by
      repeat (refine funext fun _=>?_)
      exact lq n K m _ _ _
    rw [h1,h2];exact (jC n m _ _ _ (dc K)).symm
theorem Ez (n:Nat):le tys (fa Out (ac n)) (me n) n (Da [1,1,1,0,0] (aa Tryz.f183)) 0:=Oa (sp:=Rh) (rp:=Qh) (by kernel_rfl) fun K σ ρ=>lq n K n σ.1 σ.2.1 ρ.2.1
theorem mq (n:Nat):ya tys (fa Out (ac n)) (me n) n (aa Tryz.f183) 0:=⟨trivial,⟨trivial,⟨trivial,⟨Ez n,⟨⟨trivial,⟨⟨trivial,⟨⟨trivial,trivial⟩,trivial⟩⟩,⟨⟨trivial,⟨⟨trivial,trivial⟩,trivial⟩⟩,⟨trivial,trivial⟩⟩⟩⟩,trivial⟩⟩⟩⟩⟩
theorem qE (n:Nat):Enters Tryz.prog 183:=enters_of (c:=aa Tryz.f183) Tryz.func183 (by kernel_rfl) (by kernel_rfl)
def Ww (n:Nat):Entry:=⟨183,oY 184 (.pair .str .unit) (.many (.pair .str (.pair .str .unit))) (fun xs=>Ob n xs.1),none,none⟩
theorem wG (n:Nat):EntryOk Tryz.prog gl (Ww n):=Ut (qE n) (fun xs y h=>ma tys_ok (Kd n) mixed (hint:=me n) (n:=n) Tryz.func183 (Ha (mq n)) (oa (φ:=(fun r=>jY r (fun p=>some (Out.pan (ge 184 p))) fun y=>some (Out.ret (Ub (.many (.pair .str (.pair .str .unit))) y)))) (by kernel_rfl) (Fz n xs.1 _) h)) (fun xs p h=>ma tys_ok (Kd n) mixed (hint:=me n) (n:=n) Tryz.func183 (Ha (mq n)) (oa (φ:=(fun r=>jY r (fun p=>some (Out.pan (ge 184 p))) fun y=>some (Out.ret (Ub (.many (.pair .str (.pair .str .unit))) y)))) (by kernel_rfl) (Fz n xs.1 _) h))
def Wm (n:Nat):List Entry:=Ww n::ac n
theorem Xm (n:Nat):AllOk Tryz.prog gl (Wm n):=.cons (wG n) (Kd n)
def rg (n:Nat) {R:Type} (s:BA) (c:Int) (k:Int→Option R):Option R:=(Gd n s c).bind fun v=>k v
def Gc (n:Nat) (s:BA) (c:Int):Option Int:=rg n s c some
theorem eD (n:Nat) {S:Type}:∀ s c (φ:_→Option S),(Gc n s c).bind φ=rg n s c φ:=by
  intros;unfold Gc rg;first | (simp only [ia,ba,iB,bB,oL,oX,nB,Option.bind_some]) | rfl
def bl (n:Nat):Hint Out:={ live:=fun c=>[],run:=fun c=>none,xm:=fun c q=>none }
theorem zw (n:Nat):ya tys (fa Out (Wm n)) (bl n) n (aa Tryz.f185) 0:=pa (fun _=>rfl) _ _ (by kernel_rfl)
theorem Hy (n:Nat):Enters Tryz.prog 185:=enters_of (c:=aa Tryz.f185) Tryz.func185 (by kernel_rfl) (by kernel_rfl)
def ro (n:Nat):Entry:=⟨185,nY (.pair .str (.pair (.int .u8) .unit)) (.one (.int .i64)) (fun xs=>Gc n xs.1 xs.2.1),none,none⟩
theorem fB (n:Nat):EntryOk Tryz.prog gl (ro n):=Ea (Hy n) fun xs y h=>ma tys_ok (Xm n) mixed (hint:=bl n) (n:=n) Tryz.func185 (Ha (zw n)) (oa (φ:=(fun y=>some (Out.ret (Ub (.one (.int .i64)) y)))) (by kernel_rfl) (eD n xs.1 xs.2.1 _) h)
def Ai (n:Nat):List Entry:=ro n::Wm n
theorem xj (n:Nat):AllOk Tryz.prog gl (Ai n):=.cons (fB n) (Xm n)
def ws (n:Nat) {R:Type} (c:Int) (k:Bool→Option R):Option R:=(Tq n c).bind fun v=>if v=false then if (decide (c≥(65:Int)))=true then if (decide (c≤(90:Int)))=false then (Gc n (⟨#[33,35,36,37,38,39,42,43,45,47,61,63,94,95,96,123,124,125,126]⟩:BA) c).bind fun v1=>k (decide (v1≥(0:Int))) else k true else (Gc n (⟨#[33,35,36,37,38,39,42,43,45,47,61,63,94,95,96,123,124,125,126]⟩:BA) c).bind fun v2=>k (decide (v2≥(0:Int))) else k true
def Oq (n:Nat) (c:Int):Option Bool:=ws n c some
theorem eO (n:Nat) {S:Type}:∀ c (φ:_→Option S),(Oq n c).bind φ=ws n c φ:=by
  intros;unfold Oq ws;first | (simp only [ia,ba,iB,bB,oL,oX,nB,Option.bind_some]) | rfl
def Uw (n:Nat):Hint Out:={ live:=fun c=>[],run:=fun c=>none,xm:=fun c q=>none }
theorem pG (n:Nat):ya tys (fa Out (Ai n)) (Uw n) n (aa Tryz.f199) 0:=pa (fun _=>rfl) _ _ (by kernel_rfl)
theorem XI (n:Nat):Enters Tryz.prog 199:=enters_of (c:=aa Tryz.f199) Tryz.func199 (by kernel_rfl) (by kernel_rfl)
def oD (n:Nat):Entry:=⟨199,nY (.pair (.int .u8) .unit) (.one .bool) (fun xs=>Oq n xs.1),none,none⟩
theorem pM (n:Nat):EntryOk Tryz.prog gl (oD n):=Ea (XI n) fun xs y h=>ma tys_ok (xj n) mixed (hint:=Uw n) (n:=n) Tryz.func199 (Ha (pG n)) (oa (φ:=(fun y=>some (Out.ret (Ub (.one .bool) y)))) (by kernel_rfl) (eO n xs.1 _) h)
def yk (n:Nat):List Entry:=oD n::Ai n
theorem As (n:Nat):AllOk Tryz.prog gl (yk n):=.cons (pM n) (xj n)
def Nf (n:Nat) {R:Type} (s1:BA) (word t6 t7:Int) (kn:BA→Int→Int→Int→Option R) (ko:(Int)→Option R) (kr:(Bool)→Option R) (kp:Int→Option R):Option R:=if (decide (t7<t6))=true then if 0≤t7∧t7<(s1.size:Int) then if ((bt s1 t7)==(46:Int))=true then if (word==(0:Int))=false then if 0≤t7∧t7<(s1.size:Int) then if ((bt s1 t7) !=(46:Int))=true then if 0≤t7∧t7<(s1.size:Int) then (Oq n (bt s1 t7)).bind fun v=>if (!v)=true then kr false else if 0≤t7∧t7<(s1.size:Int) then if ((bt s1 t7)==(46:Int))=true then kn s1 (0:Int) t6 (IntKind.wrap .i64 (t7+(1:Int))) else kn s1 (IntKind.wrap .i64 (word+(1:Int))) t6 (IntKind.wrap .i64 (t7+(1:Int))) else none else none else if 0≤t7∧t7<(s1.size:Int) then if ((bt s1 t7)==(46:Int))=true then kn s1 (0:Int) t6 (IntKind.wrap .i64 (t7+(1:Int))) else kn s1 (IntKind.wrap .i64 (word+(1:Int))) t6 (IntKind.wrap .i64 (t7+(1:Int))) else none else none else kr false else if 0≤t7∧t7<(s1.size:Int) then if ((bt s1 t7) !=(46:Int))=true then if 0≤t7∧t7<(s1.size:Int) then (Oq n (bt s1 t7)).bind fun v1=>if (!v1)=true then kr false else if 0≤t7∧t7<(s1.size:Int) then if ((bt s1 t7)==(46:Int))=true then kn s1 (0:Int) t6 (IntKind.wrap .i64 (t7+(1:Int))) else kn s1 (IntKind.wrap .i64 (word+(1:Int))) t6 (IntKind.wrap .i64 (t7+(1:Int))) else none else none
 else if 0≤t7∧t7<(s1.size:Int) then if ((bt s1 t7)==(46:Int))=true then kn s1 (0:Int) t6 (IntKind.wrap .i64 (t7+(1:Int))) else kn s1 (IntKind.wrap .i64 (word+(1:Int))) t6 (IntKind.wrap .i64 (t7+(1:Int))) else none else none else none else ko word
def Nb (n:Nat):Nat→BA→Int→Int→Int→Option (Lx (Int) (Bool))
 | 0,_,_,_,_=>none
 | m+1,s1,word,t6,t7=>Nf n s1 word t6 t7 (Nb n m) (fun a=>some (.out a)) (fun a=>some (.ret a)) (fun p=>some (.pan p))
theorem mE (n m:Nat) {S:Type}:∀ s1 word t6 t7 (φ:_→Option S),(Nb n (m+1) s1 word t6 t7).bind φ=Nf n s1 word t6 t7 (fun s1 word t6 t7=>(Nb n m s1 word t6 t7).bind φ) (fun a=>φ (.out a)) (fun a=>φ (.ret a)) (fun p=>φ (.pan p)):=by
  intros;first | (simp only [Nb,Nf,ia,ba,iB,bB,oL,oX,nB,Option.bind_some]) | rfl
def Lj:List Sl:=.dat .str::.top::.top::.dat (.int .i64)::.top::.top::.dat (.int .i64)::.dat (.int .i64)::tp 32 []
def Kj:List RS:=[]
def Ps:List Sl:=.top::.top::.top::.dat (.int .i64)::tp 36 []
def Ns:List RS:=[]
def Rs:List Sl:=.top::.top::.dat .bool::tp 37 []
def Qs:List RS:=[]
def Jc (K:XE→List AV→la→Option Out):Lx (Int) (Bool)→Option Out:=fun x=>iY x (fun a=>Jh Ps Ns (a,()) () (K (.exit 0))) (fun a=>Jh Rs Qs (a,()) () (K .ret)) (fun _=>none)
def So (n:Nat) {R:Type} (s:BA) (k:Bool→Option R):Option R:=(Nb n n s (0:Int) (s.size:Int) (0:Int)).bind fun x_1=>iY x_1 (fun a_2=>k (decide (a_2>(0:Int)))) (fun a_3=>k a_3) (fun _=>none)
def Ri (n:Nat) (s:BA):Option Bool:=So n s some
theorem sM (n:Nat) {S:Type}:∀ s (φ:_→Option S),(Ri n s).bind φ=So n s φ:=by
  intros;unfold Ri So;first | (simp only [ia,ba,iB,bB,oL,oX,nB,Option.bind_some]) | rfl
def jh (n:Nat):Hint Out:={ live:=fun c=>(cond (Nat.beq c 0) (lv [0,3,6,7]) []),run:=fun c=>(cond (Nat.beq c 0) (some (vp Lj Kj fun σ ρ K=>(Nb n n σ.1 σ.2.1 σ.2.2.1 σ.2.2.2.1).bind (Jc K))) none),xm:=fun c q=>(cond (Nat.beq c 0&&Nat.beq (q.getD 1000000) 0&&q.isSome) (some [(3,none)]) (cond (Nat.beq c 1&&q.isNone) (some [(2,none)]) none)) }
def fh (n:Nat) (K:XE→List AV→la→Option Out) (m:Nat) (s1:BA) (word:Int) (t6:Int) (t7:Int):Option Out:=lf tys (fa Out (yk n)) (jh n) n (Da [1,1,0,1,0,0] (aa Tryz.f186)) 0 Lj Kj K m (s1,(word,(t6,(t7,())))) ()
theorem Ms (n:Nat) (K:XE→List AV→la→Option Out):∀ (m:Nat) s1 word t6 t7,fh n K m s1 word t6 t7=(Nb n m s1 word t6 t7).bind (Jc K)
  | 0,_,_,_,_=>by kernel_rfl
  | m+1,s1,word,t6,t7=>by
    have h1:fh n K (m+1) s1 word t6 t7=Nf n s1 word t6 t7 (fh n K m) (fun a=>Jc K (.out a)) (fun a=>Jc K (.ret a)) (fun p=>Jc K (.pan p)):=by kernel_rfl
    have h2:fh n K m=fun s1 word t6 t7=>(Nb n m s1 word t6 t7).bind (Jc K):=by
      repeat (refine funext fun _=>?_)
      exact Ms n K m _ _ _ _
    rw [h1,h2];exact (mE n m _ _ _ _ (Jc K)).symm
theorem gC (n:Nat):le tys (fa Out (yk n)) (jh n) n (Da [1,1,0,1,0,0] (aa Tryz.f186)) 0:=Oa (sp:=Lj) (rp:=Kj) (by kernel_rfl) fun K σ ρ=>Ms n K n σ.1 σ.2.1 σ.2.2.1 σ.2.2.2.1
theorem nE (n:Nat):ya tys (fa Out (yk n)) (jh n) n (aa Tryz.f186) 0:=⟨trivial,⟨trivial,⟨⟨trivial,⟨gC n,⟨trivial,⟨⟨trivial,trivial⟩,⟨⟨trivial,⟨⟨trivial,⟨⟨trivial,trivial⟩,trivial⟩⟩,⟨trivial,⟨trivial,⟨trivial,trivial⟩⟩⟩⟩⟩,trivial⟩⟩⟩⟩⟩,⟨trivial,trivial⟩⟩⟩⟩
theorem uG (n:Nat):Enters Tryz.prog 186:=enters_of (c:=aa Tryz.f186) Tryz.func186 (by kernel_rfl) (by kernel_rfl)
def Cz (n:Nat):Entry:=⟨186,nY (.pair .str .unit) (.one .bool) (fun xs=>Ri n xs.1),none,none⟩
theorem aJ (n:Nat):EntryOk Tryz.prog gl (Cz n):=Ea (uG n) fun xs y h=>ma tys_ok (As n) mixed (hint:=jh n) (n:=n) Tryz.func186 (Ha (nE n)) (oa (φ:=(fun y=>some (Out.ret (Ub (.one .bool) y)))) (by kernel_rfl) (sM n xs.1 _) h)
def Ph (n:Nat):List Entry:=Cz n::yk n
theorem kq (n:Nat):AllOk Tryz.prog gl (Ph n):=.cons (aJ n) (As n)
def xd (n:Nat) {R:Type} (s1:BA) (t10 t11:Int) (r1:(Sq Int)) (kn:BA→Int→Int→(Sq Int)→Option R) (ko:((Sq Int))→Option R) (kr:Unit→Option R) (kp:Int→Option R):Option R:=if (decide (t11<t10))=true then if 0≤t11∧t11<(s1.size:Int) then if ((bt s1 t11)==(34:Int))=false then if 0≤t11∧t11<(s1.size:Int) then if ((bt s1 t11)==(92:Int))=true then (Ja n (92:Int) r1).bind fun v2=>if 0≤t11∧t11<(s1.size:Int) then (Ja n (bt s1 t11) v2.1).bind fun v3=>kn s1 t10 (IntKind.wrap .i64 (t11+(1:Int))) v3.1 else none else if 0≤t11∧t11<(s1.size:Int) then (Ja n (bt s1 t11) r1).bind fun v4=>kn s1 t10 (IntKind.wrap .i64 (t11+(1:Int))) v4.1 else none else none else (Ja n (92:Int) r1).bind fun v5=>if 0≤t11∧t11<(s1.size:Int) then (Ja n (bt s1 t11) v5.1).bind fun v6=>kn s1 t10 (IntKind.wrap .i64 (t11+(1:Int))) v6.1 else none else none else ko r1
def yb (n:Nat):Nat→BA→Int→Int→(Sq Int)→Option (Lx ((Sq Int)) Unit)
 | 0,_,_,_,_=>none
 | m+1,s1,t10,t11,r1=>xd n s1 t10 t11 r1 (yb n m) (fun a=>some (.out a)) (fun a=>some (.ret a)) (fun p=>some (.pan p))
theorem oE (n m:Nat) {S:Type}:∀ s1 t10 t11 r1 (φ:_→Option S),(yb n (m+1) s1 t10 t11 r1).bind φ=xd n s1 t10 t11 r1 (fun s1 t10 t11 r1=>(yb n m s1 t10 t11 r1).bind φ) (fun a=>φ (.out a)) (fun a=>φ (.ret a)) (fun p=>φ (.pan p)):=by
  intros;first | (simp only [yb,xd,ia,ba,iB,bB,oL,oX,nB,Option.bind_some]) | rfl
def Nj:List Sl:=.dat .str::.top::.top::.ptr 0 0 0::tp 6 (.dat (.int .i64)::.dat (.int .i64)::tp 20 [])
def Mj:List RS:=[.box 126 2 false [.ptr 0 0 0,.row 1],.row 5 1 (.int .u8) true false]
def Us:List Sl:=.top::.top::.top::.ptr 0 0 0::tp 28 []
def Ts:List RS:=[.box 126 2 false [.ptr 0 0 0,.row 1],.row 5 1 (.int .u8) true false]
def Kc (K:XE→List AV→la→Option Out):Lx ((Sq Int)) Unit→Option Out:=fun x=>iY x (fun a=>Jh Us Ts () ((),(a,())) (K (.exit 0))) (fun _=>none) (fun _=>none)
def Vo (n:Nat) {R:Type} (s:BA) (k:BA→Option R):Option R:=(Ri n s).bind fun v=>if v=true then k s else (Va n (34:Int)).bind fun v1=>(yb n n s (s.size:Int) (0:Int) v1.1).bind fun x_1=>iY x_1 (fun a_2=>(Ec n a_2).bind fun v7=>if Af v7.1 (⟨#[34]⟩:BA)=true then k (v7.1++(⟨#[34]⟩:BA)) else none) (fun _=>none) (fun _=>none)
def Uo (n:Nat) (s:BA):Option BA:=Vo n s some
theorem tM (n:Nat) {S:Type}:∀ s (φ:_→Option S),(Uo n s).bind φ=Vo n s φ:=by
  intros;unfold Uo Vo;first | (simp only [ia,ba,iB,bB,oL,oX,nB,Option.bind_some]) | rfl
def lh (n:Nat):Hint Out:={ live:=fun c=>(cond (Nat.beq c 0) (lv [0,3,10,11]) []),run:=fun c=>(cond (Nat.beq c 0) (some (vp Nj Mj fun σ ρ K=>(yb n n σ.1 σ.2.1 σ.2.2.1 ρ.2.1).bind (Kc K))) none),xm:=fun c q=>(cond (Nat.beq c 0&&Nat.beq (q.getD 1000000) 0&&q.isSome) (some [(3,none)]) none) }
def kh (n:Nat) (K:XE→List AV→la→Option Out) (m:Nat) (s1:BA) (t10:Int) (t11:Int) (r1:(Sq Int)):Option Out:=lf tys (fa Out (Ph n)) (lh n) n (Da [1,1,1,1,0,1,0,0] (aa Tryz.f184)) 0 Nj Mj K m (s1,(t10,(t11,()))) ((),(r1,()))
theorem Ss (n:Nat) (K:XE→List AV→la→Option Out):∀ (m:Nat) s1 t10 t11 r1,kh n K m s1 t10 t11 r1=(yb n m s1 t10 t11 r1).bind (Kc K)
  | 0,_,_,_,_=>by kernel_rfl
  | m+1,s1,t10,t11,r1=>by
    have h1:kh n K (m+1) s1 t10 t11 r1=xd n s1 t10 t11 r1 (kh n K m) (fun a=>Kc K (.out a)) (fun a=>Kc K (.ret a)) (fun p=>Kc K (.pan p)):=by kernel_rfl
    have h2:kh n K m=fun s1 t10 t11 r1=>(yb n m s1 t10 t11 r1).bind (Kc K):=by
      repeat (refine funext fun _=>?_)
      exact Ss n K m _ _ _ _
    rw [h1,h2];exact (oE n m _ _ _ _ (Kc K)).symm
theorem iC (n:Nat):le tys (fa Out (Ph n)) (lh n) n (Da [1,1,1,1,0,1,0,0] (aa Tryz.f184)) 0:=Oa (sp:=Nj) (rp:=Mj) (by kernel_rfl) fun K σ ρ=>Ss n K n σ.1 σ.2.1 σ.2.2.1 ρ.2.1
theorem pE (n:Nat):ya tys (fa Out (Ph n)) (lh n) n (aa Tryz.f184) 0:=⟨trivial,⟨⟨trivial,⟨⟨trivial,trivial⟩,trivial⟩⟩,⟨trivial,⟨trivial,⟨⟨trivial,⟨iC n,⟨trivial,⟨⟨trivial,trivial⟩,⟨⟨trivial,⟨⟨trivial,⟨trivial,trivial⟩⟩,trivial⟩⟩,trivial⟩⟩⟩⟩⟩,⟨trivial,trivial⟩⟩⟩⟩⟩⟩
theorem vG (n:Nat):Enters Tryz.prog 184:=enters_of (c:=aa Tryz.f184) Tryz.func184 (by kernel_rfl) (by kernel_rfl)
def Dz (n:Nat):Entry:=⟨184,nY (.pair .str .unit) (.one .str) (fun xs=>Uo n xs.1),none,none⟩
theorem bJ (n:Nat):EntryOk Tryz.prog gl (Dz n):=Ea (vG n) fun xs y h=>ma tys_ok (kq n) mixed (hint:=lh n) (n:=n) Tryz.func184 (Ha (pE n)) (oa (φ:=(fun y=>some (Out.ret (Ub (.one .str) y)))) (by kernel_rfl) (tM n xs.1 _) h)
def Pq (n:Nat):List Entry:=Dz n::Ph n
theorem Oj (n:Nat):AllOk Tryz.prog gl (Pq n):=.cons (bJ n) (kq n)
def Ve (n:Nat) {R:Type} (s:BA) (k:(BA×BA×Unit)→Option R) (kp:Int→Option R):Option R:=(rb n s (⟨#[34]⟩:BA)).bind fun v=>if v=true then (Ob n s).bind fun x_1=>jY x_1 (fun p=>kp p) (fun v1=>(Uo n v1.1).bind fun v2=>k (v2,(v1.2.1,()))) else (Gc n s (64:Int)).bind fun v3=>if (decide (v3≥(0:Int)))=true then if 0≤v3∧v3≤(s.size:Int) then (Ri n (s.extract (Int.toNat (0:Int)) (Int.toNat v3))).bind fun v4=>(Wa n v4).bind fun x_2=>jY x_2 (fun p1=>kp p1) (fun v5=>if 0≤v3∧v3≤(s.size:Int) then if 0≤v3∧v3≤(s.size:Int) then k ((s.extract (Int.toNat (0:Int)) (Int.toNat v3)),((s.extract (Int.toNat v3) (Int.toNat (s.size:Int))),())) else none else none) else none else (Wa n false).bind fun x_3=>jY x_3 (fun p2=>kp p2) (fun v6=>if 0≤v3∧v3≤(s.size:Int) then if 0≤v3∧v3≤(s.size:Int) then k ((s.extract (Int.toNat (0:Int)) (Int.toNat v3)),((s.extract (Int.toNat v3) (Int.toNat (s.size:Int))),())) else none else none)
def ef (n:Nat) (s:BA):Option (Except Int (BA×BA×Unit)):=Ve n s (fun y=>some (.ok y)) (fun p=>some (.error p))
theorem pD (n:Nat) {S:Type}:∀ s (φ:_→Option S),(ef n s).bind φ=Ve n s (fun y=>φ (.ok y)) (fun p=>φ (.error p)):=by
  intros;unfold ef Ve;first | (simp only [ia,ba,iB,bB,oL,oX,nB,Option.bind_some]) | rfl
def Cl (n:Nat):Hint Out:={ live:=fun c=>[],run:=fun c=>none,xm:=fun c q=>none }
theorem Js (n:Nat):ya tys (fa Out (Pq n)) (Cl n) n (aa Tryz.f166) 0:=pa (fun _=>rfl) _ _ (by kernel_rfl)
theorem sG (n:Nat):Enters Tryz.prog 166:=enters_of (c:=aa Tryz.f166) Tryz.func166 (by kernel_rfl) (by kernel_rfl)
def Bz (n:Nat):Entry:=⟨166,oY 184 (.pair .str .unit) (.many (.pair .str (.pair .str .unit))) (fun xs=>ef n xs.1),none,none⟩
theorem YI (n:Nat):EntryOk Tryz.prog gl (Bz n):=Ut (sG n) (fun xs y h=>ma tys_ok (Oj n) mixed (hint:=Cl n) (n:=n) Tryz.func166 (Ha (Js n)) (oa (φ:=(fun r=>jY r (fun p=>some (Out.pan (ge 184 p))) fun y=>some (Out.ret (Ub (.many (.pair .str (.pair .str .unit))) y)))) (by kernel_rfl) (pD n xs.1 _) h)) (fun xs p h=>ma tys_ok (Oj n) mixed (hint:=Cl n) (n:=n) Tryz.func166 (Ha (Js n)) (oa (φ:=(fun r=>jY r (fun p=>some (Out.pan (ge 184 p))) fun y=>some (Out.ret (Ub (.many (.pair .str (.pair .str .unit))) y)))) (by kernel_rfl) (pD n xs.1 _) h))
def Oh (n:Nat):List Entry:=Bz n::Pq n
theorem jq (n:Nat):AllOk Tryz.prog gl (Oh n):=.cons (YI n) (Oj n)
def zd (n:Nat) {R:Type} (t9 t10:Int) (b:(Sq Int)) (kn:Int→Int→(Sq Int)→Option R) (ko:((Sq Int))→Option R) (kr:Unit→Option R) (kp:Int→Option R):Option R:=if (decide (t10<t9))=true then if 0≤t10∧t10<(b.n:Int) then if (decide ((b.at' (Int.toNat t10))≥(65:Int)))=true then if (decide ((b.at' (Int.toNat t10))≤(90:Int)))=true then if 0≤t10∧t10<(b.n:Int) then kn t9 (IntKind.wrap .i64 (t10+(1:Int))) (⟨b.n,fun q=>if q=(Int.toNat t10)∧q<b.n then (IntKind.wrap .u8 ((IntKind.wrap .u8 ((b.at' (Int.toNat t10))+(97:Int))) - (65:Int))) else b.at' q⟩:Sq Int) else none else kn t9 (IntKind.wrap .i64 (t10+(1:Int))) b else kn t9 (IntKind.wrap .i64 (t10+(1:Int))) b else none else ko b
def ib (n:Nat):Nat→Int→Int→(Sq Int)→Option (Lx ((Sq Int)) Unit)
 | 0,_,_,_=>none
 | m+1,t9,t10,b=>zd n t9 t10 b (ib n m) (fun a=>some (.out a)) (fun a=>some (.ret a)) (fun p=>some (.pan p))
theorem rE (n m:Nat) {S:Type}:∀ t9 t10 b (φ:_→Option S),(ib n (m+1) t9 t10 b).bind φ=zd n t9 t10 b (fun t9 t10 b=>(ib n m t9 t10 b).bind φ) (fun a=>φ (.out a)) (fun a=>φ (.ret a)) (fun p=>φ (.pan p)):=by
  intros;first | (simp only [ib,zd,ia,ba,iB,bB,oL,oX,nB,Option.bind_some]) | rfl
def Qj:List Sl:=.top::.top::.top::.row 0::tp 4 (.row 0::.dat (.int .i64)::.dat (.int .i64)::tp 19 [])
def Pj:List RS:=[.row 5 1 (.int .u8) false true]
def ct:List Sl:=.top::.top::.top::.row 0::tp 26 []
def Zs:List RS:=[.row 5 1 (.int .u8) false true]
def Lc (K:XE→List AV→la→Option Out):Lx ((Sq Int)) Unit→Option Out:=fun x=>iY x (fun a=>Jh ct Zs () (a,()) (K (.exit 0))) (fun _=>none) (fun _=>none)
def Wo (n:Nat) {R:Type} (s:BA) (k:BA→Option R):Option R:=(ib n n (s.size:Int) (0:Int) (⟨s.size,fun q=>bt s q⟩:Sq Int)).bind fun x_1=>iY x_1 (fun a_2=>k (dl a_2.n a_2.at')) (fun _=>none) (fun _=>none)
def mh (n:Nat) (s:BA):Option BA:=Wo n s some
theorem wM (n:Nat) {S:Type}:∀ s (φ:_→Option S),(mh n s).bind φ=Wo n s φ:=by
  intros;unfold mh Wo;first | (simp only [ia,ba,iB,bB,oL,oX,nB,Option.bind_some]) | rfl
def oh (n:Nat):Hint Out:={ live:=fun c=>(cond (Nat.beq c 0) [(3,some (.sl (.int .u8))),(8,some (.sl (.int .u8))),(9,none),(10,none)] []),run:=fun c=>(cond (Nat.beq c 0) (some (vp Qj Pj fun σ ρ K=>(ib n n σ.1 σ.2.1 ρ.1).bind (Lc K))) none),xm:=fun c q=>(cond (Nat.beq c 0&&Nat.beq (q.getD 1000000) 0&&q.isSome) (some [(3,some (.sl (.int .u8)))]) none) }
def nh (n:Nat) (K:XE→List AV→la→Option Out) (m:Nat) (t9:Int) (t10:Int) (b:(Sq Int)):Option Out:=lf tys (fa Out (Oh n)) (oh n) n (Da [1,1,0,1,0,0] (aa Tryz.f159)) 0 Qj Pj K m (t9,(t10,())) (b,())
theorem Ys (n:Nat) (K:XE→List AV→la→Option Out):∀ (m:Nat) t9 t10 b,nh n K m t9 t10 b=(ib n m t9 t10 b).bind (Lc K)
  | 0,_,_,_=>by kernel_rfl
  | m+1,t9,t10,b=>by
    have h1:nh n K (m+1) t9 t10 b=zd n t9 t10 b (nh n K m) (fun a=>Lc K (.out a)) (fun a=>Lc K (.ret a)) (fun p=>Lc K (.pan p)):=by kernel_rfl
    have h2:nh n K m=fun t9 t10 b=>(ib n m t9 t10 b).bind (Lc K):=by
      repeat (refine funext fun _=>?_)
      exact Ys n K m _ _ _
    rw [h1,h2];exact (rE n m _ _ _ (Lc K)).symm
theorem kC (n:Nat):le tys (fa Out (Oh n)) (oh n) n (Da [1,1,0,1,0,0] (aa Tryz.f159)) 0:=Oa (sp:=Qj) (rp:=Pj) (by kernel_rfl) fun K σ ρ=>Ys n K n σ.1 σ.2.1 ρ.1
theorem sE (n:Nat):ya tys (fa Out (Oh n)) (oh n) n (aa Tryz.f159) 0:=⟨trivial,⟨trivial,⟨⟨trivial,⟨kC n,⟨trivial,⟨⟨trivial,trivial⟩,⟨⟨trivial,⟨trivial,⟨trivial,trivial⟩⟩⟩,trivial⟩⟩⟩⟩⟩,⟨trivial,trivial⟩⟩⟩⟩
theorem zG (n:Nat):Enters Tryz.prog 159:=enters_of (c:=aa Tryz.f159) Tryz.func159 (by kernel_rfl) (by kernel_rfl)
def Gz (n:Nat):Entry:=⟨159,nY (.pair .str .unit) (.one .str) (fun xs=>mh n xs.1),none,none⟩
theorem eJ (n:Nat):EntryOk Tryz.prog gl (Gz n):=Ea (zG n) fun xs y h=>ma tys_ok (jq n) mixed (hint:=oh n) (n:=n) Tryz.func159 (Ha (sE n)) (oa (φ:=(fun y=>some (Out.ret (Ub (.one .str) y)))) (by kernel_rfl) (wM n xs.1 _) h)
def Uq (n:Nat):List Entry:=Gz n::Oh n
theorem Rj (n:Nat):AllOk Tryz.prog gl (Uq n):=.cons (eJ n) (jq n)
def sg (n:Nat) {R:Type} (s:BA) (k:U0→Option R) (kp:Int→Option R):Option R:=(ef n s).bind fun x_1=>jY x_1 (fun p=>kp p) (fun v=>if (decide ((v.1.size:Int)≤(64:Int)))=true then (rb n v.2.1 (⟨#[64]⟩:BA)).bind fun v1=>(Wa n v1).bind fun x_2=>jY x_2 (fun p1=>kp p1) (fun v2=>if 0≤(1:Int)∧(1:Int)≤(v.2.1.size:Int) then (mh n (v.2.1.extract (Int.toNat (1:Int)) (Int.toNat (v.2.1.size:Int)))).bind fun v3=>(wb n v3).bind fun v4=>(Wa n v4).bind fun x_3=>jY x_3 (fun p2=>kp p2) (fun v5=>k (v.1,(v3,()))) else none) else (Wa n false).bind fun x_4=>jY x_4 (fun p3=>kp p3) (fun v6=>if 0≤(1:Int)∧(1:Int)≤(v.2.1.size:Int) then (mh n (v.2.1.extract (Int.toNat (1:Int)) (Int.toNat (v.2.1.size:Int)))).bind fun v7=>(wb n v7).bind fun v8=>(Wa n v8).bind fun x_5=>jY x_5 (fun p4=>kp p4) (fun v9=>k (v.1,(v7,()))) else none))
def Sh (n:Nat) (s:BA):Option (Except Int U0):=sg n s (fun y=>some (.ok y)) (fun p=>some (.error p))
theorem xG (n:Nat) {S:Type}:∀ s (φ:_→Option S),(Sh n s).bind φ=sg n s (fun y=>φ (.ok y)) (fun p=>φ (.error p)):=by
  intros;unfold Sh sg;first | (simp only [ia,ba,iB,bB,oL,oX,nB,Option.bind_some]) | rfl
def Ym (n:Nat):Hint Out:={ live:=fun c=>[],run:=fun c=>none,xm:=fun c q=>none }
theorem Xw (n:Nat):ya tys (fa Out (Uq n)) (Ym n) n (aa Tryz.f147) 0:=pa (fun _=>rfl) _ _ (by kernel_rfl)
theorem cJ (n:Nat):Enters Tryz.prog 147:=enters_of (c:=aa Tryz.f147) Tryz.func147 (by kernel_rfl) (by kernel_rfl)
def rD (n:Nat):Entry:=⟨147,oY 184 (.pair .str .unit) (.one (.pair .str (.pair .str .unit))) (fun xs=>Sh n xs.1),none,none⟩
theorem uM (n:Nat):EntryOk Tryz.prog gl (rD n):=Ut (cJ n) (fun xs y h=>ma tys_ok (Rj n) mixed (hint:=Ym n) (n:=n) Tryz.func147 (Ha (Xw n)) (oa (φ:=(fun r=>jY r (fun p=>some (Out.pan (ge 184 p))) fun y=>some (Out.ret (Ub (.one (.pair .str (.pair .str .unit))) y)))) (by kernel_rfl) (xG n xs.1 _) h)) (fun xs p h=>ma tys_ok (Rj n) mixed (hint:=Ym n) (n:=n) Tryz.func147 (Ha (Xw n)) (oa (φ:=(fun r=>jY r (fun p=>some (Out.pan (ge 184 p))) fun y=>some (Out.ret (Ub (.one (.pair .str (.pair .str .unit))) y)))) (by kernel_rfl) (xG n xs.1 _) h))
def Hh (n:Nat):List Entry:=rD n::Uq n
theorem Vs (n:Nat):AllOk Tryz.prog gl (Hh n):=.cons (uM n) (Rj n)
def Gh (n:Nat) {R:Type} (s:BA) (k:(U0×Int×Unit)→Option R):Option R:=(Sh n s).bind fun x_1=>jY x_1 (fun p=>k (((⟨#[]⟩:BA),((⟨#[]⟩:BA),())),(p,()))) (fun v=>k ((v.1,(v.2.1,())),((0:Int),())))
def bh (n:Nat) (s:BA):Option (U0×Int×Unit):=Gh n s some
theorem nM (n:Nat) {S:Type}:∀ s (φ:_→Option S),(bh n s).bind φ=Gh n s φ:=by
  intros;unfold bh Gh;first | (simp only [ia,ba,iB,bB,oL,oX,nB,Option.bind_some]) | rfl
def ch (n:Nat):Hint Out:={ live:=fun c=>[],run:=fun c=>none,xm:=fun c q=>none,pm:=some [(2,none),(3,none)] }
theorem iE (n:Nat):ya tys (fa Out (Hh n)) (ch n) n (Da [0] (aa Tryz.f120)) 0∧ya tys (fa Out (Hh n)) (ch n) n (Da [1,1] (aa Tryz.f120)) 0:=⟨trivial,⟨trivial,trivial⟩⟩
theorem nG (n:Nat):Enters Tryz.prog 120:=enters_of (c:=aa Tryz.f120) Tryz.func120 (by kernel_rfl) (by kernel_rfl)
theorem Sw:Tryz.prog.funcs[146]?=some Tryz.f146:=by kernel_rfl
theorem gE:Enters Tryz.prog 146:=enters_of (c:=aa Tryz.f146) Sw (by kernel_rfl) (by kernel_rfl)
theorem cC (n:Nat):ya tys (fa Out (Hh n)) UE n (Da [1] (aa Tryz.f146)) 0:=⟨⟨trivial,⟨trivial,trivial⟩⟩,⟨trivial,⟨⟨trivial,⟨trivial,trivial⟩⟩,trivial⟩⟩⟩
theorem mM (n:Nat) (s:BA):DX tys (fa Out (Hh n)) (ch n) n 146 Tryz.f146 Tryz.f120 (SM (.pair .str .unit) (s,())) (lK fun v=>some (.ret v))=Gh n s (fun y=>some (.ret (Ub (.many (.pair (.pair .str (.pair .str .unit)) (.pair (.int .i64) .unit))) y))):=by kernel_rfl
def uz (n:Nat):Entry:=⟨120,nY (.pair .str .unit) (.many (.pair (.pair .str (.pair .str .unit)) (.pair (.int .i64) .unit))) (fun xs=>bh n xs.1),none,none⟩
theorem VI (n:Nat):EntryOk Tryz.prog gl (uz n):=Ea (nG n) fun xs y h=>tD tys_ok (Vs n) mixed (hint:=ch n) (n:=n) (fn:=Tryz.f120) (f2:=Tryz.f146) Tryz.func120 Sw gE (HU (iE n)) (UR (cC n)) (oa (φ:=(fun y=>some (Out.ret (Ub (.many (.pair (.pair .str (.pair .str .unit)) (.pair (.int .i64) .unit))) y)))) (mM n xs.1) (nM n xs.1 _) h)
def Nq (n:Nat):List Entry:=uz n::Hh n
theorem iq (n:Nat):AllOk Tryz.prog gl (Nq n):=.cons (VI n) (Vs n)
def az (n:Nat) {R:Type} (m0:U0) (k:Bool→Option R):Option R:=(mD n (m0.1,(m0.2.1,()))).bind fun v=>(bh n v).bind fun v1=>if (v1.2.1==(0:Int))=true then k ((v1.1.1.toList==m0.1.toList)&&((v1.1.2.1.toList==m0.2.1.toList)&&true)) else k false
def Oi (n:Nat) (m0:U0):Option Bool:=az n m0 some
theorem jQ (n:Nat) {S:Type}:∀ m0 (φ:_→Option S),(Oi n m0).bind φ=az n m0 φ:=by
  intros;unfold Oi az;first | (simp only [ia,ba,iB,bB,oL,oX,nB,Option.bind_some]) | rfl
def tz (n:Nat):Hint Out:={ live:=fun c=>[],run:=fun c=>none,xm:=fun c q=>none }
theorem UI (n:Nat):ya tys (fa Out (Nq n)) (tz n) n (aa Tryz.f104) 0:=pa (fun _=>rfl) _ _ (by kernel_rfl)
theorem lM (n:Nat):Enters Tryz.prog 104:=enters_of (c:=aa Tryz.f104) Tryz.func104 (by kernel_rfl) (by kernel_rfl)
def mG (n:Nat):Entry:=⟨104,nY (.pair (.pair .str (.pair .str .unit)) .unit) (.one .bool) (fun xs=>Oi n xs.1),none,none⟩
theorem cO (n:Nat):EntryOk Tryz.prog gl (mG n):=Ea (lM n) fun xs y h=>ma tys_ok (iq n) mixed (hint:=tz n) (n:=n) Tryz.func104 (Ha (UI n)) (oa (φ:=(fun y=>some (Out.ret (Ub (.one .bool) y)))) (by kernel_rfl) (jQ n xs.1 _) h)
def Tm (n:Nat):List Entry:=mG n::Nq n
theorem Rw (n:Nat):AllOk Tryz.prog gl (Tm n):=.cons (cO n) (iq n)
def WA (n:Nat) {R:Type} (s1:(Sq U0)) (t7 t8:Int) (v1 v2:BA) (kn:(Sq U0)→Int→Int→BA→BA→Option R) (ko:(Unit)→Option R) (kr:(Int)→Option R) (kp:Int→Option R):Option R:=if (decide (t8<t7))=true then if 0≤t8∧t8<(s1.n:Int) then if ((v1.toList==(((s1.at' (Int.toNat t8))).1).toList)&&((v2.toList==((((s1.at' (Int.toNat t8))).2).1).toList)&&true))=true then kr t8 else kn s1 t7 (IntKind.wrap .i64 (t8+(1:Int))) v1 v2 else none else ko ()
def Dm (n:Nat):Nat→(Sq U0)→Int→Int→BA→BA→Option (Lx (Unit) (Int))
 | 0,_,_,_,_,_=>none
 | m+1,s1,t7,t8,v1,v2=>WA n s1 t7 t8 v1 v2 (Dm n m) (fun a=>some (.out a)) (fun a=>some (.ret a)) (fun p=>some (.pan p))
theorem dR (n m:Nat) {S:Type}:∀ s1 t7 t8 v1 v2 (φ:_→Option S),(Dm n (m+1) s1 t7 t8 v1 v2).bind φ=WA n s1 t7 t8 v1 v2 (fun s1 t7 t8 v1 v2=>(Dm n m s1 t7 t8 v1 v2).bind φ) (fun a=>φ (.out a)) (fun a=>φ (.ret a)) (fun p=>φ (.pan p)):=by
  intros;first | (simp only [Dm,WA,ia,ba,iB,bB,oL,oX,nB,Option.bind_some]) | rfl
def YA:List Sl:=.dat (.sl (.pair .str (.pair .str .unit)))::.top::.top::.ptr 0 0 0::.top::.top::.top::.dat (.int .i64)::.dat (.int .i64)::tp 10 []
def XA:List RS:=[.box 47 2 true [.dat .str,.dat .str]]
def wF:List Sl:=tp 19 []
def vF:List RS:=[]
def yF:List Sl:=tp 4 (.dat (.int .i64)::tp 14 [])
def xF:List RS:=[]
def am (K:XE→List AV→la→Option Out):Lx (Unit) (Int)→Option Out:=fun x=>iY x (fun a=>Jh wF vF () () (K (.exit 0))) (fun a=>Jh yF xF (a,()) () (K .ret)) (fun _=>none)
def cR (n:Nat) {R:Type} (s:(Sq U0)) (v:U0) (k:Int→Option R):Option R:=(Dm n n s (s.n:Int) (0:Int) v.1 v.2.1).bind fun x_1=>iY x_1 (fun a_2=>k (-1:Int)) (fun a_3=>k a_3) (fun _=>none)
def sY (n:Nat) (s:(Sq U0)) (v:U0):Option Int:=cR n s v some
theorem VV (n:Nat) {S:Type}:∀ s v (φ:_→Option S),(sY n s v).bind φ=cR n s v φ:=by
  intros;unfold sY cR;first | (simp only [ia,ba,iB,bB,oL,oX,nB,Option.bind_some]) | rfl
def nz (n:Nat):Hint Out:={ live:=fun c=>(cond (Nat.beq c 0) [(0,some (.sl (.pair .str (.pair .str .unit)))),(3,none),(7,none),(8,none)] []),run:=fun c=>(cond (Nat.beq c 0) (some (vp YA XA fun σ ρ K=>(Dm n n σ.1 σ.2.1 σ.2.2.1 ρ.1.1 ρ.1.2.1).bind (am K))) none),xm:=fun c q=>(cond (Nat.beq c 0&&Nat.beq (q.getD 1000000) 0&&q.isSome) (some []) (cond (Nat.beq c 1&&q.isNone) (some [(4,none)]) none)) }
def mz (n:Nat) (K:XE→List AV→la→Option Out) (m:Nat) (s1:(Sq U0)) (t7:Int) (t8:Int) (v1:BA) (v2:BA):Option Out:=lf tys (fa Out (Tm n)) (nz n) n (Da [1,0,1,0,0] (aa Tryz.f82)) 0 YA XA K m (s1,(t7,(t8,()))) ((v1,(v2,())),())
theorem TL (n:Nat) (K:XE→List AV→la→Option Out):∀ (m:Nat) s1 t7 t8 v1 v2,mz n K m s1 t7 t8 v1 v2=(Dm n m s1 t7 t8 v1 v2).bind (am K)
  | 0,_,_,_,_,_=>by kernel_rfl
  | m+1,s1,t7,t8,v1,v2=>by
    have h1:mz n K (m+1) s1 t7 t8 v1 v2=WA n s1 t7 t8 v1 v2 (mz n K m) (fun a=>am K (.out a)) (fun a=>am K (.ret a)) (fun p=>am K (.pan p)):=by kernel_rfl
    have h2:mz n K m=fun s1 t7 t8 v1 v2=>(Dm n m s1 t7 t8 v1 v2).bind (am K):=by
      repeat (refine funext fun _=>?_)
      exact TL n K m _ _ _ _ _
    rw [h1,h2];exact (dR n m _ _ _ _ _ (am K)).symm
theorem uP (n:Nat):le tys (fa Out (Tm n)) (nz n) n (Da [1,0,1,0,0] (aa Tryz.f82)) 0:=Oa (sp:=YA) (rp:=XA) (by kernel_rfl) fun K σ ρ=>TL n K n σ.1 σ.2.1 σ.2.2.1 ρ.1.1 ρ.1.2.1
theorem eR (n:Nat):ya tys (fa Out (Tm n)) (nz n) n (aa Tryz.f82) 0:=⟨trivial,⟨⟨trivial,⟨uP n,⟨trivial,⟨⟨trivial,trivial⟩,⟨⟨trivial,⟨trivial,⟨⟨trivial,trivial⟩,trivial⟩⟩⟩,trivial⟩⟩⟩⟩⟩,⟨trivial,trivial⟩⟩⟩
theorem oT (n:Nat):Enters Tryz.prog 82:=enters_of (c:=aa Tryz.f82) Tryz.func82 (by kernel_rfl) (by kernel_rfl)
def XR (n:Nat):Entry:=⟨82,nY K7 (.one (.int .i64)) (fun xs=>sY n xs.1 xs.2.1),none,none⟩
theorem JU (n:Nat):EntryOk Tryz.prog gl (XR n):=Ea (oT n) fun xs y h=>ma tys_ok (Rw n) mixed (hint:=nz n) (n:=n) Tryz.func82 (Ha (eR n)) (oa (φ:=(fun y=>some (Out.ret (Ub (.one (.int .i64)) y)))) (by kernel_rfl) (VV n xs.1 xs.2.1 _) h)
def vP (n:Nat):List Entry:=XR n::Tm n
theorem aI (n:Nat):AllOk Tryz.prog gl (vP n):=.cons (JU n) (Rw n)
def ZQ (n:Nat) {R:Type} (s:(Sq U0)) (v:U0) (k:Bool→Option R):Option R:=(sY n s (v.1,(v.2.1,()))).bind fun v1=>k (decide (v1≥(0:Int)))
def rY (n:Nat) (s:(Sq U0)) (v:U0):Option Bool:=ZQ n s v some
theorem UV (n:Nat) {S:Type}:∀ s v (φ:_→Option S),(rY n s v).bind φ=ZQ n s v φ:=by
  intros;unfold rY ZQ;first | (simp only [ia,ba,iB,bB,oL,oX,nB,Option.bind_some]) | rfl
def SL (n:Nat):Hint Out:={ live:=fun c=>[],run:=fun c=>none,xm:=fun c q=>none }
theorem aR (n:Nat):ya tys (fa Out (vP n)) (SL n) n (aa Tryz.f44) 0:=pa (fun _=>rfl) _ _ (by kernel_rfl)
theorem nT (n:Nat):Enters Tryz.prog 44:=enters_of (c:=aa Tryz.f44) Tryz.func44 (by kernel_rfl) (by kernel_rfl)
def WR (n:Nat):Entry:=⟨44,nY K7 (.one .bool) (fun xs=>rY n xs.1 xs.2.1),none,none⟩
theorem IU (n:Nat):EntryOk Tryz.prog gl (WR n):=Ea (nT n) fun xs y h=>ma tys_ok (aI n) mixed (hint:=SL n) (n:=n) Tryz.func44 (Ha (aR n)) (oa (φ:=(fun y=>some (Out.ret (Ub (.one .bool) y)))) (by kernel_rfl) (UV n xs.1 xs.2.1 _) h)
def VH (n:Nat):List Entry:=WR n::vP n
theorem WH (n:Nat):AllOk Tryz.prog gl (VH n):=.cons (IU n) (aI n)
def Jv (n:Nat) {R:Type} (l1 t5:(Sq U0)) (t6 t7:Int) (kn:(Sq U0)→(Sq U0)→Int→Int→Option R) (ko:((Sq U0))→Option R) (kr:(Bool)→Option R) (kp:Int→Option R):Option R:=if (decide (t7<t6))=true then if 0≤t7∧t7<(t5.n:Int) then (Oi n (((t5.at' (Int.toNat t7))).1,((((t5.at' (Int.toNat t7))).2).1,()))).bind fun v=>if (!v)=false then if 0≤t7∧t7≤(l1.n:Int) then (rY n (⟨((Int.toNat t7) - (Int.toNat (0:Int))),fun i=>l1.at' ((Int.toNat (0:Int))+i)⟩:Sq U0) (((t5.at' (Int.toNat t7))).1,((((t5.at' (Int.toNat t7))).2).1,()))).bind fun v1=>if v1=true then kr false else kn l1 t5 t6 (IntKind.wrap .i64 (t7+(1:Int))) else none else kr false else none else ko l1
def Yh (n:Nat):Nat→(Sq U0)→(Sq U0)→Int→Int→Option (Lx ((Sq U0)) (Bool))
 | 0,_,_,_,_=>none
 | m+1,l1,t5,t6,t7=>Jv n l1 t5 t6 t7 (Yh n m) (fun a=>some (.out a)) (fun a=>some (.ret a)) (fun p=>some (.pan p))
theorem sO (n m:Nat) {S:Type}:∀ l1 t5 t6 t7 (φ:_→Option S),(Yh n (m+1) l1 t5 t6 t7).bind φ=Jv n l1 t5 t6 t7 (fun l1 t5 t6 t7=>(Yh n m l1 t5 t6 t7).bind φ) (fun a=>φ (.out a)) (fun a=>φ (.ret a)) (fun p=>φ (.pan p)):=by
  intros;first | (simp only [Yh,Jv,ia,ba,iB,bB,oL,oX,nB,Option.bind_some]) | rfl
def Lv:List Sl:=.dat (.sl (.pair .str (.pair .str .unit)))::tp 4 (.dat (.sl (.pair .str (.pair .str .unit)))::.dat (.int .i64)::.dat (.int .i64)::tp 18 [])
def Kv:List RS:=[]
def xC:List Sl:=.dat (.sl (.pair .str (.pair .str .unit)))::tp 25 []
def wC:List RS:=[]
def zC:List Sl:=.top::.top::.dat .bool::tp 23 []
def yC:List RS:=[]
def Zh (K:XE→List AV→la→Option Out):Lx ((Sq U0)) (Bool)→Option Out:=fun x=>iY x (fun a=>Jh xC wC (a,()) () (K (.exit 0))) (fun a=>Jh zC yC (a,()) () (K .ret)) (fun _=>none)
def gL (n:Nat) {R:Type} (l:(Sq U0)) (k:Bool→Option R):Option R:=(Yh n n l l (l.n:Int) (0:Int)).bind fun x_1=>iY x_1 (fun a_2=>k (decide ((a_2.n:Int)≤(8:Int)))) (fun a_3=>k a_3) (fun _=>none)
def vQ (n:Nat) (l:(Sq U0)):Option Bool:=gL n l some
theorem lU (n:Nat) {S:Type}:∀ l (φ:_→Option S),(vQ n l).bind φ=gL n l φ:=by
  intros;unfold vQ gL;first | (simp only [ia,ba,iB,bB,oL,oX,nB,Option.bind_some]) | rfl
def Ft (n:Nat):Hint Out:={ live:=fun c=>(cond (Nat.beq c 0) [(0,some (.sl (.pair .str (.pair .str .unit)))),(5,some (.sl (.pair .str (.pair .str .unit)))),(6,none),(7,none)] []),run:=fun c=>(cond (Nat.beq c 0) (some (vp Lv Kv fun σ ρ K=>(Yh n n σ.1 σ.2.1 σ.2.2.1 σ.2.2.2.1).bind (Zh K))) none),xm:=fun c q=>(cond (Nat.beq c 0&&Nat.beq (q.getD 1000000) 0&&q.isSome) (some [(0,some (.sl (.pair .str (.pair .str .unit))))]) (cond (Nat.beq c 1&&q.isNone) (some [(2,none)]) none)) }
def Et (n:Nat) (K:XE→List AV→la→Option Out) (m:Nat) (l1:(Sq U0)) (t5:(Sq U0)) (t6:Int) (t7:Int):Option Out:=lf tys (fa Out (VH n)) (Ft n) n (Da [1,0,1,0,0] (aa Tryz.f105)) 0 Lv Kv K m (l1,(t5,(t6,(t7,())))) ()
theorem bH (n:Nat) (K:XE→List AV→la→Option Out):∀ (m:Nat) l1 t5 t6 t7,Et n K m l1 t5 t6 t7=(Yh n m l1 t5 t6 t7).bind (Zh K)
  | 0,_,_,_,_=>by kernel_rfl
  | m+1,l1,t5,t6,t7=>by
    have h1:Et n K (m+1) l1 t5 t6 t7=Jv n l1 t5 t6 t7 (Et n K m) (fun a=>Zh K (.out a)) (fun a=>Zh K (.ret a)) (fun p=>Zh K (.pan p)):=by kernel_rfl
    have h2:Et n K m=fun l1 t5 t6 t7=>(Yh n m l1 t5 t6 t7).bind (Zh K):=by
      repeat (refine funext fun _=>?_)
      exact bH n K m _ _ _ _
    rw [h1,h2];exact (sO n m _ _ _ _ (Zh K)).symm
theorem LM (n:Nat):le tys (fa Out (VH n)) (Ft n) n (Da [1,0,1,0,0] (aa Tryz.f105)) 0:=Oa (sp:=Lv) (rp:=Kv) (by kernel_rfl) fun K σ ρ=>bH n K n σ.1 σ.2.1 σ.2.2.1 σ.2.2.2.1
theorem uO (n:Nat):ya tys (fa Out (VH n)) (Ft n) n (aa Tryz.f105) 0:=⟨trivial,⟨⟨trivial,⟨LM n,⟨trivial,⟨⟨trivial,trivial⟩,⟨⟨trivial,⟨trivial,⟨⟨trivial,trivial⟩,trivial⟩⟩⟩,trivial⟩⟩⟩⟩⟩,⟨trivial,trivial⟩⟩⟩
theorem wQ (n:Nat):Enters Tryz.prog 105:=enters_of (c:=aa Tryz.f105) Tryz.func105 (by kernel_rfl) (by kernel_rfl)
def tO (n:Nat):Entry:=⟨105,nY (.pair (.sl (.pair .str (.pair .str .unit))) .unit) (.one .bool) (fun xs=>vQ n xs.1),none,none⟩
theorem wS (n:Nat):EntryOk Tryz.prog gl (tO n):=Ea (wQ n) fun xs y h=>ma tys_ok (WH n) mixed (hint:=Ft n) (n:=n) Tryz.func105 (Ha (uO n)) (oa (φ:=(fun y=>some (Out.ret (Ub (.one .bool) y)))) (by kernel_rfl) (lU n xs.1 _) h)
def zJ (n:Nat):List Entry:=tO n::VH n
theorem AD (n:Nat):AllOk Tryz.prog gl (zJ n):=.cons (wS n) (WH n)
def Vi (n:Nat) {R:Type} (c:T0) (k:Bool→Option R):Option R:=if (decide (c.2.2.2.2.1<(2:Int)))=false then if (decide (c.2.2.2.2.1>(4:Int)))=true then if (!c.2.2.2.2.2.2.1)=true then if ((c.2.2.2.2.2.2.2.1.1.toList==(⟨#[]⟩:BA).toList)&&((c.2.2.2.2.2.2.2.1.2.1.toList==(⟨#[]⟩:BA).toList)&&true))=true then k ((c.2.2.2.2.2.2.2.2.1.n:Int)==(0:Int)) else k false else k false else if c.2.2.2.2.2.2.1=true then if (!((c.2.2.2.2.2.2.2.1.1.toList==(⟨#[]⟩:BA).toList)&&((c.2.2.2.2.2.2.2.1.2.1.toList==(⟨#[]⟩:BA).toList)&&true)))=false then if (!c.2.2.2.2.2.2.1)=true then (Oi n c.2.2.2.2.2.2.2.1).bind fun v=>if (!v)=true then k false else (vQ n c.2.2.2.2.2.2.2.2.1).bind fun v1=>if v1=true then k (((c.2.2.2.2.2.2.2.2.1.n:Int)==(0:Int))==(c.2.2.2.2.1==(2:Int))) else k false else (vQ n c.2.2.2.2.2.2.2.2.1).bind fun v2=>if v2=true then k (((c.2.2.2.2.2.2.2.2.1.n:Int)==(0:Int))==(c.2.2.2.2.1==(2:Int))) else k false else k false else if (!c.2.2.2.2.2.2.1)=true then (Oi n c.2.2.2.2.2.2.2.1).bind fun v3=>if (!v3)=true then k false else (vQ n c.2.2.2.2.2.2.2.2.1).bind fun v4=>if v4=true then k (((c.2.2.2.2.2.2.2.2.1.n:Int)==(0:Int))==(c.2.2.2.2.1==(2:Int))) else k false else (vQ n c.2.2.2.2.2.2.2.2.1).bind fun v5=>if v5=true then k (((c.2.2.2.2.2.2.2.2.1.n:Int)==(0:Int))==(c.2.2.2.2.1==(2:Int)))
 else k false else if (!c.2.2.2.2.2.2.1)=true then if ((c.2.2.2.2.2.2.2.1.1.toList==(⟨#[]⟩:BA).toList)&&((c.2.2.2.2.2.2.2.1.2.1.toList==(⟨#[]⟩:BA).toList)&&true))=true then k ((c.2.2.2.2.2.2.2.2.1.n:Int)==(0:Int)) else k false else k false
def ab (n:Nat) (c:T0):Option Bool:=Vi n c some
theorem TG (n:Nat) {S:Type}:∀ c (φ:_→Option S),(ab n c).bind φ=Vi n c φ:=by
  intros;unfold ab Vi;first | (simp only [ia,ba,iB,bB,oL,oX,nB,Option.bind_some]) | rfl
def un (n:Nat):Hint Out:={ live:=fun c=>[],run:=fun c=>none,xm:=fun c q=>none }
theorem Yz (n:Nat):ya tys (fa Out (zJ n)) (un n) n (aa Tryz.f75) 0:=pa (fun _=>rfl) _ _ (by kernel_rfl)
theorem uC (n:Nat):Enters Tryz.prog 75:=enters_of (c:=aa Tryz.f75) Tryz.func75 (by kernel_rfl) (by kernel_rfl)
def vt (n:Nat):Entry:=⟨75,nY K1 (.one .bool) (fun xs=>ab n xs.1),none,none⟩
theorem HE (n:Nat):EntryOk Tryz.prog gl (vt n):=Ea (uC n) fun xs y h=>ma tys_ok (AD n) mixed (hint:=un n) (n:=n) Tryz.func75 (Ha (Yz n)) (oa (φ:=(fun y=>some (Out.ret (Ub (.one .bool) y)))) (by kernel_rfl) (TG n xs.1 _) h)
def wt (n:Nat):List Entry:=vt n::zJ n
theorem cy (n:Nat):AllOk Tryz.prog gl (wt n):=.cons (HE n) (AD n)
def Yf (n:Nat):List Entry:=⟨133,nY (.pair .str (.pair .str .unit)) (.one .bool) (fun xs=>PM xs.1 xs.2.1),none,none⟩::wt n
theorem Wg (n:Nat):AllOk Tryz.prog gl (Yf n):=.cons CC (cy n)
def Nl (n:Nat) {R:Type} (s:BA) (k:Bool→Option R):Option R:=if (decide ((s.size:Int)≤(509:Int)))=true then (PM s (⟨#[13,10]⟩:BA)).bind fun v=>k (!v) else k false
def vg (n:Nat) (s:BA):Option Bool:=Nl n s some
theorem HJ (n:Nat) {S:Type}:∀ s (φ:_→Option S),(vg n s).bind φ=Nl n s φ:=by
  intros;unfold vg Nl;first | (simp only [ia,ba,iB,bB,oL,oX,nB,Option.bind_some]) | rfl
def sq (n:Nat):Hint Out:={ live:=fun c=>[],run:=fun c=>none,xm:=fun c q=>none }
theorem DC (n:Nat):ya tys (fa Out (Yf n)) (sq n) n (aa Tryz.f108) 0:=pa (fun _=>rfl) _ _ (by kernel_rfl)
theorem OE (n:Nat):Enters Tryz.prog 108:=enters_of (c:=aa Tryz.f108) Tryz.func108 (by kernel_rfl) (by kernel_rfl)
def sx (n:Nat):Entry:=⟨108,nY (.pair .str .unit) (.one .bool) (fun xs=>vg n xs.1),none,none⟩
theorem gH (n:Nat):EntryOk Tryz.prog gl (sx n):=Ea (OE n) fun xs y h=>ma tys_ok (Wg n) mixed (hint:=sq n) (n:=n) Tryz.func108 (Ha (DC n)) (oa (φ:=(fun y=>some (Out.ret (Ub (.one .bool) y)))) (by kernel_rfl) (HJ n xs.1 _) h)
def En (n:Nat):List Entry:=sx n::Yf n
theorem Fn (n:Nat):AllOk Tryz.prog gl (En n):=.cons (gH n) (Wg n)
def ap (n:Nat) {R:Type} (s:BA) (k:Bool→Option R):Option R:=(vg n s).bind fun v=>k (!v)
def Zo (n:Nat) (s:BA):Option Bool:=ap n s some
theorem JM (n:Nat) {S:Type}:∀ s (φ:_→Option S),(Zo n s).bind φ=ap n s φ:=by
  intros;unfold Zo ap;first | (simp only [ia,ba,iB,bB,oL,oX,nB,Option.bind_some]) | rfl
def Dt (n:Nat):Hint Out:={ live:=fun c=>[],run:=fun c=>none,xm:=fun c q=>none }
theorem JE (n:Nat):ya tys (fa Out (En n)) (Dt n) n (aa Tryz.f107) 0:=pa (fun _=>rfl) _ _ (by kernel_rfl)
theorem YG (n:Nat):Enters Tryz.prog 107:=enters_of (c:=aa Tryz.f107) Tryz.func107 (by kernel_rfl) (by kernel_rfl)
def cA (n:Nat):Entry:=⟨107,nY (.pair .str .unit) (.one .bool) (fun xs=>Zo n xs.1),none,none⟩
theorem xJ (n:Nat):EntryOk Tryz.prog gl (cA n):=Ea (YG n) fun xs y h=>ma tys_ok (Fn n) mixed (hint:=Dt n) (n:=n) Tryz.func107 (Ha (JE n)) (oa (φ:=(fun y=>some (Out.ret (Ub (.one .bool) y)))) (by kernel_rfl) (JM n xs.1 _) h)
def Wh (n:Nat):List Entry:=cA n::En n
theorem rq (n:Nat):AllOk Tryz.prog gl (Wh n):=.cons (xJ n) (Fn n)
def wi (n:Nat) {R:Type} (s1:(Sq BA)) (t7 t8:Int) (kn:(Sq BA)→Int→Int→Option R) (ko:(Unit)→Option R) (kr:(Int)→Option R) (kp:Int→Option R):Option R:=if (decide (t8<t7))=true then if 0≤t8∧t8<(s1.n:Int) then (Zo n (s1.at' (Int.toNat t8))).bind fun v=>if v=true then kr t8 else kn s1 t7 (IntKind.wrap .i64 (t8+(1:Int))) else none else ko ()
def ed (n:Nat):Nat→(Sq BA)→Int→Int→Option (Lx (Unit) (Int))
 | 0,_,_,_=>none
 | m+1,s1,t7,t8=>wi n s1 t7 t8 (ed n m) (fun a=>some (.out a)) (fun a=>some (.ret a)) (fun p=>some (.pan p))
theorem jK (n m:Nat) {S:Type}:∀ s1 t7 t8 (φ:_→Option S),(ed n (m+1) s1 t7 t8).bind φ=wi n s1 t7 t8 (fun s1 t7 t8=>(ed n m s1 t7 t8).bind φ) (fun a=>φ (.out a)) (fun a=>φ (.ret a)) (fun p=>φ (.pan p)):=by
  intros;first | (simp only [ed,wi,ia,ba,iB,bB,oL,oX,nB,Option.bind_some]) | rfl
def go:List Sl:=.dat (.sl .str)::.fnc 107::tp 5 (.dat (.int .i64)::.dat (.int .i64)::tp 10 [])
def eo:List RS:=[.ghost [.top,.top]]
def Cy:List Sl:=tp 19 []
def By:List RS:=[.ghost [.top,.top]]
def Ey:List Sl:=tp 4 (.dat (.int .i64)::tp 14 [])
def Dy:List RS:=[.ghost [.top,.top]]
def Le (K:XE→List AV→la→Option OutS):Lx (Unit) (Int)→Option OutS:=fun x=>iY x (fun a=>Jh Cy By () ((),()) (K (.exit 0))) (fun a=>Jh Ey Dy (a,()) ((),()) (K .ret)) (fun _=>none)
def lz (n:Nat) {R:Type} (s:(Sq BA)) (k:(Int×Unit)→Option R):Option R:=(ed n n s (s.n:Int) (0:Int)).bind fun x_1=>iY x_1 (fun a_2=>k ((-1:Int),())) (fun a_3=>k (a_3,())) (fun _=>none)
def MD (n:Nat) (s:(Sq BA)):Option (Int×Unit):=lz n s some
theorem bR (n:Nat) {S:Type}:∀ s (φ:_→Option S),(MD n s).bind φ=lz n s φ:=by
  intros;unfold MD lz;first | (simp only [ia,ba,iB,bB,oL,oX,nB,Option.bind_some]) | rfl
def Zl (n:Nat):Hint OutS:={ live:=fun c=>(cond (Nat.beq c 0) [(0,some (.sl .str)),(1,none),(7,none),(8,none)] []),run:=fun c=>(cond (Nat.beq c 0) (some (vp go eo fun σ ρ K=>(ed n n σ.1 σ.2.1 σ.2.2.1).bind (Le K))) none),xm:=fun c q=>(cond (Nat.beq c 0&&Nat.beq (q.getD 1000000) 0&&q.isSome) (some []) (cond (Nat.beq c 1&&q.isNone) (some [(4,none)]) none)) }
def Yl (n:Nat) (K:XE→List AV→la→Option OutS) (m:Nat) (s1:(Sq BA)) (t7:Int) (t8:Int):Option OutS:=lf tys (fa OutS (Wh n)) (Zl n) n (Da [1,0,1,0,0] (aa Tryz.f132)) 0 go eo K m (s1,(t7,(t8,()))) ((),())
theorem UA (n:Nat) (K:XE→List AV→la→Option OutS):∀ (m:Nat) s1 t7 t8,Yl n K m s1 t7 t8=(ed n m s1 t7 t8).bind (Le K)
  | 0,_,_,_=>by kernel_rfl
  | m+1,s1,t7,t8=>by
    have h1:Yl n K (m+1) s1 t7 t8=wi n s1 t7 t8 (Yl n K m) (fun a=>Le K (.out a)) (fun a=>Le K (.ret a)) (fun p=>Le K (.pan p)):=by kernel_rfl
    have h2:Yl n K m=fun s1 t7 t8=>(ed n m s1 t7 t8).bind (Le K):=by
      repeat (refine funext fun _=>?_)
      exact UA n K m _ _ _
    rw [h1,h2];exact (jK n m _ _ _ (Le K)).symm
theorem XH (n:Nat):le tys (fa OutS (Wh n)) (Zl n) n (Da [1,0,1,0,0] (aa Tryz.f132)) 0:=Oa (sp:=go) (rp:=eo) (by kernel_rfl) fun K σ ρ=>UA n K n σ.1 σ.2.1 σ.2.2.1
theorem kK (n:Nat):ya tys (fa OutS (Wh n)) (Zl n) n (aa Tryz.f132) 0:=⟨trivial,⟨⟨trivial,⟨XH n,⟨trivial,⟨⟨trivial,trivial⟩,⟨⟨trivial,⟨trivial,⟨⟨trivial,trivial⟩,trivial⟩⟩⟩,trivial⟩⟩⟩⟩⟩,⟨trivial,trivial⟩⟩⟩
theorem mN (n:Nat):Enters Tryz.prog 132:=enters_of (c:=aa Tryz.f132) Tryz.func132 (by kernel_rfl) (by kernel_rfl)
def ZH:List RSp:=[.one (.dat (.sl .str)),.one (.fnc 107)]
def YH:List RS:=[]
def nN:List Sl:=[.top,.top]
def oN:List RSp:=[.one (.dat (.int .i64))]
def yp:List RS:=[]
def uF (y:(Int×Unit)):OutS:=⟨false,Nm (Je yp ()) nN (),RD (GC (Je yp ()) oN ((y.1,()),())),It (Je yp ()) yp ()⟩
theorem tP (n:Nat):EntryOk Tryz.prog gl ⟨132,Vj,none,some (tX ZH YH (fun σ ρ=>MD n σ.1.1) uF)⟩:=ai (mN n) fun σ ρ y h=>nc tys_ok (rq n) mixed (hint:=Zl n) (n:=n) Tryz.func132 (Ha (kK n)) (oa (φ:=fun y=>some (uF y)) (by kernel_rfl) (bR n σ.1.1 _) h)
def VA (n:Nat):List Entry:=⟨132,Vj,none,some (tX ZH YH (fun σ ρ=>MD n σ.1.1) uF)⟩::Wh n
theorem Kx (n:Nat):AllOk Tryz.prog gl (VA n):=.cons (tP n) (rq n)
def kz (n:Nat) {R:Type} (s:(Sq BA)) (k:(Bool×Unit)→Option R):Option R:=(MD n s).bind fun v=>k ((decide (v.1≥(0:Int))),())
def Gx (n:Nat) (s:(Sq BA)):Option (Bool×Unit):=kz n s some
theorem YQ (n:Nat) {S:Type}:∀ s (φ:_→Option S),(Gx n s).bind φ=kz n s φ:=by
  intros;unfold Gx kz;first | (simp only [ia,ba,iB,bB,oL,oX,nB,Option.bind_some]) | rfl
def TA (n:Nat):Hint OutS:={ live:=fun c=>[],run:=fun c=>none,xm:=fun c q=>none }
theorem iK (n:Nat):ya tys (fa OutS (VA n)) (TA n) n (aa Tryz.f106) 0:=pa (fun _=>rfl) _ _ (by kernel_rfl)
theorem jN (n:Nat):Enters Tryz.prog 106:=enters_of (c:=aa Tryz.f106) Tryz.func106 (by kernel_rfl) (by kernel_rfl)
def UH:List RSp:=[.one (.dat (.sl .str)),.one (.fnc 107)]
def TH:List RS:=[]
def kN:List Sl:=[.top,.top]
def lN:List RSp:=[.one (.dat .bool)]
def xp:List RS:=[]
def tF (y:(Bool×Unit)):OutS:=⟨false,Nm (Je xp ()) kN (),RD (GC (Je xp ()) lN ((y.1,()),())),It (Je xp ()) xp ()⟩
theorem sP (n:Nat):EntryOk Tryz.prog gl ⟨106,Vj,none,some (tX UH TH (fun σ ρ=>Gx n σ.1.1) tF)⟩:=ai (jN n) fun σ ρ y h=>nc tys_ok (Kx n) mixed (hint:=TA n) (n:=n) Tryz.func106 (Ha (iK n)) (oa (φ:=fun y=>some (tF y)) (by kernel_rfl) (YQ n σ.1.1 _) h)
def co (n:Nat):List Entry:=⟨106,Vj,none,some (tX UH TH (fun σ ρ=>Gx n σ.1.1) tF)⟩::VA n
theorem Ix (n:Nat):AllOk Tryz.prog gl (co n):=.cons (sP n) (Kx n)
def Bk (n:Nat) {R:Type} (n0:Int) (t5:(Sq BA)) (t6 t7:Int) (kn:Int→(Sq BA)→Int→Int→Option R) (ko:(Int)→Option R) (kr:Unit→Option R) (kp:Int→Option R):Option R:=if (decide (t7<t6))=true then if 0≤t7∧t7<(t5.n:Int) then kn (IntKind.wrap .i64 (n0+(IntKind.wrap .i64 (((t5.at' (Int.toNat t7)).size:Int)+(2:Int))))) t5 t6 (IntKind.wrap .i64 (t7+(1:Int))) else none else ko n0
def Cd (n:Nat):Nat→Int→(Sq BA)→Int→Int→Option (Lx (Int) Unit)
 | 0,_,_,_,_=>none
 | m+1,n0,t5,t6,t7=>Bk n n0 t5 t6 t7 (Cd n m) (fun a=>some (.out a)) (fun a=>some (.ret a)) (fun p=>some (.pan p))
theorem vJ (n m:Nat) {S:Type}:∀ n0 t5 t6 t7 (φ:_→Option S),(Cd n (m+1) n0 t5 t6 t7).bind φ=Bk n n0 t5 t6 t7 (fun n0 t5 t6 t7=>(Cd n m n0 t5 t6 t7).bind φ) (fun a=>φ (.out a)) (fun a=>φ (.ret a)) (fun p=>φ (.pan p)):=by
  intros;first | (simp only [Cd,Bk,ia,ba,iB,bB,oL,oX,nB,Option.bind_some]) | rfl
def wn:List Sl:=.top::.top::.dat (.int .i64)::.top::.top::.dat (.sl .str)::.dat (.int .i64)::.dat (.int .i64)::tp 10 []
def vn:List RS:=[]
def ey:List Sl:=.top::.top::.dat (.int .i64)::tp 15 []
def dy:List RS:=[]
def Ge (K:XE→List AV→la→Option Out):Lx (Int) Unit→Option Out:=fun x=>iY x (fun a=>Jh ey dy (a,()) () (K (.exit 0))) (fun _=>none) (fun _=>none)
def cz (n:Nat) {R:Type} (l:(Sq BA)) (k:Int→Option R):Option R:=(Cd n n (0:Int) l (l.n:Int) (0:Int)).bind fun x_1=>iY x_1 (fun a_2=>k a_2) (fun _=>none) (fun _=>none)
def px (n:Nat) (l:(Sq BA)):Option Int:=cz n l some
theorem tQ (n:Nat) {S:Type}:∀ l (φ:_→Option S),(px n l).bind φ=cz n l φ:=by
  intros;unfold px cz;first | (simp only [ia,ba,iB,bB,oL,oX,nB,Option.bind_some]) | rfl
def Ml (n:Nat):Hint Out:={ live:=fun c=>(cond (Nat.beq c 0) [(2,none),(5,some (.sl .str)),(6,none),(7,none)] []),run:=fun c=>(cond (Nat.beq c 0) (some (vp wn vn fun σ ρ K=>(Cd n n σ.1 σ.2.1 σ.2.2.1 σ.2.2.2.1).bind (Ge K))) none),xm:=fun c q=>(cond (Nat.beq c 0&&Nat.beq (q.getD 1000000) 0&&q.isSome) (some [(2,none)]) none) }
def Ll (n:Nat) (K:XE→List AV→la→Option Out) (m:Nat) (n0:Int) (t5:(Sq BA)) (t6:Int) (t7:Int):Option Out:=lf tys (fa Out (co n)) (Ml n) n (Da [1,0,1,0,0] (aa Tryz.f109)) 0 wn vn K m (n0,(t5,(t6,(t7,())))) ()
theorem aA (n:Nat) (K:XE→List AV→la→Option Out):∀ (m:Nat) n0 t5 t6 t7,Ll n K m n0 t5 t6 t7=(Cd n m n0 t5 t6 t7).bind (Ge K)
  | 0,_,_,_,_=>by kernel_rfl
  | m+1,n0,t5,t6,t7=>by
    have h1:Ll n K (m+1) n0 t5 t6 t7=Bk n n0 t5 t6 t7 (Ll n K m) (fun a=>Ge K (.out a)) (fun a=>Ge K (.ret a)) (fun p=>Ge K (.pan p)):=by kernel_rfl
    have h2:Ll n K m=fun n0 t5 t6 t7=>(Cd n m n0 t5 t6 t7).bind (Ge K):=by
      repeat (refine funext fun _=>?_)
      exact aA n K m _ _ _ _
    rw [h1,h2];exact (vJ n m _ _ _ _ (Ge K)).symm
theorem WG (n:Nat):le tys (fa Out (co n)) (Ml n) n (Da [1,0,1,0,0] (aa Tryz.f109)) 0:=Oa (sp:=wn) (rp:=vn) (by kernel_rfl) fun K σ ρ=>aA n K n σ.1 σ.2.1 σ.2.2.1 σ.2.2.2.1
theorem wJ (n:Nat):ya tys (fa Out (co n)) (Ml n) n (aa Tryz.f109) 0:=⟨trivial,⟨⟨trivial,⟨WG n,⟨trivial,⟨⟨trivial,trivial⟩,⟨⟨trivial,trivial⟩,trivial⟩⟩⟩⟩⟩,⟨trivial,trivial⟩⟩⟩
theorem HM (n:Nat):Enters Tryz.prog 109:=enters_of (c:=aa Tryz.f109) Tryz.func109 (by kernel_rfl) (by kernel_rfl)
def XG (n:Nat):Entry:=⟨109,nY (.pair (.sl .str) .unit) (.one (.int .i64)) (fun xs=>px n xs.1),none,none⟩
theorem qO (n:Nat):EntryOk Tryz.prog gl (XG n):=Ea (HM n) fun xs y h=>ma tys_ok (Ix n) mixed (hint:=Ml n) (n:=n) Tryz.func109 (Ha (wJ n)) (oa (φ:=(fun y=>some (Out.ret (Ub (.one (.int .i64)) y)))) (by kernel_rfl) (tQ n xs.1 _) h)
def bA (n:Nat):List Entry:=XG n::co n
theorem qx (n:Nat):AllOk Tryz.prog gl (bA n):=.cons (qO n) (Ix n)
def bp (n:Nat) {R:Type} (c:T0) (k:Bool→Option R):Option R:=if (c.2.2.2.2.1 !=(4:Int))=false then if c.2.2.2.2.2.2.2.2.2.2.2.1=true then if ((c.2.2.2.2.2.2.2.2.2.1.n:Int)==(0:Int))=true then if (c.2.2.2.2.2.2.2.2.2.2.1==(0:Int))=true then if (!c.2.2.2.2.2.2.2.2.2.2.2.1)=false then k (c.2.2.2.2.1==(4:Int)) else k true else k false else k false else (Gx n c.2.2.2.2.2.2.2.2.2.1).bind fun v=>if (!v.1)=true then PN ((px n c.2.2.2.2.2.2.2.2.2.1).bind fun v1=>if (c.2.2.2.2.2.2.2.2.2.2.1==v1)=true then k (decide (c.2.2.2.2.2.2.2.2.2.2.1≤(8192:Int))) else k false) (xX 1 ((px n c.2.2.2.2.2.2.2.2.2.1).bind fun v2=>if (c.2.2.2.2.2.2.2.2.2.2.1==v2)=true then k (decide (c.2.2.2.2.2.2.2.2.2.2.1≤(8192:Int))) else k false)) else PN (k false) (xX 1 (k false)) else if ((c.2.2.2.2.2.2.2.2.2.1.n:Int)==(0:Int))=true then if (c.2.2.2.2.2.2.2.2.2.2.1==(0:Int))=true then if (!c.2.2.2.2.2.2.2.2.2.2.2.1)=false then k (c.2.2.2.2.1==(4:Int)) else k true else k false else k false
def Ck (n:Nat) (c:T0):Option Bool:=bp n c some
theorem uQ (n:Nat) {S:Type}:∀ c (φ:_→Option S),(Ck n c).bind φ=bp n c φ:=by
  intros;unfold Ck bp;first | (simp only [ia,ba,iB,bB,oL,oX,nB,Option.bind_some]) | rfl
def fA (n:Nat):Hint Out:={ live:=fun c=>[],run:=fun c=>none,xm:=fun c q=>none,sch:=fun c=>(cond (Nat.beq c 3) (some [(0,0),(1,1),(2,2),(3,0),(4,0),(5,0),(7,0),(6,5),(8,7),(9,7),(10,6),(11,6),(12,6),(13,6),(14,7),(15,6),(16,6),(17,6)]) none) }
theorem yJ (n:Nat):ya tys (fa Out (bA n)) (fA n) n (aa Tryz.f76) 0:=pa (fun _=>rfl) _ _ (by kernel_rfl)
theorem KM (n:Nat):Enters Tryz.prog 76:=enters_of (c:=aa Tryz.f76) Tryz.func76 (by kernel_rfl) (by kernel_rfl)
def aH (n:Nat):Entry:=⟨76,nY K1 (.one .bool) (fun xs=>Ck n xs.1),none,none⟩
theorem rO (n:Nat):EntryOk Tryz.prog gl (aH n):=Ea (KM n) fun xs y h=>ma tys_ok (qx n) mixed (hint:=fA n) (n:=n) Tryz.func76 (Ha (yJ n)) (oa (φ:=(fun y=>some (Out.ret (Ub (.one .bool) y)))) (by kernel_rfl) (uQ n xs.1 _) h)
def eA (n:Nat):List Entry:=aH n::bA n
theorem rx (n:Nat):AllOk Tryz.prog gl (eA n):=.cons (rO n) (qx n)
def zv (n:Nat) {R:Type} (c:T0) (k:Bool→Option R):Option R:=(Xd n c.1 (1:Int) (1099511627776:Int)).bind fun v=>if (!v)=false then (Xd n c.2.1 (0:Int) (3:Int)).bind fun v1=>if (!v1)=false then (Xd n c.2.2.1 (0:Int) (1099511627776:Int)).bind fun v2=>if (!v2)=false then (ci n c.2.2.2.1).bind fun v3=>if (!v3)=false then (Xd n c.2.2.2.2.1 (0:Int) (5:Int)).bind fun v4=>if (!v4)=true then k false else if (c.2.2.2.2.2.1.toList==(⟨#[]⟩:BA).toList)=true then if (c.2.2.2.2.1 !=(0:Int))=true then if (c.2.2.2.2.1 !=(5:Int))=false then if (!(c.2.2.2.2.2.1.toList==(⟨#[]⟩:BA).toList))=true then if (c.2.2.2.2.1==(0:Int))=false then (Fe n c.2.2.2.2.2.1).bind fun v5=>if (!v5)=true then k false else (ab n c).bind fun v6=>if v6=true then (Ck n c).bind fun v7=>k v7 else k false else k false else (ab n c).bind fun v8=>if v8=true then (Ck n c).bind fun v9=>k v9 else k false else k false else if (!(c.2.2.2.2.2.1.toList==(⟨#[]⟩:BA).toList))=true then if (c.2.2.2.2.1==(0:Int))=false then (Fe n c.2.2.2.2.2.1).bind fun v10=>if (!v10)=true then k false else (ab n c).bind fun v11=>if v11=true then (Ck n c).bind fun v12=>k v12 else k false else k false else (ab n c).bind fun v13=>if v13=true then (Ck n c).bind fun v14=>
 k v14 else k false else if (!(c.2.2.2.2.2.1.toList==(⟨#[]⟩:BA).toList))=true then if (c.2.2.2.2.1==(0:Int))=false then (Fe n c.2.2.2.2.2.1).bind fun v15=>if (!v15)=true then k false else (ab n c).bind fun v16=>if v16=true then (Ck n c).bind fun v17=>k v17 else k false else k false else (ab n c).bind fun v18=>if v18=true then (Ck n c).bind fun v19=>k v19 else k false else k false else k false else k false else k false
def Xx (n:Nat) (c:T0):Option Bool:=zv n c some
theorem uS (n:Nat) {S:Type}:∀ c (φ:_→Option S),(Xx n c).bind φ=zv n c φ:=by
  intros;unfold Xx zv;first | (simp only [ia,ba,iB,bB,oL,oX,nB,Option.bind_some]) | rfl
def vD (n:Nat):Hint Out:={ live:=fun c=>[],run:=fun c=>none,xm:=fun c q=>none }
theorem zM (n:Nat):ya tys (fa Out (eA n)) (vD n) n (aa Tryz.f40) 0:=pa (fun _=>rfl) _ _ (by kernel_rfl)
theorem lO (n:Nat):Enters Tryz.prog 40:=enters_of (c:=aa Tryz.f40) Tryz.func40 (by kernel_rfl) (by kernel_rfl)
def cL (n:Nat):Entry:=⟨40,nY K1 (.one .bool) (fun xs=>Xx n xs.1),none,none⟩
theorem qQ (n:Nat):EntryOk Tryz.prog gl (cL n):=Ea (lO n) fun xs y h=>ma tys_ok (rx n) mixed (hint:=vD n) (n:=n) Tryz.func40 (Ha (zM n)) (oa (φ:=(fun y=>some (Out.ret (Ub (.one .bool) y)))) (by kernel_rfl) (uS n xs.1 _) h)
def dL (n:Nat):List Entry:=cL n::eA n
theorem oJ (n:Nat):AllOk Tryz.prog gl (dL n):=.cons (qQ n) (rx n)
def Cb (n:Nat):List Entry:=Bb::dL n
theorem gd (n:Nat):AllOk Tryz.prog gl (Cb n):=.cons Nd (oJ n)
def Db (n:Nat):List Entry:=jd::Cb n
theorem jc (n:Nat):AllOk Tryz.prog gl (Db n):=.cons Pg (gd n)
def Ih (n:Nat) {R:Type} (c:T0) (k:U1→Option R):Option R:=xX 1 ((Ek 32 c.2.2.2.2.2.2.2.2.1).bind fun v=>(Ek 16 c.2.2.2.2.2.2.2.2.2.1).bind fun v1=>k (c.1,(c.2.1,(c.2.2.1,(c.2.2.2.1.1,(c.2.2.2.1.2.1,(c.2.2.2.2.1,(c.2.2.2.2.2.1,(c.2.2.2.2.2.2.1,(c.2.2.2.2.2.2.2.1.1,(c.2.2.2.2.2.2.2.1.2.1,(c.2.2.2.2.2.2.2.2.2.2.1,(c.2.2.2.2.2.2.2.2.2.2.2.1,(v.1,(v1.1,())))))))))))))))
def gf (n:Nat) (c:T0):Option U1:=Ih n c some
theorem CM (n:Nat) {S:Type}:∀ c (φ:_→Option S),(gf n c).bind φ=Ih n c φ:=by
  intros;unfold gf Ih;first | (simp only [ia,ba,iB,bB,oL,oX,nB,Option.bind_some]) | rfl
def mt (n:Nat):Hint OutS:={ live:=fun c=>[],run:=fun c=>none,xm:=fun c q=>none,sch:=fun c=>(cond (Nat.beq c 1) (some [(0,0),(3,0),(1,1),(2,5),(4,7),(5,2),(6,6),(7,2),(8,6),(9,2)]) none),pr:=[(0,10,47),(0,11,9)] }
theorem EE (n:Nat):ya tys (fa OutS (Db n)).keep (mt n) n (aa Tryz.f42) 0:=pa (fun _=>rfl) _ _ (by kernel_rfl)
theorem NG (n:Nat):Enters Tryz.prog 42:=enters_of (c:=aa Tryz.f42) Tryz.func42 (by kernel_rfl) (by kernel_rfl)
def Tz:List RSp:=[.one (.dat K0)]
def Sz:List RS:=[]
def OG:List Sl:=[.top]
def PG:List RSp:=[.agg [.dat (.int .i64),.dat (.int .i64),.dat (.int .i64),.dat .str,.dat .bool,.dat (.int .i64),.dat .str,.dat .bool,.dat .str,.dat .str,.row 0,.row 1,.dat (.int .i64),.dat .bool]]
def Ti:List RS:=[.row 47 2 (.pair .str (.pair .str .unit)) true true,.row 9 1 .str true true]
def Av (y:U1):OutS:=⟨false,Nm (Je Ti (y.2.2.2.2.2.2.2.2.2.2.2.2.1,(y.2.2.2.2.2.2.2.2.2.2.2.2.2.1,()))) OG (),RD (GC (Je Ti (y.2.2.2.2.2.2.2.2.2.2.2.2.1,(y.2.2.2.2.2.2.2.2.2.2.2.2.2.1,()))) PG ((y.1,(y.2.1,(y.2.2.1,(y.2.2.2.1,(y.2.2.2.2.1,(y.2.2.2.2.2.1,(y.2.2.2.2.2.2.1,(y.2.2.2.2.2.2.2.1,(y.2.2.2.2.2.2.2.2.1,(y.2.2.2.2.2.2.2.2.2.1,(y.2.2.2.2.2.2.2.2.2.2.1,(y.2.2.2.2.2.2.2.2.2.2.2.1,())))))))))))),())),It (Je Ti (y.2.2.2.2.2.2.2.2.2.2.2.2.1,(y.2.2.2.2.2.2.2.2.2.2.2.2.2.1,()))) Ti (y.2.2.2.2.2.2.2.2.2.2.2.2.1,(y.2.2.2.2.2.2.2.2.2.2.2.2.2.1,()))⟩
theorem qJ (n:Nat):EntryOk Tryz.prog gl ⟨42,Vj,none,some (tX Tz Sz (fun σ ρ=>gf n σ.1.1) Av)⟩:=ai (NG n) fun σ ρ y h=>Vq tys_ok (jc n) mixed (hint:=mt n) (n:=n) Tryz.func42 (Ha (EE n)) (oa (φ:=fun y=>some (Av y)) (by kernel_rfl) (CM n σ.1.1 _) h)
def br (n:Nat):List Entry:=⟨42,Vj,none,some (tX Tz Sz (fun σ ρ=>gf n σ.1.1) Av)⟩::Db n
theorem pq (n:Nat):AllOk Tryz.prog gl (br n):=.cons (qJ n) (jc n)
def kf (n:Nat) {R:Type} (s prefix0:BA) (k:BA→Option R):Option R:=(Bc n s prefix0).bind fun v=>if v=true then if 0≤(prefix0.size:Int)∧(prefix0.size:Int)≤(s.size:Int) then k (s.extract (Int.toNat (prefix0.size:Int)) (Int.toNat (s.size:Int))) else none else k s
def jf (n:Nat) (s prefix0:BA):Option BA:=kf n s prefix0 some
theorem uA (n:Nat) {S:Type}:∀ s prefix0 (φ:_→Option S),(jf n s prefix0).bind φ=kf n s prefix0 φ:=by
  intros;unfold jf kf;first | (simp only [ia,ba,iB,bB,oL,oX,nB,Option.bind_some]) | rfl
def cj (n:Nat):Hint Out:={ live:=fun c=>[],run:=fun c=>none,xm:=fun c q=>none }
theorem Pt (n:Nat):ya tys (fa Out (br n)) (cj n) n (aa Tryz.f119) 0:=pa (fun _=>rfl) _ _ (by kernel_rfl)
theorem Xv (n:Nat):Enters Tryz.prog 119:=enters_of (c:=aa Tryz.f119) Tryz.func119 (by kernel_rfl) (by kernel_rfl)
def Am (n:Nat):Entry:=⟨119,nY (.pair .str (.pair .str .unit)) (.one .str) (fun xs=>jf n xs.1 xs.2.1),none,none⟩
theorem ny (n:Nat):EntryOk Tryz.prog gl (Am n):=Ea (Xv n) fun xs y h=>ma tys_ok (pq n) mixed (hint:=cj n) (n:=n) Tryz.func119 (Ha (Pt n)) (oa (φ:=(fun y=>some (Out.ret (Ub (.one .str) y)))) (by kernel_rfl) (uA n xs.1 xs.2.1 _) h)
def Kg (n:Nat):List Entry:=Am n::br n
theorem li (n:Nat):AllOk Tryz.prog gl (Kg n):=.cons (ny n) (pq n)
def zf (n:Nat) {R:Type} (s prefix0:BA) (k:BA→Option R):Option R:=(jf n s prefix0).bind fun v=>k v
def za (n:Nat) (s prefix0:BA):Option BA:=zf n s prefix0 some
theorem mB (n:Nat) {S:Type}:∀ s prefix0 (φ:_→Option S),(za n s prefix0).bind φ=zf n s prefix0 φ:=by
  intros;unfold za zf;first | (simp only [ia,ba,iB,bB,oL,oX,nB,Option.bind_some]) | rfl
def yj (n:Nat):Hint Out:={ live:=fun c=>[],run:=fun c=>none,xm:=fun c q=>none }
theorem Ju (n:Nat):ya tys (fa Out (Kg n)) (yj n) n (aa Tryz.f90) 0:=pa (fun _=>rfl) _ _ (by kernel_rfl)
theorem Aw (n:Nat):Enters Tryz.prog 90:=enters_of (c:=aa Tryz.f90) Tryz.func90 (by kernel_rfl) (by kernel_rfl)
def Em (n:Nat):Entry:=⟨90,nY (.pair .str (.pair .str .unit)) (.one .str) (fun xs=>za n xs.1 xs.2.1),none,none⟩
theorem Iy (n:Nat):EntryOk Tryz.prog gl (Em n):=Ea (Aw n) fun xs y h=>ma tys_ok (li n) mixed (hint:=yj n) (n:=n) Tryz.func90 (Ha (Ju n)) (oa (φ:=(fun y=>some (Out.ret (Ub (.one .str) y)))) (by kernel_rfl) (mB n xs.1 xs.2.1 _) h)
def Qg (n:Nat):List Entry:=Em n::Kg n
theorem Di (n:Nat):AllOk Tryz.prog gl (Qg n):=.cons (Iy n) (li n)
def He (n:Nat) {R:Type} (line:BA) (k:(BA×Bool×Unit)→Option R):Option R:=if (line.toList==(⟨#[46]⟩:BA).toList)=true then k ((⟨#[]⟩:BA),(true,())) else (za n line (⟨#[46]⟩:BA)).bind fun v=>k (v,(false,()))
def Xb (n:Nat) (line:BA):Option (BA×Bool×Unit):=He n line some
theorem IJ (n:Nat) {S:Type}:∀ line (φ:_→Option S),(Xb n line).bind φ=He n line φ:=by
  intros;unfold Xb He;first | (simp only [ia,ba,iB,bB,oL,oX,nB,Option.bind_some]) | rfl
def tq (n:Nat):Hint Out:={ live:=fun c=>[],run:=fun c=>none,xm:=fun c q=>none }
theorem EC (n:Nat):ya tys (fa Out (Qg n)) (tq n) n (aa Tryz.f56) 0:=pa (fun _=>rfl) _ _ (by kernel_rfl)
theorem PE (n:Nat):Enters Tryz.prog 56:=enters_of (c:=aa Tryz.f56) Tryz.func56 (by kernel_rfl) (by kernel_rfl)
def ux (n:Nat):Entry:=⟨56,nY (.pair .str .unit) (.many (.pair .str (.pair .bool .unit))) (fun xs=>Xb n xs.1),none,none⟩
theorem iH (n:Nat):EntryOk Tryz.prog gl (ux n):=Ea (PE n) fun xs y h=>ma tys_ok (Di n) mixed (hint:=tq n) (n:=n) Tryz.func56 (Ha (EC n)) (oa (φ:=(fun y=>some (Out.ret (Ub (.many (.pair .str (.pair .bool .unit))) y)))) (by kernel_rfl) (IJ n xs.1 _) h)
def Gn (n:Nat):List Entry:=ux n::Qg n
theorem Hn (n:Nat):AllOk Tryz.prog gl (Gn n):=.cons (iH n) (Di n)
def oe (n:Nat) {R:Type} (c c1 c2:Int) (c3:BA) (c4:Bool) (c5:Int) (c6:BA) (c7:Bool) (c8 c9:BA) (c10:Int) (c11:Bool) (l:U6) (r0:(Sq U0)) (r1:(Sq BA)) (k:(T0×BA×Unit)→Option R):Option R:=(Xb n l.1).bind fun v=>if v.2.1=true then if (!l.2.1)=true then k ((c,(c1,(c2,((c3,(c4,())),(c5,(c6,(c7,((c8,(c9,())),(r0,(r1,(c10,(c11,())))))))))))),((⟨#[115,101,110,100]⟩:BA),())) else if c11=true then k ((c,(c1,(c2,((c3,(c4,())),(c5,(c6,(c7,((c8,(c9,())),(r0,(r1,(c10,(c11,())))))))))))),((⟨#[]⟩:BA),())) else if l.2.1=false then (vg n v.1).bind fun v1=>if (!v1)=false then if (decide ((IntKind.wrap .i64 ((IntKind.wrap .i64 (c10+(v.1.size:Int)))+(2:Int)))>(8192:Int)))=true then k ((c,(c1,(c2,((c3,(c4,())),(c5,(c6,(c7,((c8,(c9,())),(r0,((⟨0,fun _=>ua .str⟩:Sq BA),((0:Int),(true,())))))))))))),((⟨#[]⟩:BA),())) else if db (r1.n+1) 16=true then k ((c,(c1,(c2,((c3,(c4,())),(c5,(c6,(c7,((c8,(c9,())),(r0,((⟨(r1.n+1),fun q=>if q<r1.n then r1.at' q else (fun q=>List.getD (α:=BA) [v.1] q (ua .str)) (q - r1.n)⟩:Sq BA),((IntKind.wrap .i64 ((IntKind.wrap .i64 (c10+(v.1.size:Int)))+(2:Int))),(c11,())))))))))))),((⟨#[]⟩:BA),())) else none else k ((c,(c1,(c2,((c3,(c4,())),(c5,(c6,(c7,((c8,(c9,())),(r0,((⟨0,fun _=>ua .str⟩:Sq BA),((0:Int),(true,())))))))))))),((⟨#[]⟩:BA),()))
 else k ((c,(c1,(c2,((c3,(c4,())),(c5,(c6,(c7,((c8,(c9,())),(r0,((⟨0,fun _=>ua .str⟩:Sq BA),((0:Int),(true,())))))))))))),((⟨#[]⟩:BA),())) else if c11=true then k ((c,(c1,(c2,((c3,(c4,())),(c5,(c6,(c7,((c8,(c9,())),(r0,(r1,(c10,(c11,())))))))))))),((⟨#[]⟩:BA),())) else if l.2.1=false then (vg n v.1).bind fun v2=>if (!v2)=false then if (decide ((IntKind.wrap .i64 ((IntKind.wrap .i64 (c10+(v.1.size:Int)))+(2:Int)))>(8192:Int)))=true then k ((c,(c1,(c2,((c3,(c4,())),(c5,(c6,(c7,((c8,(c9,())),(r0,((⟨0,fun _=>ua .str⟩:Sq BA),((0:Int),(true,())))))))))))),((⟨#[]⟩:BA),())) else if db (r1.n+1) 16=true then k ((c,(c1,(c2,((c3,(c4,())),(c5,(c6,(c7,((c8,(c9,())),(r0,((⟨(r1.n+1),fun q=>if q<r1.n then r1.at' q else (fun q=>List.getD (α:=BA) [v.1] q (ua .str)) (q - r1.n)⟩:Sq BA),((IntKind.wrap .i64 ((IntKind.wrap .i64 (c10+(v.1.size:Int)))+(2:Int))),(c11,())))))))))))),((⟨#[]⟩:BA),())) else none else k ((c,(c1,(c2,((c3,(c4,())),(c5,(c6,(c7,((c8,(c9,())),(r0,((⟨0,fun _=>ua .str⟩:Sq BA),((0:Int),(true,())))))))))))),((⟨#[]⟩:BA),())) else k ((c,(c1,(c2,((c3,(c4,())),(c5,(c6,(c7,((c8,(c9,())),(r0,((⟨0,fun _=>ua .str⟩:Sq BA),((0:Int),(true,())))))))))))),((⟨#[]⟩:BA),()))
def Kb (n:Nat) (c c1 c2:Int) (c3:BA) (c4:Bool) (c5:Int) (c6:BA) (c7:Bool) (c8 c9:BA) (c10:Int) (c11:Bool) (l:U6) (r0:(Sq U0)) (r1:(Sq BA)):Option (T0×BA×Unit):=oe n c c1 c2 c3 c4 c5 c6 c7 c8 c9 c10 c11 l r0 r1 some
theorem vC (n:Nat) {S:Type}:∀ c c1 c2 c3 c4 c5 c6 c7 c8 c9 c10 c11 l r0 r1 (φ:_→Option S),(Kb n c c1 c2 c3 c4 c5 c6 c7 c8 c9 c10 c11 l r0 r1).bind φ=oe n c c1 c2 c3 c4 c5 c6 c7 c8 c9 c10 c11 l r0 r1 φ:=by
  intros;unfold Kb oe;first | (simp only [ia,ba,iB,bB,oL,oX,nB,Option.bind_some]) | rfl
def Dk (n:Nat):Hint OutS:={ live:=fun c=>[],run:=fun c=>none,xm:=fun c q=>none,fz:=true }
theorem Iv (n:Nat):ya tys (fa OutS (Gn n)) (Dk n) n (aa Tryz.f77) 0:=pa (fun _=>rfl) _ _ (by kernel_rfl)
theorem fy (n:Nat):Enters Tryz.prog 77:=enters_of (c:=aa Tryz.f77) Tryz.func77 (by kernel_rfl) (by kernel_rfl)
def zn:List RSp:=[.agg [.dat (.int .i64),.dat (.int .i64),.dat (.int .i64),.dat .str,.dat .bool,.dat (.int .i64),.dat .str,.dat .bool,.dat .str,.dat .str,.row 0,.row 1,.dat (.int .i64),.dat .bool],.one (.dat (.pair .str (.pair .bool .unit)))]
def yn:List RS:=[.row 47 2 (.pair .str (.pair .str .unit)) true true,.row 9 1 .str true true]
def gy:List Sl:=[.top,.top]
def iy:List RSp:=[.one (.dat K0),.one (.dat .str)]
def we:List RS:=[]
def Sj (y:(T0×BA×Unit)):OutS:=⟨false,Nm (Je we ()) gy (),RD (GC (Je we ()) iy ((y.1,()),((y.2.1,()),()))),It (Je we ()) we ()⟩
theorem gA (n:Nat):EntryOk Tryz.prog gl ⟨77,Vj,none,some (tX zn yn (fun σ ρ=>Kb n σ.1.1 σ.1.2.1 σ.1.2.2.1 σ.1.2.2.2.1 σ.1.2.2.2.2.1 σ.1.2.2.2.2.2.1 σ.1.2.2.2.2.2.2.1 σ.1.2.2.2.2.2.2.2.1 σ.1.2.2.2.2.2.2.2.2.1 σ.1.2.2.2.2.2.2.2.2.2.1 σ.1.2.2.2.2.2.2.2.2.2.2.1 σ.1.2.2.2.2.2.2.2.2.2.2.2.1 σ.2.1.1 ρ.1 ρ.2.1) Sj)⟩:=ai (fy n) fun σ ρ y h=>nc tys_ok (Hn n) mixed (hint:=Dk n) (n:=n) Tryz.func77 (Ha (Iv n)) (oa (φ:=fun y=>some (Sj y)) (by kernel_rfl) (vC n σ.1.1 σ.1.2.1 σ.1.2.2.1 σ.1.2.2.2.1 σ.1.2.2.2.2.1 σ.1.2.2.2.2.2.1 σ.1.2.2.2.2.2.2.1 σ.1.2.2.2.2.2.2.2.1 σ.1.2.2.2.2.2.2.2.2.1 σ.1.2.2.2.2.2.2.2.2.2.1 σ.1.2.2.2.2.2.2.2.2.2.2.1 σ.1.2.2.2.2.2.2.2.2.2.2.2.1 σ.2.1.1 ρ.1 ρ.2.1 _) h)
def Xh (n:Nat):List Entry:=⟨77,Vj,none,some (tX zn yn (fun σ ρ=>Kb n σ.1.1 σ.1.2.1 σ.1.2.2.1 σ.1.2.2.2.1 σ.1.2.2.2.2.1 σ.1.2.2.2.2.2.1 σ.1.2.2.2.2.2.2.1 σ.1.2.2.2.2.2.2.2.1 σ.1.2.2.2.2.2.2.2.2.1 σ.1.2.2.2.2.2.2.2.2.2.1 σ.1.2.2.2.2.2.2.2.2.2.2.1 σ.1.2.2.2.2.2.2.2.2.2.2.2.1 σ.2.1.1 ρ.1 ρ.2.1) Sj)⟩::Gn n
theorem Wi (n:Nat):AllOk Tryz.prog gl (Xh n):=.cons (gA n) (Hn n)
end
end Go.Proofs.YtddefjokgaajfaaGreatDoor.AM
