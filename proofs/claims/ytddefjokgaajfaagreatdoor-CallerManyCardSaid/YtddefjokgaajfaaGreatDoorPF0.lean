/- Typed functions that tell what the Go functions of this seat answer, and proofs of it, by program (gen.py). -/
import Derived.Test.YtddefjokgaajfaaGreatDoorPT
import Derived.Test.YtddefjokgaajfaaGreatDoorPB
import Derived.Test.YtddefjokgaajfaaGreatDoorPL
import Derived.Test.YtddefjokgaajfaaGreatDoorPM
import Derived.Test.YtddefjokgaajfaaGreatDoorPN
set_option linter.all false
set_option linter.unusedVariables false
set_option linter.unusedSimpArgs false
set_option maxRecDepth 1000000
set_option maxHeartbeats 0
namespace Go.Proofs.YtddefjokgaajfaaGreatDoor.AM
open Go Go.RowKit
noncomputable section
abbrev K0:CTy:=(.pair (.int .i64) (.pair (.int .i64) (.pair (.int .i64) (.pair (.pair .str (.pair .bool .unit)) (.pair (.int .i64) (.pair .str (.pair .bool (.pair (.pair .str (.pair .str .unit)) (.pair (.sl (.pair .str (.pair .str .unit))) (.pair (.sl .str) (.pair (.int .i64) (.pair .bool .unit))))))))))))
abbrev K1:CTy:=(.pair K0 .unit)
abbrev K2:CTy:=(.pair (.int .i64) (.pair .str (.pair .bool (.pair (.pair .str (.pair .str .unit)) (.pair (.int .i64) .unit)))))
abbrev K3:CTy:=(.pair (.int .i64) (.pair (.int .i64) (.pair (.int .i64) (.pair (.pair .str (.pair .bool .unit)) (.pair K2 .unit)))))
abbrev K4:CTy:=(.pair K0 (.pair (.sl K3) .unit))
abbrev K5:CTy:=(.pair K4 .unit)
abbrev K6:CTy:=(.pair .str (.pair .str (.pair (.int .i64) (.pair (.int .i64) .unit))))
abbrev K7:CTy:=(.pair (.sl (.pair .str (.pair .str .unit))) (.pair (.pair .str (.pair .str .unit)) .unit))
abbrev K8:CTy:=(.pair (.pair .str (.pair .str .unit)) (.pair .bool (.pair (.int .i64) .unit)))
abbrev K9:CTy:=(.pair (.pair .str (.pair .str .unit)) (.pair .bool (.pair .str .unit)))
abbrev RN:CTy:=(.pair K2 (.pair .bool .unit))
abbrev SN:CTy:=(.pair K2 .unit)
abbrev TN:CTy:=(.pair K2 (.pair (.int .i64) .unit))
abbrev UN:CTy:=(.pair K0 (.pair K2 .unit))
abbrev VN:CTy:=(.pair K0 (.pair (.int .i64) (.pair .str .unit)))
abbrev WN:CTy:=(.pair K0 (.pair (.int .i64) (.pair .str (.pair (.int .i64) .unit))))
abbrev XN:CTy:=(.pair K0 (.pair (.pair .str (.pair .bool .unit)) .unit))
abbrev YN:CTy:=(.pair K0 (.pair (.int .i64) .unit))
abbrev U0:Type:=(BA×(BA×Unit))
abbrev T1:Type:=(Int×(BA×(Bool×(U0×(Int×Unit)))))
abbrev U1:Type:=(Int×Int×Int×BA×Bool×Int×BA×Bool×BA×BA×Int×Bool×(Sq U0)×(Sq BA)×Unit)
abbrev U4:Type:=(BA×(Bool×Unit))
abbrev T0:Type:=(Int×(Int×(Int×(U4×(Int×(BA×(Bool×(U0×((Sq U0)×((Sq BA)×(Int×(Bool×Unit))))))))))))
abbrev T2:Type:=(Int×(Int×(Int×(U4×(T1×Unit)))))
abbrev U2:Type:=(Int×Int×Int×Int×BA×Bool×Int×BA×Bool×BA×BA×(Sq U0)×(Sq BA)×Int×Bool×(Sq T2))
abbrev U3:Type:=(Int×Int×Int×BA×Bool×Int×BA×Bool×BA×BA×(Sq U0)×(Sq BA)×Int×Bool×(Sq T2))
abbrev U5:Type:=((Sq Int)×Unit)
def aM (n:Nat):List Entry:=[]
theorem oI (n:Nat):AllOk Tryz.prog gl (aM n):=.nil
def Yc (n:Nat) {R:Type} (l1:(Sq BA)) (n0 i:Int) (kn:(Sq BA)→Int→Int→Option R) (ko:(Int)→Option R) (kr:Unit→Option R) (kp:Int→Option R):Option R:=if (decide (i<(l1.n:Int)))=true then if (decide (n0<(1048576:Int)))=true then if 0≤i∧i<(l1.n:Int) then kn l1 (IntKind.wrap .i64 (n0+((l1.at' (Int.toNat i)).size:Int))) (IntKind.wrap .i64 (i+(1:Int))) else none else ko n0 else ko n0
def Pa (n:Nat):Nat→(Sq BA)→Int→Int→Option (Lx (Int) Unit)
 | 0,_,_,_=>none
 | m+1,l1,n0,i=>Yc n l1 n0 i (Pa n m) (fun a=>some (.out a)) (fun a=>some (.ret a)) (fun p=>some (.pan p))
theorem cq (n m:Nat) {S:Type}:∀ l1 n0 i (φ:_→Option S),(Pa n (m+1) l1 n0 i).bind φ=Yc n l1 n0 i (fun l1 n0 i=>(Pa n m l1 n0 i).bind φ) (fun a=>φ (.out a)) (fun a=>φ (.ret a)) (fun p=>φ (.pan p)):=by
  intros;first | (simp only [Pa,Yc,fa,ba,iB,bB,oL,oX,nB,Option.bind_some]) | rfl
def pd:List Sl:=.dat (.sl .str)::.top::.top::.dat (.int .i64)::.dat (.int .i64)::tp 20 []
def od:List RS:=[]
def lj:List Sl:=.top::.top::.top::.dat (.int .i64)::tp 21 []
def jj:List RS:=[]
def Na (K:XE→List AV→ia→Option Out):Lx (Int) Unit→Option Out:=fun x=>zO x (fun a=>Bm lj jj (a,()) () (K (.exit 0))) (fun _=>none) (fun _=>none)
def pg (n:Nat) {R:Type} (l:(Sq BA)) (k:Int→Option R):Option R:=(Pa n n l (l.n:Int) (0:Int)).bind fun x_1=>zO x_1 (fun a_2=>k a_2) (fun _=>none) (fun _=>none)
def Cf (n:Nat) (l:(Sq BA)):Option Int:=pg n l some
theorem Pw (n:Nat) {S:Type}:∀ l (φ:_→Option S),(Cf n l).bind φ=pg n l φ:=by
  intros;unfold Cf pg;first | (simp only [fa,ba,iB,bB,oL,oX,nB,Option.bind_some]) | rfl
def ec (n:Nat):Hint Out:={ live:=fun c=>(cond (Nat.beq c 0) [(0,some (.sl .str)),(3,none),(4,none)] []),run:=fun c=>(cond (Nat.beq c 0) (some (ou pd od fun σ ρ K=>(Pa n n σ.1 σ.2.1 σ.2.2.1).bind (Na K))) none),xm:=fun c q=>(cond (Nat.beq c 0&&Nat.beq (q.getD 1000000) 0&&q.isSome) (some [(3,none)]) none) }
def dc (n:Nat) (K:XE→List AV→ia→Option Out) (m:Nat) (l1:(Sq BA)) (n0:Int) (i:Int):Option Out:=xh tys (ea Out (aM n)) (ec n) n (za [1,1,0,1,0,0] (aa Tryz.f83)) 0 pd od K m (l1,(n0,(i,()))) ()
theorem Zg (n:Nat) (K:XE→List AV→ia→Option Out):∀ (m:Nat) l1 n0 i,dc n K m l1 n0 i=(Pa n m l1 n0 i).bind (Na K)
  | 0,_,_,_=>by kernel_rfl
  | m+1,l1,n0,i=>by
    have h1:dc n K (m+1) l1 n0 i=Yc n l1 n0 i (dc n K m) (fun a=>Na K (.out a)) (fun a=>Na K (.ret a)) (fun p=>Na K (.pan p)):=by kernel_rfl
    have h2:dc n K m=fun l1 n0 i=>(Pa n m l1 n0 i).bind (Na K):=by
      repeat (refine funext fun _=>?_)
      exact Zg n K m _ _ _
    rw [h1,h2];exact (cq n m _ _ _ (Na K)).symm
theorem On (n:Nat):bf tys (ea Out (aM n)) (ec n) n (za [1,1,0,1,0,0] (aa Tryz.f83)) 0:=Ua (sp:=pd) (rp:=od) (by kernel_rfl) fun K σ ρ=>Zg n K n σ.1 σ.2.1 σ.2.2.1
theorem dq (n:Nat):oa tys (ea Out (aM n)) (ec n) n (aa Tryz.f83) 0:=⟨trivial,⟨trivial,⟨⟨trivial,⟨On n,⟨⟨trivial,⟨trivial,trivial⟩⟩,⟨trivial,trivial⟩⟩⟩⟩,⟨trivial,trivial⟩⟩⟩⟩
theorem Kr (n:Nat):Enters Tryz.prog 83:=enters_of (c:=aa Tryz.f83) Tryz.func83 (by kernel_rfl) (by kernel_rfl)
def Ej (n:Nat):Entry:=⟨83,EO (.pair (.sl .str) .unit) (.one (.int .i64)) (fun xs=>Cf n xs.1),none,none⟩
theorem du (n:Nat):EntryOk Tryz.prog gl (Ej n):=ua (Kr n) fun xs y h=>ma tys_ok (oI n) mixed (hint:=ec n) (n:=n) Tryz.func83 (wa (dq n)) (la (φ:=(fun y=>some (Out.ret (Ab (.one (.int .i64)) y)))) (by kernel_rfl) (Pw n xs.1 _) h)
def Zb (n:Nat):List Entry:=Ej n::aM n
theorem qg (n:Nat):AllOk Tryz.prog gl (Zb n):=.cons (du n) (oI n)
def cc (n:Nat) {R:Type} (n0 i c1 c2 c3:Int) (c4:BA) (c5:Bool) (c6:Int) (c7:BA) (c8:Bool) (c9 c10:BA) (c11:(Sq U0)) (c12:(Sq BA)) (c13:Int) (c14:Bool) (kn:Int→Int→Int→Int→Int→BA→Bool→Int→BA→Bool→BA→BA→(Sq U0)→(Sq BA)→Int→Bool→Option R) (ko:(Int)→Option R) (kr:Unit→Option R) (kp:Int→Option R):Option R:=if (decide (i<(c11.n:Int)))=true then if (decide (n0<(1048576:Int)))=true then if 0≤i∧i<(c11.n:Int) then if 0≤i∧i<(c11.n:Int) then kn (IntKind.wrap .i64 ((IntKind.wrap .i64 ((IntKind.wrap .i64 (n0+(1:Int)))+((((c11.at' (Int.toNat i))).1).size:Int)))+(((((c11.at' (Int.toNat i))).2).1).size:Int))) (IntKind.wrap .i64 (i+(1:Int))) c1 c2 c3 c4 c5 c6 c7 c8 c9 c10 c11 c12 c13 c14 else none else none else ko n0 else ko n0
def Ga (n:Nat):Nat→Int→Int→Int→Int→Int→BA→Bool→Int→BA→Bool→BA→BA→(Sq U0)→(Sq BA)→Int→Bool→Option (Lx (Int) Unit)
 | 0,_,_,_,_,_,_,_,_,_,_,_,_,_,_,_,_=>none
 | m+1,n0,i,c1,c2,c3,c4,c5,c6,c7,c8,c9,c10,c11,c12,c13,c14=>cc n n0 i c1 c2 c3 c4 c5 c6 c7 c8 c9 c10 c11 c12 c13 c14 (Ga n m) (fun a=>some (.out a)) (fun a=>some (.ret a)) (fun p=>some (.pan p))
theorem cm (n m:Nat) {S:Type}:∀ n0 i c1 c2 c3 c4 c5 c6 c7 c8 c9 c10 c11 c12 c13 c14 (φ:_→Option S),(Ga n (m+1) n0 i c1 c2 c3 c4 c5 c6 c7 c8 c9 c10 c11 c12 c13 c14).bind φ=cc n n0 i c1 c2 c3 c4 c5 c6 c7 c8 c9 c10 c11 c12 c13 c14 (fun n0 i c1 c2 c3 c4 c5 c6 c7 c8 c9 c10 c11 c12 c13 c14=>(Ga n m n0 i c1 c2 c3 c4 c5 c6 c7 c8 c9 c10 c11 c12 c13 c14).bind φ) (fun a=>φ (.out a)) (fun a=>φ (.ret a)) (fun p=>φ (.pan p)):=by
  intros;first | (simp only [Ga,cc,fa,ba,iB,bB,oL,oX,nB,Option.bind_some]) | rfl
def Gc:List Sl:=.top::.ptr 0 0 0::.top::.dat (.int .i64)::.dat (.int .i64)::tp 52 []
def Fc:List RS:=[.box 50 14 true [.dat (.int .i64),.dat (.int .i64),.dat (.int .i64),.dat .str,.dat .bool,.dat (.int .i64),.dat .str,.dat .bool,.dat .str,.dat .str,.dat (.sl (.pair .str (.pair .str .unit))),.dat (.sl .str),.dat (.int .i64),.dat .bool]]
def Lh:List Sl:=.top::.top::.top::.dat (.int .i64)::tp 53 []
def Kh:List RS:=[]
def Fa (K:XE→List AV→ia→Option Out):Lx (Int) Unit→Option Out:=fun x=>zO x (fun a=>Bm Lh Kh (a,()) () (K (.exit 0))) (fun _=>none) (fun _=>none)
def je (n:Nat) {R:Type} (c:T0) (k:Int→Option R):Option R:=(Cf n c.2.2.2.2.2.2.2.2.2.1).bind fun v=>(Ga n n (IntKind.wrap .i64 ((IntKind.wrap .i64 ((IntKind.wrap .i64 ((IntKind.wrap .i64 ((c.2.2.2.2.2.1.size:Int)+(c.2.2.2.1.1.size:Int)))+v))+(c.2.2.2.2.2.2.2.1.1.size:Int)))+(c.2.2.2.2.2.2.2.1.2.1.size:Int))) (0:Int) c.1 c.2.1 c.2.2.1 c.2.2.2.1.1 c.2.2.2.1.2.1 c.2.2.2.2.1 c.2.2.2.2.2.1 c.2.2.2.2.2.2.1 c.2.2.2.2.2.2.2.1.1 c.2.2.2.2.2.2.2.1.2.1 c.2.2.2.2.2.2.2.2.1 c.2.2.2.2.2.2.2.2.2.1 c.2.2.2.2.2.2.2.2.2.2.1 c.2.2.2.2.2.2.2.2.2.2.2.1).bind fun x_1=>zO x_1 (fun a_2=>k a_2) (fun _=>none) (fun _=>none)
def Ld (n:Nat) (c:T0):Option Int:=je n c some
theorem Jr (n:Nat) {S:Type}:∀ c (φ:_→Option S),(Ld n c).bind φ=je n c φ:=by
  intros;unfold Ld je;first | (simp only [fa,ba,iB,bB,oL,oX,nB,Option.bind_some]) | rfl
def Cb (n:Nat):Hint Out:={ live:=fun c=>(cond (Nat.beq c 0) (lv [1,3,4]) []),run:=fun c=>(cond (Nat.beq c 0) (some (ou Gc Fc fun σ ρ K=>(Ga n n σ.1 σ.2.1 ρ.1.1 ρ.1.2.1 ρ.1.2.2.1 ρ.1.2.2.2.1 ρ.1.2.2.2.2.1 ρ.1.2.2.2.2.2.1 ρ.1.2.2.2.2.2.2.1 ρ.1.2.2.2.2.2.2.2.1 ρ.1.2.2.2.2.2.2.2.2.1 ρ.1.2.2.2.2.2.2.2.2.2.1 ρ.1.2.2.2.2.2.2.2.2.2.2.1 ρ.1.2.2.2.2.2.2.2.2.2.2.2.1 ρ.1.2.2.2.2.2.2.2.2.2.2.2.2.1 ρ.1.2.2.2.2.2.2.2.2.2.2.2.2.2.1).bind (Fa K))) none),xm:=fun c q=>(cond (Nat.beq c 0&&Nat.beq (q.getD 1000000) 0&&q.isSome) (some [(3,none)]) none) }
def Bb (n:Nat) (K:XE→List AV→ia→Option Out) (m:Nat) (n0:Int) (i:Int) (c1:Int) (c2:Int) (c3:Int) (c4:BA) (c5:Bool) (c6:Int) (c7:BA) (c8:Bool) (c9:BA) (c10:BA) (c11:(Sq U0)) (c12:(Sq BA)) (c13:Int) (c14:Bool):Option Out:=xh tys (ea Out (Zb n)) (Cb n) n (za [1,1,0,1,0,0] (aa Tryz.f45)) 0 Gc Fc K m (n0,(i,())) ((c1,(c2,(c3,(c4,(c5,(c6,(c7,(c8,(c9,(c10,(c11,(c12,(c13,(c14,())))))))))))))),())
theorem Ze (n:Nat) (K:XE→List AV→ia→Option Out):∀ (m:Nat) n0 i c1 c2 c3 c4 c5 c6 c7 c8 c9 c10 c11 c12 c13 c14,Bb n K m n0 i c1 c2 c3 c4 c5 c6 c7 c8 c9 c10 c11 c12 c13 c14=(Ga n m n0 i c1 c2 c3 c4 c5 c6 c7 c8 c9 c10 c11 c12 c13 c14).bind (Fa K)
  | 0,_,_,_,_,_,_,_,_,_,_,_,_,_,_,_,_=>by kernel_rfl
  | m+1,n0,i,c1,c2,c3,c4,c5,c6,c7,c8,c9,c10,c11,c12,c13,c14=>by
    have h1:Bb n K (m+1) n0 i c1 c2 c3 c4 c5 c6 c7 c8 c9 c10 c11 c12 c13 c14=cc n n0 i c1 c2 c3 c4 c5 c6 c7 c8 c9 c10 c11 c12 c13 c14 (Bb n K m) (fun a=>Fa K (.out a)) (fun a=>Fa K (.ret a)) (fun p=>Fa K (.pan p)):=by kernel_rfl
    have h2:Bb n K m=fun n0 i c1 c2 c3 c4 c5 c6 c7 c8 c9 c10 c11 c12 c13 c14=>(Ga n m n0 i c1 c2 c3 c4 c5 c6 c7 c8 c9 c10 c11 c12 c13 c14).bind (Fa K):=by
      repeat (refine funext fun _=>?_)
      exact Ze n K m _ _ _ _ _ _ _ _ _ _ _ _ _ _ _ _
    rw [h1,h2];exact (cm n m _ _ _ _ _ _ _ _ _ _ _ _ _ _ _ _ (Fa K)).symm
theorem Al (n:Nat):bf tys (ea Out (Zb n)) (Cb n) n (za [1,1,0,1,0,0] (aa Tryz.f45)) 0:=Ua (sp:=Gc) (rp:=Fc) (by kernel_rfl) fun K σ ρ=>Ze n K n σ.1 σ.2.1 ρ.1.1 ρ.1.2.1 ρ.1.2.2.1 ρ.1.2.2.2.1 ρ.1.2.2.2.2.1 ρ.1.2.2.2.2.2.1 ρ.1.2.2.2.2.2.2.1 ρ.1.2.2.2.2.2.2.2.1 ρ.1.2.2.2.2.2.2.2.2.1 ρ.1.2.2.2.2.2.2.2.2.2.1 ρ.1.2.2.2.2.2.2.2.2.2.2.1 ρ.1.2.2.2.2.2.2.2.2.2.2.2.1 ρ.1.2.2.2.2.2.2.2.2.2.2.2.2.1 ρ.1.2.2.2.2.2.2.2.2.2.2.2.2.2.1
theorem dm (n:Nat):oa tys (ea Out (Zb n)) (Cb n) n (aa Tryz.f45) 0:=⟨trivial,⟨trivial,⟨⟨trivial,⟨Al n,⟨⟨trivial,⟨trivial,trivial⟩⟩,⟨trivial,trivial⟩⟩⟩⟩,⟨trivial,trivial⟩⟩⟩⟩
theorem Nn (n:Nat):Enters Tryz.prog 45:=enters_of (c:=aa Tryz.f45) Tryz.func45 (by kernel_rfl) (by kernel_rfl)
def Yg (n:Nat):Entry:=⟨45,EO K1 (.one (.int .i64)) (fun xs=>Ld n xs.1),none,none⟩
theorem bq (n:Nat):EntryOk Tryz.prog gl (Yg n):=ua (Nn n) fun xs y h=>ma tys_ok (qg n) mixed (hint:=Cb n) (n:=n) Tryz.func45 (wa (dm n)) (la (φ:=(fun y=>some (Out.ret (Ab (.one (.int .i64)) y)))) (by kernel_rfl) (Jr n xs.1 _) h)
def rb (n:Nat):List Entry:=Yg n::Zb n
theorem Ie (n:Nat):AllOk Tryz.prog gl (rb n):=.cons (bq n) (qg n)
def rj (n:Nat) {R:Type} (n0 i p1 p2 p3:Int) (p4:BA) (p5:Bool) (p6:Int) (p7:BA) (p8:Bool) (p9 p10:BA) (p11:(Sq U0)) (p12:(Sq BA)) (p13:Int) (p14:Bool) (p15:(Sq T2)) (kn:Int→Int→Int→Int→Int→BA→Bool→Int→BA→Bool→BA→BA→(Sq U0)→(Sq BA)→Int→Bool→(Sq T2)→Option R) (ko:U2→Option R) (kr:Unit→Option R) (kp:Int→Option R):Option R:=if (decide (i<(p15.n:Int)))=true then if (decide (n0<(1048576:Int)))=true then if 0≤i∧i<(p15.n:Int) then if 0≤i∧i<(p15.n:Int) then if 0≤i∧i<(p15.n:Int) then if 0≤i∧i<(p15.n:Int) then kn (IntKind.wrap .i64 ((IntKind.wrap .i64 ((IntKind.wrap .i64 ((IntKind.wrap .i64 ((IntKind.wrap .i64 (n0+(1:Int)))+((((((((p15.at' (Int.toNat i))).2).2).2).1).1).size:Int)))+((((((((((p15.at' (Int.toNat i))).2).2).2).2).1).2).1).size:Int)))+(((((((((((((p15.at' (Int.toNat i))).2).2).2).2).1).2).2).2).1).1).size:Int)))+((((((((((((((p15.at' (Int.toNat i))).2).2).2).2).1).2).2).2).1).2).1).size:Int))) (IntKind.wrap .i64 (i+(1:Int))) p1 p2 p3 p4 p5 p6 p7 p8 p9 p10 p11 p12 p13 p14 p15 else none else none else none else none else ko (n0,p1,p2,p3,p4,p5,p6,p7,p8,p9,p10,p11,p12,p13,p14,p15)
 else ko (n0,p1,p2,p3,p4,p5,p6,p7,p8,p9,p10,p11,p12,p13,p14,p15)
def Ic (n:Nat):Nat→Int→Int→Int→Int→Int→BA→Bool→Int→BA→Bool→BA→BA→(Sq U0)→(Sq BA)→Int→Bool→(Sq T2)→Option (Lx U2 Unit)
 | 0,_,_,_,_,_,_,_,_,_,_,_,_,_,_,_,_,_=>none
 | m+1,n0,i,p1,p2,p3,p4,p5,p6,p7,p8,p9,p10,p11,p12,p13,p14,p15=>rj n n0 i p1 p2 p3 p4 p5 p6 p7 p8 p9 p10 p11 p12 p13 p14 p15 (Ic n m) (fun a=>some (.out a)) (fun a=>some (.ret a)) (fun p=>some (.pan p))
theorem KA (n m:Nat) {S:Type}:∀ n0 i p1 p2 p3 p4 p5 p6 p7 p8 p9 p10 p11 p12 p13 p14 p15 (φ:_→Option S),(Ic n (m+1) n0 i p1 p2 p3 p4 p5 p6 p7 p8 p9 p10 p11 p12 p13 p14 p15).bind φ=rj n n0 i p1 p2 p3 p4 p5 p6 p7 p8 p9 p10 p11 p12 p13 p14 p15 (fun n0 i p1 p2 p3 p4 p5 p6 p7 p8 p9 p10 p11 p12 p13 p14 p15=>(Ic n m n0 i p1 p2 p3 p4 p5 p6 p7 p8 p9 p10 p11 p12 p13 p14 p15).bind φ) (fun a=>φ (.out a)) (fun a=>φ (.ret a)) (fun p=>φ (.pan p)):=by
  intros;first | (simp only [Ic,rj,fa,ba,iB,bB,oL,oX,nB,Option.bind_some]) | rfl
def Oh:List Sl:=.top::.ptr 0 0 0::.top::.dat (.int .i64)::.dat (.int .i64)::tp 62 []
def Nh:List RS:=[.box 53 15 true [.dat (.int .i64),.dat (.int .i64),.dat (.int .i64),.dat .str,.dat .bool,.dat (.int .i64),.dat .str,.dat .bool,.dat .str,.dat .str,.dat (.sl (.pair .str (.pair .str .unit))),.dat (.sl .str),.dat (.int .i64),.dat .bool,.dat (.sl K3)]]
def kq:List Sl:=.top::.ptr 0 0 0::.top::.dat (.int .i64)::tp 63 []
def jq:List RS:=[.box 53 15 true [.dat (.int .i64),.dat (.int .i64),.dat (.int .i64),.dat .str,.dat .bool,.dat (.int .i64),.dat .str,.dat .bool,.dat .str,.dat .str,.dat (.sl (.pair .str (.pair .str .unit))),.dat (.sl .str),.dat (.int .i64),.dat .bool,.dat (.sl K3)]]
def Vb (K:XE→List AV→ia→Option Out):Lx U2 Unit→Option Out:=fun x=>zO x (fun a=>Bm kq jq (a.1,()) ((a.2.1,(a.2.2.1,(a.2.2.2.1,(a.2.2.2.2.1,(a.2.2.2.2.2.1,(a.2.2.2.2.2.2.1,(a.2.2.2.2.2.2.2.1,(a.2.2.2.2.2.2.2.2.1,(a.2.2.2.2.2.2.2.2.2.1,(a.2.2.2.2.2.2.2.2.2.2.1,(a.2.2.2.2.2.2.2.2.2.2.2.1,(a.2.2.2.2.2.2.2.2.2.2.2.2.1,(a.2.2.2.2.2.2.2.2.2.2.2.2.2.1,(a.2.2.2.2.2.2.2.2.2.2.2.2.2.2.1,(a.2.2.2.2.2.2.2.2.2.2.2.2.2.2.2,()))))))))))))))),()) (K (.exit 0))) (fun _=>none) (fun _=>none)
def Nr (n:Nat) {R:Type} (p:(T0×((Sq T2)×Unit))) (k:Bool→Option R):Option R:=(Ld n p.1).bind fun v=>(Ic n n v (0:Int) p.1.1 p.1.2.1 p.1.2.2.1 p.1.2.2.2.1.1 p.1.2.2.2.1.2.1 p.1.2.2.2.2.1 p.1.2.2.2.2.2.1 p.1.2.2.2.2.2.2.1 p.1.2.2.2.2.2.2.2.1.1 p.1.2.2.2.2.2.2.2.1.2.1 p.1.2.2.2.2.2.2.2.2.1 p.1.2.2.2.2.2.2.2.2.2.1 p.1.2.2.2.2.2.2.2.2.2.2.1 p.1.2.2.2.2.2.2.2.2.2.2.2.1 p.2.1).bind fun x_1=>zO x_1 (fun a_2=>if (decide (a_2.1>(20000:Int)))=false then k (decide ((a_2.2.2.2.2.2.2.2.2.2.2.2.2.2.2.2.n:Int)>(100:Int))) else k true) (fun _=>none) (fun _=>none)
def JA (n:Nat) (p:(T0×((Sq T2)×Unit))):Option Bool:=Nr n p some
theorem CH (n:Nat) {S:Type}:∀ p (φ:_→Option S),(JA n p).bind φ=Nr n p φ:=by
  intros;unfold JA Nr;first | (simp only [fa,ba,iB,bB,oL,oX,nB,Option.bind_some]) | rfl
def Ef (n:Nat):Hint Out:={ live:=fun c=>(cond (Nat.beq c 0) (lv [1,3,4]) []),run:=fun c=>(cond (Nat.beq c 0) (some (ou Oh Nh fun σ ρ K=>(Ic n n σ.1 σ.2.1 ρ.1.1 ρ.1.2.1 ρ.1.2.2.1 ρ.1.2.2.2.1 ρ.1.2.2.2.2.1 ρ.1.2.2.2.2.2.1 ρ.1.2.2.2.2.2.2.1 ρ.1.2.2.2.2.2.2.2.1 ρ.1.2.2.2.2.2.2.2.2.1 ρ.1.2.2.2.2.2.2.2.2.2.1 ρ.1.2.2.2.2.2.2.2.2.2.2.1 ρ.1.2.2.2.2.2.2.2.2.2.2.2.1 ρ.1.2.2.2.2.2.2.2.2.2.2.2.2.1 ρ.1.2.2.2.2.2.2.2.2.2.2.2.2.2.1 ρ.1.2.2.2.2.2.2.2.2.2.2.2.2.2.2.1).bind (Vb K))) none),xm:=fun c q=>(cond (Nat.beq c 0&&Nat.beq (q.getD 1000000) 0&&q.isSome) (some [(1,none),(3,none)]) none) }
def Df (n:Nat) (K:XE→List AV→ia→Option Out) (m:Nat) (n0:Int) (i:Int) (p1:Int) (p2:Int) (p3:Int) (p4:BA) (p5:Bool) (p6:Int) (p7:BA) (p8:Bool) (p9:BA) (p10:BA) (p11:(Sq U0)) (p12:(Sq BA)) (p13:Int) (p14:Bool) (p15:(Sq T2)):Option Out:=xh tys (ea Out (rb n)) (Ef n) n (za [1,1,0,1,0,0] (aa Tryz.f28)) 0 Oh Nh K m (n0,(i,())) ((p1,(p2,(p3,(p4,(p5,(p6,(p7,(p8,(p9,(p10,(p11,(p12,(p13,(p14,(p15,()))))))))))))))),())
theorem iq (n:Nat) (K:XE→List AV→ia→Option Out):∀ (m:Nat) n0 i p1 p2 p3 p4 p5 p6 p7 p8 p9 p10 p11 p12 p13 p14 p15,Df n K m n0 i p1 p2 p3 p4 p5 p6 p7 p8 p9 p10 p11 p12 p13 p14 p15=(Ic n m n0 i p1 p2 p3 p4 p5 p6 p7 p8 p9 p10 p11 p12 p13 p14 p15).bind (Vb K)
  | 0,_,_,_,_,_,_,_,_,_,_,_,_,_,_,_,_,_=>by kernel_rfl
  | m+1,n0,i,p1,p2,p3,p4,p5,p6,p7,p8,p9,p10,p11,p12,p13,p14,p15=>by
    have h1:Df n K (m+1) n0 i p1 p2 p3 p4 p5 p6 p7 p8 p9 p10 p11 p12 p13 p14 p15=rj n n0 i p1 p2 p3 p4 p5 p6 p7 p8 p9 p10 p11 p12 p13 p14 p15 (Df n K m) (fun a=>Vb K (.out a)) (fun a=>Vb K (.ret a)) (fun p=>Vb K (.pan p)):=by kernel_rfl
    have h2:Df n K m=fun n0 i p1 p2 p3 p4 p5 p6 p7 p8 p9 p10 p11 p12 p13 p14 p15=>(Ic n m n0 i p1 p2 p3 p4 p5 p6 p7 p8 p9 p10 p11 p12 p13 p14 p15).bind (Vb K):=by
      repeat (refine funext fun _=>?_)
      exact iq n K m _ _ _ _ _ _ _ _ _ _ _ _ _ _ _ _ _
    rw [h1,h2];exact (KA n m _ _ _ _ _ _ _ _ _ _ _ _ _ _ _ _ _ (Vb K)).symm
theorem ly (n:Nat):bf tys (ea Out (rb n)) (Ef n) n (za [1,1,0,1,0,0] (aa Tryz.f28)) 0:=Ua (sp:=Oh) (rp:=Nh) (by kernel_rfl) fun K σ ρ=>iq n K n σ.1 σ.2.1 ρ.1.1 ρ.1.2.1 ρ.1.2.2.1 ρ.1.2.2.2.1 ρ.1.2.2.2.2.1 ρ.1.2.2.2.2.2.1 ρ.1.2.2.2.2.2.2.1 ρ.1.2.2.2.2.2.2.2.1 ρ.1.2.2.2.2.2.2.2.2.1 ρ.1.2.2.2.2.2.2.2.2.2.1 ρ.1.2.2.2.2.2.2.2.2.2.2.1 ρ.1.2.2.2.2.2.2.2.2.2.2.2.1 ρ.1.2.2.2.2.2.2.2.2.2.2.2.2.1 ρ.1.2.2.2.2.2.2.2.2.2.2.2.2.2.1 ρ.1.2.2.2.2.2.2.2.2.2.2.2.2.2.2.1
theorem LA (n:Nat):oa tys (ea Out (rb n)) (Ef n) n (aa Tryz.f28) 0:=⟨trivial,⟨trivial,⟨⟨trivial,⟨ly n,⟨⟨trivial,⟨trivial,trivial⟩⟩,⟨trivial,trivial⟩⟩⟩⟩,⟨trivial,trivial⟩⟩⟩⟩
theorem nD (n:Nat):Enters Tryz.prog 28:=enters_of (c:=aa Tryz.f28) Tryz.func28 (by kernel_rfl) (by kernel_rfl)
def Rw (n:Nat):Entry:=⟨28,EO K5 (.one .bool) (fun xs=>JA n xs.1),none,none⟩
theorem fF (n:Nat):EntryOk Tryz.prog gl (Rw n):=ua (nD n) fun xs y h=>ma tys_ok (Ie n) mixed (hint:=Ef n) (n:=n) Tryz.func28 (wa (LA n)) (la (φ:=(fun y=>some (Out.ret (Ab (.one .bool) y)))) (by kernel_rfl) (CH n xs.1 _) h)
def Rn (n:Nat):List Entry:=Rw n::rb n
theorem Im (n:Nat):AllOk Tryz.prog gl (Rn n):=.cons (fF n) (Ie n)
def Mq (n:Nat) {R:Type} (n0 least most:Int) (k:Bool→Option R):Option R:=if (decide (n0≥least))=true then k (decide (n0≤most)) else k false
def Ed (n:Nat) (n0 least most:Int):Option Bool:=Mq n n0 least most some
theorem NG (n:Nat) {S:Type}:∀ n0 least most (φ:_→Option S),(Ed n n0 least most).bind φ=Mq n n0 least most φ:=by
  intros;unfold Ed Mq;first | (simp only [fa,ba,iB,bB,oL,oX,nB,Option.bind_some]) | rfl
def Zo (n:Nat):Hint Out:={ live:=fun c=>[],run:=fun c=>none,xm:=fun c q=>none }
theorem Pz (n:Nat):oa tys (ea Out (Rn n)) (Zo n) n (aa Tryz.f72) 0:=ja (fun _=>rfl) _ _ (by kernel_rfl)
theorem TB (n:Nat):Enters Tryz.prog 72:=enters_of (c:=aa Tryz.f72) Tryz.func72 (by kernel_rfl) (by kernel_rfl)
def Gv (n:Nat):Entry:=⟨72,EO (.pair (.int .i64) (.pair (.int .i64) (.pair (.int .i64) .unit))) (.one .bool) (fun xs=>Ed n xs.1 xs.2.1 xs.2.2.1),none,none⟩
theorem eE (n:Nat):EntryOk Tryz.prog gl (Gv n):=ua (TB n) fun xs y h=>ma tys_ok (Im n) mixed (hint:=Zo n) (n:=n) Tryz.func72 (wa (Pz n)) (la (φ:=(fun y=>some (Out.ret (Ab (.one .bool) y)))) (by kernel_rfl) (NG n xs.1 xs.2.1 xs.2.2.1 _) h)
def Hv (n:Nat):List Entry:=Gv n::Rn n
theorem Kx (n:Nat):AllOk Tryz.prog gl (Hv n):=.cons (eE n) (Im n)
def Dh (n:Nat):List Entry:=⟨102,EO (.pair .str (.pair .str .unit)) (.one .bool) (fun xs=>bp xs.1 xs.2.1),none,none⟩::Hv n
theorem si (n:Nat):AllOk Tryz.prog gl (Dh n):=.cons gE (Kx n)
def sn (n:Nat) {R:Type} (f:U4) (k:Bool→Option R):Option R:=if f.2.1=true then if (f.1.toList==(⟨#[]⟩:BA).toList)=false then k (f.1.toList==(⟨#[13]⟩:BA).toList) else k true else if (decide ((f.1.size:Int)<(512:Int)))=true then (bp f.1 (⟨#[13,10]⟩:BA)).bind fun v=>k (!v) else k false
def Ak (n:Nat) (f:U4):Option Bool:=sn n f some
theorem pE (n:Nat) {S:Type}:∀ f (φ:_→Option S),(Ak n f).bind φ=sn n f φ:=by
  intros;unfold Ak sn;first | (simp only [fa,ba,iB,bB,oL,oX,nB,Option.bind_some]) | rfl
def zm (n:Nat):Hint Out:={ live:=fun c=>[],run:=fun c=>none,xm:=fun c q=>none }
theorem Tx (n:Nat):oa tys (ea Out (Dh n)) (zm n) n (aa Tryz.f73) 0:=ja (fun _=>rfl) _ _ (by kernel_rfl)
theorem Tz (n:Nat):Enters Tryz.prog 73:=enters_of (c:=aa Tryz.f73) Tryz.func73 (by kernel_rfl) (by kernel_rfl)
def Ls (n:Nat):Entry:=⟨73,EO (.pair (.pair .str (.pair .bool .unit)) .unit) (.one .bool) (fun xs=>Ak n xs.1),none,none⟩
theorem jC (n:Nat):EntryOk Tryz.prog gl (Ls n):=ua (Tz n) fun xs y h=>ma tys_ok (si n) mixed (hint:=zm n) (n:=n) Tryz.func73 (wa (Tx n)) (la (φ:=(fun y=>some (Out.ret (Ab (.one .bool) y)))) (by kernel_rfl) (pE n xs.1 _) h)
def Bk (n:Nat):List Entry:=Ls n::Dh n
theorem Ck (n:Nat):AllOk Tryz.prog gl (Bk n):=.cons (jC n) (si n)
def uh (n:Nat) {R:Type} (s prefix0:BA) (k:Bool→Option R):Option R:=if (decide ((s.size:Int)≥(prefix0.size:Int)))=true then if 0≤(prefix0.size:Int)∧(prefix0.size:Int)≤(s.size:Int) then k ((s.extract (Int.toNat (0:Int)) (Int.toNat (prefix0.size:Int))).toList==prefix0.toList) else none else k false
def ve (n:Nat) (s prefix0:BA):Option Bool:=uh n s prefix0 some
theorem Ux (n:Nat) {S:Type}:∀ s prefix0 (φ:_→Option S),(ve n s prefix0).bind φ=uh n s prefix0 φ:=by
  intros;unfold ve uh;first | (simp only [fa,ba,iB,bB,oL,oX,nB,Option.bind_some]) | rfl
def bi (n:Nat):Hint Out:={ live:=fun c=>[],run:=fun c=>none,xm:=fun c q=>none }
theorem Uq (n:Nat):oa tys (ea Out (Bk n)) (bi n) n (aa Tryz.f94) 0:=ja (fun _=>rfl) _ _ (by kernel_rfl)
theorem vt (n:Nat):Enters Tryz.prog 94:=enters_of (c:=aa Tryz.f94) Tryz.func94 (by kernel_rfl) (by kernel_rfl)
def Fk (n:Nat):Entry:=⟨94,EO (.pair .str (.pair .str .unit)) (.one .bool) (fun xs=>ve n xs.1 xs.2.1),none,none⟩
theorem Nv (n:Nat):EntryOk Tryz.prog gl (Fk n):=ua (vt n) fun xs y h=>ma tys_ok (Ck n) mixed (hint:=bi n) (n:=n) Tryz.func94 (wa (Uq n)) (la (φ:=(fun y=>some (Out.ret (Ab (.one .bool) y)))) (by kernel_rfl) (Ux n xs.1 xs.2.1 _) h)
def Xf (n:Nat):List Entry:=Fk n::Bk n
theorem zg (n:Nat):AllOk Tryz.prog gl (Xf n):=.cons (Nv n) (Ck n)
def Gh (n:Nat) {R:Type} (s prefix0:BA) (k:Bool→Option R):Option R:=(ve n s prefix0).bind fun v=>k v
def wd (n:Nat) (s prefix0:BA):Option Bool:=Gh n s prefix0 some
theorem fy (n:Nat) {S:Type}:∀ s prefix0 (φ:_→Option S),(wd n s prefix0).bind φ=Gh n s prefix0 φ:=by
  intros;unfold wd Gh;first | (simp only [fa,ba,iB,bB,oL,oX,nB,Option.bind_some]) | rfl
def ti (n:Nat):Hint Out:={ live:=fun c=>[],run:=fun c=>none,xm:=fun c q=>none }
theorem tr (n:Nat):oa tys (ea Out (Xf n)) (ti n) n (aa Tryz.f58) 0:=ja (fun _=>rfl) _ _ (by kernel_rfl)
theorem Mt (n:Nat):Enters Tryz.prog 58:=enters_of (c:=aa Tryz.f58) Tryz.func58 (by kernel_rfl) (by kernel_rfl)
def Wk (n:Nat):Entry:=⟨58,EO (.pair .str (.pair .str .unit)) (.one .bool) (fun xs=>wd n xs.1 xs.2.1),none,none⟩
theorem jw (n:Nat):EntryOk Tryz.prog gl (Wk n):=ua (Mt n) fun xs y h=>ma tys_ok (zg n) mixed (hint:=ti n) (n:=n) Tryz.func58 (wa (tr n)) (la (φ:=(fun y=>some (Out.ret (Ab (.one .bool) y)))) (by kernel_rfl) (fy n xs.1 xs.2.1 _) h)
def ig (n:Nat):List Entry:=Wk n::Xf n
theorem Qg (n:Nat):AllOk Tryz.prog gl (ig n):=.cons (jw n) (zg n)
def dh (n:Nat) {R:Type} (s:BA) (k:Bool→Option R):Option R:=(wd n s (⟨#[91]⟩:BA)).bind fun v=>k v
def sd (n:Nat) (s:BA):Option Bool:=dh n s some
theorem gx (n:Nat) {S:Type}:∀ s (φ:_→Option S),(sd n s).bind φ=dh n s φ:=by
  intros;unfold sd dh;first | (simp only [fa,ba,iB,bB,oL,oX,nB,Option.bind_some]) | rfl
def Sh (n:Nat):Hint Out:={ live:=fun c=>[],run:=fun c=>none,xm:=fun c q=>none }
theorem pq (n:Nat):oa tys (ea Out (ig n)) (Sh n) n (aa Tryz.f128) 0:=ja (fun _=>rfl) _ _ (by kernel_rfl)
theorem dt (n:Nat):Enters Tryz.prog 128:=enters_of (c:=aa Tryz.f128) Tryz.func128 (by kernel_rfl) (by kernel_rfl)
def Ij (n:Nat):Entry:=⟨128,EO (.pair .str .unit) (.one .bool) (fun xs=>sd n xs.1),none,none⟩
theorem Jj (n:Nat):EntryOk Tryz.prog gl (Ij n):=ua (dt n) fun xs y h=>ma tys_ok (Qg n) mixed (hint:=Sh n) (n:=n) Tryz.func128 (wa (pq n)) (la (φ:=(fun y=>some (Out.ret (Ab (.one .bool) y)))) (by kernel_rfl) (gx n xs.1 _) h)
def Hf (n:Nat):List Entry:=Ij n::ig n
theorem sg (n:Nat):AllOk Tryz.prog gl (Hf n):=.cons (Jj n) (Qg n)
def vh (n:Nat) {R:Type} (s suffix:BA) (k:Bool→Option R):Option R:=if (decide ((s.size:Int)≥(suffix.size:Int)))=true then if 0≤(IntKind.wrap .i64 ((s.size:Int) - (suffix.size:Int)))∧(IntKind.wrap .i64 ((s.size:Int) - (suffix.size:Int)))≤(s.size:Int) then k ((s.extract (Int.toNat (IntKind.wrap .i64 ((s.size:Int) - (suffix.size:Int)))) (Int.toNat (s.size:Int))).toList==suffix.toList) else none else k false
def Ag (n:Nat) (s suffix:BA):Option Bool:=vh n s suffix some
theorem Vx (n:Nat) {S:Type}:∀ s suffix (φ:_→Option S),(Ag n s suffix).bind φ=vh n s suffix φ:=by
  intros;unfold Ag vh;first | (simp only [fa,ba,iB,bB,oL,oX,nB,Option.bind_some]) | rfl
def ci (n:Nat):Hint Out:={ live:=fun c=>[],run:=fun c=>none,xm:=fun c q=>none }
theorem Vq (n:Nat):oa tys (ea Out (Hf n)) (ci n) n (aa Tryz.f95) 0:=ja (fun _=>rfl) _ _ (by kernel_rfl)
theorem wt (n:Nat):Enters Tryz.prog 95:=enters_of (c:=aa Tryz.f95) Tryz.func95 (by kernel_rfl) (by kernel_rfl)
def Gk (n:Nat):Entry:=⟨95,EO (.pair .str (.pair .str .unit)) (.one .bool) (fun xs=>Ag n xs.1 xs.2.1),none,none⟩
theorem Ov (n:Nat):EntryOk Tryz.prog gl (Gk n):=ua (wt n) fun xs y h=>ma tys_ok (sg n) mixed (hint:=ci n) (n:=n) Tryz.func95 (wa (Vq n)) (la (φ:=(fun y=>some (Out.ret (Ab (.one .bool) y)))) (by kernel_rfl) (Vx n xs.1 xs.2.1 _) h)
def Yf (n:Nat):List Entry:=Gk n::Hf n
theorem Bg (n:Nat):AllOk Tryz.prog gl (Yf n):=.cons (Ov n) (sg n)
def Hh (n:Nat) {R:Type} (s suffix:BA) (k:Bool→Option R):Option R:=(Ag n s suffix).bind fun v=>k v
def xd (n:Nat) (s suffix:BA):Option Bool:=Hh n s suffix some
theorem gy (n:Nat) {S:Type}:∀ s suffix (φ:_→Option S),(xd n s suffix).bind φ=Hh n s suffix φ:=by
  intros;unfold xd Hh;first | (simp only [fa,ba,iB,bB,oL,oX,nB,Option.bind_some]) | rfl
def ui (n:Nat):Hint Out:={ live:=fun c=>[],run:=fun c=>none,xm:=fun c q=>none }
theorem ur (n:Nat):oa tys (ea Out (Yf n)) (ui n) n (aa Tryz.f59) 0:=ja (fun _=>rfl) _ _ (by kernel_rfl)
theorem Nt (n:Nat):Enters Tryz.prog 59:=enters_of (c:=aa Tryz.f59) Tryz.func59 (by kernel_rfl) (by kernel_rfl)
def Xk (n:Nat):Entry:=⟨59,EO (.pair .str (.pair .str .unit)) (.one .bool) (fun xs=>xd n xs.1 xs.2.1),none,none⟩
theorem Zk (n:Nat):EntryOk Tryz.prog gl (Xk n):=ua (Nt n) fun xs y h=>ma tys_ok (Bg n) mixed (hint:=ui n) (n:=n) Tryz.func59 (wa (ur n)) (la (φ:=(fun y=>some (Out.ret (Ab (.one .bool) y)))) (by kernel_rfl) (gy n xs.1 xs.2.1 _) h)
def Yk (n:Nat):List Entry:=Xk n::Yf n
theorem Kp (n:Nat):AllOk Tryz.prog gl (Yk n):=.cons (Zk n) (Bg n)
theorem Rq:Tryz.prog.funcs[201]?=some Tryz.f201:=by kernel_rfl
theorem Tq:EntryOk Tryz.prog gl ⟨201,yh,some (.flat jG),none⟩:=iE Rq (by kernel_rfl) (by kernel_rfl) (by kernel_rfl) (by kernel_rfl)
def Zh (n:Nat):List Entry:=⟨201,yh,some (.flat jG),none⟩::Yk n
theorem Wl (n:Nat):AllOk Tryz.prog gl (Zh n):=.cons Tq (Kp n)
theorem Dk:Tryz.prog.funcs[164]?=some Tryz.f164:=by kernel_rfl
theorem Ek:EntryOk Tryz.prog gl ⟨164,yh,some (.flat Ql),none⟩:=Sv Dk (by kernel_rfl) (by kernel_rfl) (by kernel_rfl) (by kernel_rfl)
def rc (n:Nat):List Entry:=⟨164,yh,some (.flat Ql),none⟩::Zh n
theorem ud (n:Nat):AllOk Tryz.prog gl (rc n):=.cons Ek (Wl n)
def wh (n:Nat) {R:Type} (s:BA) (c:Int) (k:Int→Option R):Option R:=k (Lib.indexByte s.data.toList (Nat.toUInt8 (Int.toNat c)))
def we (n:Nat) (s:BA) (c:Int):Option Int:=wh n s c some
theorem Wx (n:Nat) {S:Type}:∀ s c (φ:_→Option S),(we n s c).bind φ=wh n s c φ:=by
  intros;unfold we wh;first | (simp only [fa,ba,iB,bB,oL,oX,nB,Option.bind_some]) | rfl
def di (n:Nat):Hint Out:={ live:=fun c=>[],run:=fun c=>none,xm:=fun c q=>none }
theorem Wq (n:Nat):oa tys (ea Out (rc n)) (di n) n (aa Tryz.f142) 0:=ja (fun _=>rfl) _ _ (by kernel_rfl)
theorem zt (n:Nat):Enters Tryz.prog 142:=enters_of (c:=aa Tryz.f142) Tryz.func142 (by kernel_rfl) (by kernel_rfl)
def Hk (n:Nat):Entry:=⟨142,EO (.pair .str (.pair (.int .u8) .unit)) (.one (.int .i64)) (fun xs=>we n xs.1 xs.2.1),none,none⟩
theorem Pv (n:Nat):EntryOk Tryz.prog gl (Hk n):=ua (zt n) fun xs y h=>ma tys_ok (ud n) mixed (hint:=di n) (n:=n) Tryz.func142 (wa (Wq n)) (la (φ:=(fun y=>some (Out.ret (Ab (.one (.int .i64)) y)))) (by kernel_rfl) (Wx n xs.1 xs.2.1 _) h)
def Zf (n:Nat):List Entry:=Hk n::rc n
theorem Cg (n:Nat):AllOk Tryz.prog gl (Zf n):=.cons (Pv n) (ud n)
def Xq (n:Nat) {R:Type} (s substr:BA) (k:Int→Option R):Option R:=if ((substr.size:Int)==(0:Int))=false then if (substr.toList==s.toList)=true then k (0:Int) else if ((substr.size:Int)==(1:Int))=true then if 0≤(0:Int)∧(0:Int)<(substr.size:Int) then (we n s (bt substr (0:Int))).bind fun v=>k v else none else if (decide ((substr.size:Int)≥(s.size:Int)))=true then k (-1:Int) else none else k (0:Int)
def mu (n:Nat) (s substr:BA):Option Int:=Xq n s substr some
theorem TG (n:Nat) {S:Type}:∀ s substr (φ:_→Option S),(mu n s substr).bind φ=Xq n s substr φ:=by
  intros;unfold mu Xq;first | (simp only [fa,ba,iB,bB,oL,oX,nB,Option.bind_some]) | rfl
def np (n:Nat):Hint Out:={ live:=fun c=>[],run:=fun c=>none,xm:=fun c q=>none }
theorem Wz (n:Nat):oa tys (ea Out (Zf n)) (np n) n (aa Tryz.f118) 0:=⟨trivial,⟨trivial,⟨⟨trivial,⟨⟨trivial,trivial⟩,⟨trivial,⟨⟨trivial,trivial⟩,⟨trivial,⟨⟨trivial,trivial⟩,⟨trivial,⟨⟨trivial,trivial⟩,trivial⟩⟩⟩⟩⟩⟩⟩⟩,⟨trivial,⟨trivial,⟨trivial,⟨trivial,⟨trivial,⟨⟨aH (by kernel_rfl),⟨⟨trivial,⟨trivial,trivial⟩⟩,⟨⟨trivial,⟨⟨trivial,⟨⟨trivial,⟨⟨trivial,trivial⟩,trivial⟩⟩,trivial⟩⟩,trivial⟩⟩,⟨⟨trivial,⟨⟨trivial,trivial⟩,trivial⟩⟩,⟨trivial,⟨trivial,⟨trivial,⟨⟨trivial,⟨⟨trivial,⟨⟨trivial,trivial⟩,trivial⟩⟩,⟨trivial,trivial⟩⟩⟩,⟨trivial,⟨⟨trivial,⟨⟨trivial,⟨⟨trivial,trivial⟩,trivial⟩⟩,⟨trivial,trivial⟩⟩⟩,trivial⟩⟩⟩⟩⟩⟩⟩⟩⟩⟩,⟨trivial,trivial⟩⟩⟩⟩⟩⟩⟩⟩⟩⟩
theorem mC (n:Nat):Enters Tryz.prog 118:=enters_of (c:=aa Tryz.f118) Tryz.func118 (by kernel_rfl) (by kernel_rfl)
def Qv (n:Nat):Entry:=⟨118,EO (.pair .str (.pair .str .unit)) (.one (.int .i64)) (fun xs=>mu n xs.1 xs.2.1),none,none⟩
theorem rE (n:Nat):EntryOk Tryz.prog gl (Qv n):=ua (mC n) fun xs y h=>ma tys_ok (Cg n) mixed (hint:=np n) (n:=n) Tryz.func118 (wa (Wz n)) (la (φ:=(fun y=>some (Out.ret (Ab (.one (.int .i64)) y)))) (by kernel_rfl) (TG n xs.1 xs.2.1 _) h)
def tn (n:Nat):List Entry:=Qv n::Zf n
theorem Am (n:Nat):AllOk Tryz.prog gl (tn n):=.cons (rE n) (Cg n)
def xr (n:Nat) {R:Type} (s substr:BA) (k:Int→Option R):Option R:=(mu n s substr).bind fun v=>k v
def Yi (n:Nat) (s substr:BA):Option Int:=xr n s substr some
theorem jH (n:Nat) {S:Type}:∀ s substr (φ:_→Option S),(Yi n s substr).bind φ=xr n s substr φ:=by
  intros;unfold Yi xr;first | (simp only [fa,ba,iB,bB,oL,oX,nB,Option.bind_some]) | rfl
def Lp (n:Nat):Hint Out:={ live:=fun c=>[],run:=fun c=>none,xm:=fun c q=>none }
theorem rA (n:Nat):oa tys (ea Out (tn n)) (Lp n) n (aa Tryz.f127) 0:=ja (fun _=>rfl) _ _ (by kernel_rfl)
theorem KC (n:Nat):Enters Tryz.prog 127:=enters_of (c:=aa Tryz.f127) Tryz.func127 (by kernel_rfl) (by kernel_rfl)
def lw (n:Nat):Entry:=⟨127,EO (.pair .str (.pair .str .unit)) (.one (.int .i64)) (fun xs=>Yi n xs.1 xs.2.1),none,none⟩
theorem mw (n:Nat):EntryOk Tryz.prog gl (lw n):=ua (KC n) fun xs y h=>ma tys_ok (Am n) mixed (hint:=Lp n) (n:=n) Tryz.func127 (wa (rA n)) (la (φ:=(fun y=>some (Out.ret (Ab (.one (.int .i64)) y)))) (by kernel_rfl) (jH n xs.1 xs.2.1 _) h)
def kg (n:Nat):List Entry:=lw n::tn n
theorem Fm (n:Nat):AllOk Tryz.prog gl (kg n):=.cons (mw n) (Am n)
def Xi (n:Nat) {R:Type} (s1 substr1:BA) (n0:Int) (kn:BA→BA→Int→Option R) (ko:Unit→Option R) (kr:(Int)→Option R) (kp:Int→Option R):Option R:=(Yi n s1 substr1).bind fun v=>if (v==(-1:Int))=true then kr n0 else if 0≤(IntKind.wrap .i64 (v+(substr1.size:Int)))∧(IntKind.wrap .i64 (v+(substr1.size:Int)))≤(s1.size:Int) then kn (s1.extract (Int.toNat (IntKind.wrap .i64 (v+(substr1.size:Int)))) (Int.toNat (s1.size:Int))) substr1 (IntKind.wrap .i64 (n0+(1:Int))) else none
def Bc (n:Nat):Nat→BA→BA→Int→Option (Lx Unit (Int))
 | 0,_,_,_=>none
 | m+1,s1,substr1,n0=>Xi n s1 substr1 n0 (Bc n m) (fun a=>some (.out a)) (fun a=>some (.ret a)) (fun p=>some (.pan p))
theorem pA (n m:Nat) {S:Type}:∀ s1 substr1 n0 (φ:_→Option S),(Bc n (m+1) s1 substr1 n0).bind φ=Xi n s1 substr1 n0 (fun s1 substr1 n0=>(Bc n m s1 substr1 n0).bind φ) (fun a=>φ (.out a)) (fun a=>φ (.ret a)) (fun p=>φ (.pan p)):=by
  intros;first | (simp only [Bc,Xi,fa,ba,iB,bB,oL,oX,nB,Option.bind_some]) | rfl
def Fh:List Sl:=.dat .str::.dat .str::.top::.top::.top::.dat (.int .i64)::tp 28 []
def Eh:List RS:=[]
def Jp:List Sl:=tp 4 (.dat (.int .i64)::tp 29 [])
def Ip:List RS:=[]
def Ub (K:XE→List AV→ia→Option Out):Lx Unit (Int)→Option Out:=fun x=>zO x (fun _=>none) (fun a=>Bm Jp Ip (a,()) () (K .ret)) (fun _=>none)
def sr (n:Nat) {R:Type} (s substr:BA) (k:Int→Option R):Option R:=if ((substr.size:Int)==(0:Int))=true then none else if ((substr.size:Int)==(1:Int))=true then if 0≤(0:Int)∧(0:Int)<(substr.size:Int) then k ((Lib.countByte s.data.toList (Nat.toUInt8 (Int.toNat (bt substr (0:Int)))):Nat):Int) else none else (Bc n n s substr (0:Int)).bind fun x_1=>zO x_1 (fun _=>none) (fun a_2=>k a_2) (fun _=>none)
def uu (n:Nat) (s substr:BA):Option Int:=sr n s substr some
theorem iH (n:Nat) {S:Type}:∀ s substr (φ:_→Option S),(uu n s substr).bind φ=sr n s substr φ:=by
  intros;unfold uu sr;first | (simp only [fa,ba,iB,bB,oL,oX,nB,Option.bind_some]) | rfl
def zf (n:Nat):Hint Out:={ live:=fun c=>(cond (Nat.beq c 0) (lv [0,1,5]) []),run:=fun c=>(cond (Nat.beq c 0) (some (ou Fh Eh fun σ ρ K=>(Bc n n σ.1 σ.2.1 σ.2.2.1).bind (Ub K))) none),xm:=fun c q=>(cond (Nat.beq c 1&&q.isNone) (some [(4,none)]) none) }
def xf (n:Nat) (K:XE→List AV→ia→Option Out) (m:Nat) (s1:BA) (substr1:BA) (n0:Int):Option Out:=xh tys (ea Out (kg n)) (zf n) n (za [1,1,1,1,0,0] (aa Tryz.f188)) 0 Fh Eh K m (s1,(substr1,(n0,()))) ()
theorem Hp (n:Nat) (K:XE→List AV→ia→Option Out):∀ (m:Nat) s1 substr1 n0,xf n K m s1 substr1 n0=(Bc n m s1 substr1 n0).bind (Ub K)
  | 0,_,_,_=>by kernel_rfl
  | m+1,s1,substr1,n0=>by
    have h1:xf n K (m+1) s1 substr1 n0=Xi n s1 substr1 n0 (xf n K m) (fun a=>Ub K (.out a)) (fun a=>Ub K (.ret a)) (fun p=>Ub K (.pan p)):=by kernel_rfl
    have h2:xf n K m=fun s1 substr1 n0=>(Bc n m s1 substr1 n0).bind (Ub K):=by
      repeat (refine funext fun _=>?_)
      exact Hp n K m _ _ _
    rw [h1,h2];exact (pA n m _ _ _ (Ub K)).symm
theorem ey (n:Nat):bf tys (ea Out (kg n)) (zf n) n (za [1,1,1,1,0,0] (aa Tryz.f188)) 0:=Ua (sp:=Fh) (rp:=Eh) (by kernel_rfl) fun K σ ρ=>Hp n K n σ.1 σ.2.1 σ.2.2.1
theorem qA (n:Nat):oa tys (ea Out (kg n)) (zf n) n (aa Tryz.f188) 0:=⟨trivial,⟨⟨trivial,⟨⟨trivial,trivial⟩,trivial⟩⟩,⟨⟨trivial,⟨⟨trivial,trivial⟩,trivial⟩⟩,⟨trivial,⟨ey n,⟨trivial,⟨⟨trivial,⟨⟨trivial,trivial⟩,trivial⟩⟩,⟨trivial,trivial⟩⟩⟩⟩⟩⟩⟩⟩
theorem JC (n:Nat):Enters Tryz.prog 188:=enters_of (c:=aa Tryz.f188) Tryz.func188 (by kernel_rfl) (by kernel_rfl)
def iw (n:Nat):Entry:=⟨188,EO (.pair .str (.pair .str .unit)) (.one (.int .i64)) (fun xs=>uu n xs.1 xs.2.1),none,none⟩
theorem KE (n:Nat):EntryOk Tryz.prog gl (iw n):=ua (JC n) fun xs y h=>ma tys_ok (Fm n) mixed (hint:=zf n) (n:=n) Tryz.func188 (wa (qA n)) (la (φ:=(fun y=>some (Out.ret (Ab (.one (.int .i64)) y)))) (by kernel_rfl) (iH n xs.1 xs.2.1 _) h)
def gg (n:Nat):List Entry:=iw n::kg n
theorem Em (n:Nat):AllOk Tryz.prog gl (gg n):=.cons (KE n) (Fm n)
def ne (n:Nat) {R:Type} (s1 sep1:BA) (sepSave1 n01 i:Int) (a:(Sq BA)) (kn:BA→BA→Int→Int→Int→(Sq BA)→Option R) (ko:(BA×Int×(Sq BA))→Option R) (kr:Unit→Option R) (kp:Int→Option R):Option R:=if (decide (i<n01))=true then (Yi n s1 sep1).bind fun v1=>if (decide (v1<(0:Int)))=true then ko (s1,i,a) else if 0≤(IntKind.wrap .i64 (v1+sepSave1))∧(IntKind.wrap .i64 (v1+sepSave1))≤(s1.size:Int) then if 0≤i∧i<(a.n:Int) then if 0≤(IntKind.wrap .i64 (v1+(sep1.size:Int)))∧(IntKind.wrap .i64 (v1+(sep1.size:Int)))≤(s1.size:Int) then kn (s1.extract (Int.toNat (IntKind.wrap .i64 (v1+(sep1.size:Int)))) (Int.toNat (s1.size:Int))) sep1 sepSave1 n01 (IntKind.wrap .i64 (i+(1:Int))) (⟨a.n,fun q=>if q=(Int.toNat i)∧q<a.n then (s1.extract (Int.toNat (0:Int)) (Int.toNat (IntKind.wrap .i64 (v1+sepSave1)))) else a.at' q⟩:Sq BA) else none else none else none else ko (s1,i,a)
def Va (n:Nat):Nat→BA→BA→Int→Int→Int→(Sq BA)→Option (Lx (BA×Int×(Sq BA)) Unit)
 | 0,_,_,_,_,_,_=>none
 | m+1,s1,sep1,sepSave1,n01,i,a=>ne n s1 sep1 sepSave1 n01 i a (Va n m) (fun a=>some (.out a)) (fun a=>some (.ret a)) (fun p=>some (.pan p))
theorem Qt (n m:Nat) {S:Type}:∀ s1 sep1 sepSave1 n01 i a (φ:_→Option S),(Va n (m+1) s1 sep1 sepSave1 n01 i a).bind φ=ne n s1 sep1 sepSave1 n01 i a (fun s1 sep1 sepSave1 n01 i a=>(Va n m s1 sep1 sepSave1 n01 i a).bind φ) (fun a=>φ (.out a)) (fun a=>φ (.ret a)) (fun p=>φ (.pan p)):=by
  intros;first | (simp only [Va,ne,fa,ba,iB,bB,oL,oX,nB,Option.bind_some]) | rfl
def ie:List Sl:=.dat .str::.dat .str::.dat (.int .i64)::.dat (.int .i64)::tp 5 (.row 0::.dat (.int .i64)::tp 55 [])
def ge:List RS:=[.row 9 1 .str false false]
def el:List Sl:=.dat .str::tp 8 (.row 0::.dat (.int .i64)::tp 55 [])
def dl:List RS:=[.row 9 1 .str false false]
def ab (K:XE→List AV→ia→Option Out):Lx (BA×Int×(Sq BA)) Unit→Option Out:=fun x=>zO x (fun a=>Bm el dl (a.1,(a.2.1,())) (a.2.2,()) (K (.exit 0))) (fun _=>none) (fun _=>none)
def aj (n:Nat) {R:Type} (s sep:BA) (sepSave n0:Int) (k:(Sq BA)→Option R):Option R:=if (n0==(0:Int))=true then k (⟨0,fun _=>pa .str⟩:Sq BA) else if (sep.toList==(⟨#[]⟩:BA).toList)=true then none else if (decide (n0<(0:Int)))=true then (uu n s sep).bind fun v=>if 0≤(if (IntKind.wrap .i64 ((s.size:Int)+(1:Int)))<(IntKind.wrap .i64 (v+(1:Int))) then (IntKind.wrap .i64 ((s.size:Int)+(1:Int))) else (IntKind.wrap .i64 (v+(1:Int))))∧(if (IntKind.wrap .i64 ((s.size:Int)+(1:Int)))<(IntKind.wrap .i64 (v+(1:Int))) then (IntKind.wrap .i64 ((s.size:Int)+(1:Int))) else (IntKind.wrap .i64 (v+(1:Int))))≤(if (IntKind.wrap .i64 ((s.size:Int)+(1:Int)))<(IntKind.wrap .i64 (v+(1:Int))) then (IntKind.wrap .i64 ((s.size:Int)+(1:Int))) else (IntKind.wrap .i64 (v+(1:Int)))) then if cd (Int.toNat (if (IntKind.wrap .i64 ((s.size:Int)+(1:Int)))<(IntKind.wrap .i64 (v+(1:Int))) then (IntKind.wrap .i64 ((s.size:Int)+(1:Int))) else (IntKind.wrap .i64 (v+(1:Int))))) 16=true then (Va n n s sep sepSave (IntKind.wrap .i64 ((if (IntKind.wrap .i64 ((s.size:Int)+(1:Int)))<(IntKind.wrap .i64 (v+(1:Int))) then (IntKind.wrap .i64 ((s.size:Int)+(1:Int))) else (IntKind.wrap .i64 (v+(1:Int)))) - (1:Int))) (0:Int) (⟨(Int.toNat (if (IntKind.wrap .i64 ((s.size:Int)+(1:Int)))<(IntKind.wrap .i64 (v+(1:Int))) then (IntKind.wrap .i64 ((s.size:Int)+(1:Int))) else (IntKind.wrap .i64 (v+(1:Int))))),fun _=>(⟨#[]⟩:BA)⟩:Sq BA)).bind fun x_1=>zO x_1
 (fun a_2=>if 0≤a_2.2.1∧a_2.2.1<(a_2.2.2.n:Int) then if 0≤(IntKind.wrap .i64 (a_2.2.1+(1:Int)))∧(IntKind.wrap .i64 (a_2.2.1+(1:Int)))≤(a_2.2.2.n:Int) then k (⟨((Int.toNat (IntKind.wrap .i64 (a_2.2.1+(1:Int)))) - (Int.toNat (0:Int))),fun i=>(fun q=>if q=(Int.toNat a_2.2.1)∧q<a_2.2.2.n then a_2.1 else a_2.2.2.at' q) ((Int.toNat (0:Int))+i)⟩:Sq BA) else none else none) (fun _=>none) (fun _=>none) else none else none else if 0≤(if (IntKind.wrap .i64 ((s.size:Int)+(1:Int)))<n0 then (IntKind.wrap .i64 ((s.size:Int)+(1:Int))) else n0)∧(if (IntKind.wrap .i64 ((s.size:Int)+(1:Int)))<n0 then (IntKind.wrap .i64 ((s.size:Int)+(1:Int))) else n0)≤(if (IntKind.wrap .i64 ((s.size:Int)+(1:Int)))<n0 then (IntKind.wrap .i64 ((s.size:Int)+(1:Int))) else n0) then if cd (Int.toNat (if (IntKind.wrap .i64 ((s.size:Int)+(1:Int)))<n0 then (IntKind.wrap .i64 ((s.size:Int)+(1:Int))) else n0)) 16=true then (Va n n s sep sepSave (IntKind.wrap .i64 ((if (IntKind.wrap .i64 ((s.size:Int)+(1:Int)))<n0 then (IntKind.wrap .i64 ((s.size:Int)+(1:Int))) else n0) - (1:Int))) (0:Int) (⟨(Int.toNat (if (IntKind.wrap .i64 ((s.size:Int)+(1:Int)))<n0 then (IntKind.wrap .i64 ((s.size:Int)+(1:Int))) else n0)),fun _=>(⟨#[]⟩:BA)⟩:Sq BA)).bind fun x_3=>zO x_3 (fun a_4=>if 0≤a_4.2.1∧a_4.2.1<(a_4.2.2.n:Int) then if 0≤(IntKind.wrap .i64 (a_4.2.1+(1:Int)))∧(IntKind.wrap .i64 (a_4.2.1+(1:Int)))≤(a_4.2.2.n:Int) then
 k (⟨((Int.toNat (IntKind.wrap .i64 (a_4.2.1+(1:Int)))) - (Int.toNat (0:Int))),fun i=>(fun q=>if q=(Int.toNat a_4.2.1)∧q<a_4.2.2.n then a_4.1 else a_4.2.2.at' q) ((Int.toNat (0:Int))+i)⟩:Sq BA) else none else none) (fun _=>none) (fun _=>none) else none else none
def Zi (n:Nat) (s sep:BA) (sepSave n0:Int):Option (Sq BA):=aj n s sep sepSave n0 some
theorem tA (n:Nat) {S:Type}:∀ s sep sepSave n0 (φ:_→Option S),(Zi n s sep sepSave n0).bind φ=aj n s sep sepSave n0 φ:=by
  intros;unfold Zi aj;first | (simp only [fa,ba,iB,bB,oL,oX,nB,Option.bind_some]) | rfl
def Xc (n:Nat):Hint Out:={ live:=fun c=>(cond (Nat.beq c 0) [(0,none),(1,none),(2,none),(3,none),(9,some (.sl .str)),(10,none)] []),run:=fun c=>(cond (Nat.beq c 0) (some (ou ie ge fun σ ρ K=>(Va n n σ.1 σ.2.1 σ.2.2.1 σ.2.2.2.1 σ.2.2.2.2.1 ρ.1).bind (ab K))) none),xm:=fun c q=>(cond (Nat.beq c 0&&Nat.beq (q.getD 1000000) 0&&q.isSome) (some [(0,none),(9,some (.sl .str)),(10,none)]) (cond (Nat.beq c 1&&Nat.beq (q.getD 1000000) 0&&q.isSome) (some [(0,none),(9,some (.sl .str)),(10,none)]) none)) }
def Wc (n:Nat) (K:XE→List AV→ia→Option Out) (m:Nat) (s1:BA) (sep1:BA) (sepSave1:Int) (n01:Int) (i:Int) (a:(Sq BA)):Option Out:=xh tys (ea Out (gg n)) (Xc n) n (za [1,1,1,1,1,1,1,1,0,0,0] (aa Tryz.f168)) 0 ie ge K m (s1,(sep1,(sepSave1,(n01,(i,()))))) (a,())
theorem Dj (n:Nat) (K:XE→List AV→ia→Option Out):∀ (m:Nat) s1 sep1 sepSave1 n01 i a,Wc n K m s1 sep1 sepSave1 n01 i a=(Va n m s1 sep1 sepSave1 n01 i a).bind (ab K)
  | 0,_,_,_,_,_,_=>by kernel_rfl
  | m+1,s1,sep1,sepSave1,n01,i,a=>by
    have h1:Wc n K (m+1) s1 sep1 sepSave1 n01 i a=ne n s1 sep1 sepSave1 n01 i a (Wc n K m) (fun a=>ab K (.out a)) (fun a=>ab K (.ret a)) (fun p=>ab K (.pan p)):=by kernel_rfl
    have h2:Wc n K m=fun s1 sep1 sepSave1 n01 i a=>(Va n m s1 sep1 sepSave1 n01 i a).bind (ab K):=by
      repeat (refine funext fun _=>?_)
      exact Dj n K m _ _ _ _ _ _
    rw [h1,h2];exact (Qt n m _ _ _ _ _ _ (ab K)).symm
theorem Ar (n:Nat):bf tys (ea Out (gg n)) (Xc n) n (za [1,1,1,1,1,1,1,1,0,0,0] (aa Tryz.f168)) 0:=Ua (sp:=ie) (rp:=ge) (by kernel_rfl) fun K σ ρ=>Dj n K n σ.1 σ.2.1 σ.2.2.1 σ.2.2.2.1 σ.2.2.2.2.1 ρ.1
theorem Rt (n:Nat):oa tys (ea Out (gg n)) (Xc n) n (aa Tryz.f168) 0:=⟨trivial,⟨⟨trivial,⟨⟨trivial,trivial⟩,trivial⟩⟩,⟨⟨trivial,⟨⟨trivial,trivial⟩,trivial⟩⟩,⟨⟨trivial,⟨trivial,trivial⟩⟩,⟨trivial,⟨trivial,⟨trivial,⟨trivial,⟨⟨Ar n,⟨⟨trivial,⟨trivial,trivial⟩⟩,⟨trivial,⟨⟨trivial,⟨trivial,trivial⟩⟩,⟨trivial,⟨trivial,trivial⟩⟩⟩⟩⟩⟩,⟨trivial,⟨trivial,trivial⟩⟩⟩⟩⟩⟩⟩⟩⟩⟩⟩
theorem qw (n:Nat):Enters Tryz.prog 168:=enters_of (c:=aa Tryz.f168) Tryz.func168 (by kernel_rfl) (by kernel_rfl)
def Gm (n:Nat):Entry:=⟨168,EO K6 (.one (.sl .str)) (fun xs=>Zi n xs.1 xs.2.1 xs.2.2.1 xs.2.2.2.1),none,none⟩
theorem ky (n:Nat):EntryOk Tryz.prog gl (Gm n):=ua (qw n) fun xs y h=>ma tys_ok (Em n) mixed (hint:=Xc n) (n:=n) Tryz.func168 (wa (Rt n)) (la (φ:=(fun y=>some (Out.ret (Ab (.one (.sl .str)) y)))) (by kernel_rfl) (tA n xs.1 xs.2.1 xs.2.2.1 xs.2.2.2.1 _) h)
def Jh (n:Nat):List Entry:=Gm n::gg n
theorem wi (n:Nat):AllOk Tryz.prog gl (Jh n):=.cons (ky n) (Em n)
def yr (n:Nat) {R:Type} (s sep:BA) (k:(Sq BA)→Option R):Option R:=(Zi n s sep (0:Int) (-1:Int)).bind fun v=>k v
def vu (n:Nat) (s sep:BA):Option (Sq BA):=yr n s sep some
theorem kH (n:Nat) {S:Type}:∀ s sep (φ:_→Option S),(vu n s sep).bind φ=yr n s sep φ:=by
  intros;unfold vu yr;first | (simp only [fa,ba,iB,bB,oL,oX,nB,Option.bind_some]) | rfl
def Np (n:Nat):Hint Out:={ live:=fun c=>[],run:=fun c=>none,xm:=fun c q=>none }
theorem sA (n:Nat):oa tys (ea Out (Jh n)) (Np n) n (aa Tryz.f151) 0:=ja (fun _=>rfl) _ _ (by kernel_rfl)
theorem LC (n:Nat):Enters Tryz.prog 151:=enters_of (c:=aa Tryz.f151) Tryz.func151 (by kernel_rfl) (by kernel_rfl)
def nw (n:Nat):Entry:=⟨151,EO (.pair .str (.pair .str .unit)) (.one (.sl .str)) (fun xs=>vu n xs.1 xs.2.1),none,none⟩
theorem LE (n:Nat):EntryOk Tryz.prog gl (nw n):=ua (LC n) fun xs y h=>ma tys_ok (wi n) mixed (hint:=Np n) (n:=n) Tryz.func151 (wa (sA n)) (la (φ:=(fun y=>some (Out.ret (Ab (.one (.sl .str)) y)))) (by kernel_rfl) (kH n xs.1 xs.2.1 _) h)
def ow (n:Nat):List Entry:=nw n::Jh n
theorem jy (n:Nat):AllOk Tryz.prog gl (ow n):=.cons (LE n) (wi n)
def fl (n:Nat):List Entry:=⟨152,fun {R}=>JI (R:=R) 208,none,none⟩::ow n
theorem Qp (n:Nat):AllOk Tryz.prog gl (fl n):=.cons JK (jy n)
def Cc (n:Nat):List Entry:=⟨87,EO (.pair (.int .i64) .unit) (.one .str) (fun xs=>GJ xs.1),none,none⟩::fl n
theorem Tg (n:Nat):AllOk Tryz.prog gl (Cc n):=.cons fL (Qp n)
def ff (n:Nat) {R:Type} (l t10:(Sq BA)) (t11 t12:Int) (kn:(Sq BA)→(Sq BA)→Int→Int→Option R) (ko:((Sq BA))→Option R) (kr:(Bool)→Option R) (kp:Int→Option R):Option R:=if (decide (t12<t11))=true then if 0≤t12∧t12<(t10.n:Int) then (GK (t10.at' (Int.toNat t12))).bind fun v1=>if v1.2=true then if (decide (v1.1<(0:Int)))=false then if (decide (v1.1>(255:Int)))=false then (GJ v1.1).bind fun v2=>if (!(v2.toList==(t10.at' (Int.toNat t12)).toList))=true then kr false else kn l t10 t11 (IntKind.wrap .i64 (t12+(1:Int))) else kr false else kr false else kr false else none else ko l
def ob (n:Nat):Nat→(Sq BA)→(Sq BA)→Int→Int→Option (Lx ((Sq BA)) (Bool))
 | 0,_,_,_,_=>none
 | m+1,l,t10,t11,t12=>ff n l t10 t11 t12 (ob n m) (fun a=>some (.out a)) (fun a=>some (.ret a)) (fun p=>some (.pan p))
theorem Iu (n m:Nat) {S:Type}:∀ l t10 t11 t12 (φ:_→Option S),(ob n (m+1) l t10 t11 t12).bind φ=ff n l t10 t11 t12 (fun l t10 t11 t12=>(ob n m l t10 t11 t12).bind φ) (fun a=>φ (.out a)) (fun a=>φ (.ret a)) (fun p=>φ (.pan p)):=by
  intros;first | (simp only [ob,ff,fa,ba,iB,bB,oL,oX,nB,Option.bind_some]) | rfl
def Ke:List Sl:=.top::.top::.top::.dat (.sl .str)::tp 6 (.dat (.sl .str)::.dat (.int .i64)::.dat (.int .i64)::tp 28 [])
def Je:List RS:=[]
def Tl:List Sl:=.top::.top::.top::.dat (.sl .str)::tp 37 []
def Rl:List RS:=[]
def Vl:List Sl:=.top::.top::.dat .bool::tp 38 []
def Ul:List RS:=[]
def ib (K:XE→List AV→ia→Option Out):Lx ((Sq BA)) (Bool)→Option Out:=fun x=>zO x (fun a=>Bm Tl Rl (a,()) () (K (.exit 0))) (fun a=>Bm Vl Ul (a,()) () (K .ret)) (fun _=>none)
def Mj (n:Nat) {R:Type} (s:BA) (k:Bool→Option R):Option R:=(vu n s (⟨#[46]⟩:BA)).bind fun v=>(ob n n v v (v.n:Int) (0:Int)).bind fun x_1=>zO x_1 (fun a_2=>k ((a_2.n:Int)==(4:Int))) (fun a_3=>k a_3) (fun _=>none)
def Uh (n:Nat) (s:BA):Option Bool:=Mj n s some
theorem cB (n:Nat) {S:Type}:∀ s (φ:_→Option S),(Uh n s).bind φ=Mj n s φ:=by
  intros;unfold Uh Mj;first | (simp only [fa,ba,iB,bB,oL,oX,nB,Option.bind_some]) | rfl
def Dd (n:Nat):Hint Out:={ live:=fun c=>(cond (Nat.beq c 0) [(3,some (.sl .str)),(10,some (.sl .str)),(11,none),(12,none)] []),run:=fun c=>(cond (Nat.beq c 0) (some (ou Ke Je fun σ ρ K=>(ob n n σ.1 σ.2.1 σ.2.2.1 σ.2.2.2.1).bind (ib K))) none),xm:=fun c q=>(cond (Nat.beq c 0&&Nat.beq (q.getD 1000000) 0&&q.isSome) (some [(3,some (.sl .str))]) (cond (Nat.beq c 1&&q.isNone) (some [(2,none)]) none)) }
def Cd (n:Nat) (K:XE→List AV→ia→Option Out) (m:Nat) (l:(Sq BA)) (t10:(Sq BA)) (t11:Int) (t12:Int):Option Out:=xh tys (ea Out (Cc n)) (Dd n) n (za [1,1,0,1,0,0] (aa Tryz.f129)) 0 Ke Je K m (l,(t10,(t11,(t12,())))) ()
theorem Nj (n:Nat) (K:XE→List AV→ia→Option Out):∀ (m:Nat) l t10 t11 t12,Cd n K m l t10 t11 t12=(ob n m l t10 t11 t12).bind (ib K)
  | 0,_,_,_,_=>by kernel_rfl
  | m+1,l,t10,t11,t12=>by
    have h1:Cd n K (m+1) l t10 t11 t12=ff n l t10 t11 t12 (Cd n K m) (fun a=>ib K (.out a)) (fun a=>ib K (.ret a)) (fun p=>ib K (.pan p)):=by kernel_rfl
    have h2:Cd n K m=fun l t10 t11 t12=>(ob n m l t10 t11 t12).bind (ib K):=by
      repeat (refine funext fun _=>?_)
      exact Nj n K m _ _ _ _
    rw [h1,h2];exact (Iu n m _ _ _ _ (ib K)).symm
theorem et (n:Nat):bf tys (ea Out (Cc n)) (Dd n) n (za [1,1,0,1,0,0] (aa Tryz.f129)) 0:=Ua (sp:=Ke) (rp:=Je) (by kernel_rfl) fun K σ ρ=>Nj n K n σ.1 σ.2.1 σ.2.2.1 σ.2.2.2.1
theorem Ju (n:Nat):oa tys (ea Out (Cc n)) (Dd n) n (aa Tryz.f129) 0:=⟨trivial,⟨trivial,⟨⟨trivial,⟨et n,⟨trivial,⟨⟨trivial,trivial⟩,⟨⟨trivial,⟨trivial,⟨trivial,⟨⟨trivial,trivial⟩,trivial⟩⟩⟩⟩,trivial⟩⟩⟩⟩⟩,⟨trivial,trivial⟩⟩⟩⟩
theorem nx (n:Nat):Enters Tryz.prog 129:=enters_of (c:=aa Tryz.f129) Tryz.func129 (by kernel_rfl) (by kernel_rfl)
def co (n:Nat):Entry:=⟨129,EO (.pair .str .unit) (.one .bool) (fun xs=>Uh n xs.1),none,none⟩
theorem eo (n:Nat):EntryOk Tryz.prog gl (co n):=ua (nx n) fun xs y h=>ma tys_ok (Tg n) mixed (hint:=Dd n) (n:=n) Tryz.func129 (wa (Ju n)) (la (φ:=(fun y=>some (Out.ret (Ab (.one .bool) y)))) (by kernel_rfl) (cB n xs.1 _) h)
def Hi (n:Nat):List Entry:=co n::Cc n
theorem tj (n:Nat):AllOk Tryz.prog gl (Hi n):=.cons (eo n) (Tg n)
def Su (n:Nat) {R:Type} (c:Int) (k:Bool→Option R):Option R:=if (decide (c≥(97:Int)))=true then if (decide (c≤(122:Int)))=false then if (decide (c≥(48:Int)))=true then k (decide (c≤(57:Int))) else k false else k true else if (decide (c≥(48:Int)))=true then k (decide (c≤(57:Int))) else k false
def Ru (n:Nat) (c:Int):Option Bool:=Su n c some
theorem PH (n:Nat) {S:Type}:∀ c (φ:_→Option S),(Ru n c).bind φ=Su n c φ:=by
  intros;unfold Ru Su;first | (simp only [fa,ba,iB,bB,oL,oX,nB,Option.bind_some]) | rfl
def js (n:Nat):Hint Out:={ live:=fun c=>[],run:=fun c=>none,xm:=fun c q=>none }
theorem lB (n:Nat):oa tys (ea Out (Hi n)) (js n) n (aa Tryz.f154) 0:=ja (fun _=>rfl) _ _ (by kernel_rfl)
theorem KD (n:Nat):Enters Tryz.prog 154:=enters_of (c:=aa Tryz.f154) Tryz.func154 (by kernel_rfl) (by kernel_rfl)
def xy (n:Nat):Entry:=⟨154,EO (.pair (.int .u8) .unit) (.one .bool) (fun xs=>Ru n xs.1),none,none⟩
theorem wG (n:Nat):EntryOk Tryz.prog gl (xy n):=ua (KD n) fun xs y h=>ma tys_ok (tj n) mixed (hint:=js n) (n:=n) Tryz.func154 (wa (lB n)) (la (φ:=(fun y=>some (Out.ret (Ab (.one .bool) y)))) (by kernel_rfl) (PH n xs.1 _) h)
def Vh (n:Nat):List Entry:=xy n::Hi n
theorem Ao (n:Nat):AllOk Tryz.prog gl (Vh n):=.cons (wG n) (tj n)
def Gi (n:Nat) {R:Type} (s1:BA) (t5 t6:Int) (kn:BA→Int→Int→Option R) (ko:(BA)→Option R) (kr:(Bool)→Option R) (kp:Int→Option R):Option R:=if (decide (t6<t5))=true then if 0≤t6∧t6<(s1.size:Int) then (Ru n (bt s1 t6)).bind fun v=>if (!v)=true then if 0≤t6∧t6<(s1.size:Int) then if ((bt s1 t6) !=(45:Int))=false then if (t6==(0:Int))=false then if (t6==(IntKind.wrap .i64 ((s1.size:Int) - (1:Int))))=true then kr false else kn s1 t5 (IntKind.wrap .i64 (t6+(1:Int))) else kr false else kr false else none else kn s1 t5 (IntKind.wrap .i64 (t6+(1:Int))) else none else ko s1
def jc (n:Nat):Nat→BA→Int→Int→Option (Lx (BA) (Bool))
 | 0,_,_,_=>none
 | m+1,s1,t5,t6=>Gi n s1 t5 t6 (jc n m) (fun a=>some (.out a)) (fun a=>some (.ret a)) (fun p=>some (.pan p))
theorem nz (n m:Nat) {S:Type}:∀ s1 t5 t6 (φ:_→Option S),(jc n (m+1) s1 t5 t6).bind φ=Gi n s1 t5 t6 (fun s1 t5 t6=>(jc n m s1 t5 t6).bind φ) (fun a=>φ (.out a)) (fun a=>φ (.ret a)) (fun p=>φ (.pan p)):=by
  intros;first | (simp only [jc,Gi,fa,ba,iB,bB,oL,oX,nB,Option.bind_some]) | rfl
def fh:List Sl:=.dat .str::tp 4 (.dat (.int .i64)::.dat (.int .i64)::tp 33 [])
def eh:List RS:=[]
def Zn:List Sl:=.dat .str::tp 39 []
def Yn:List RS:=[]
def bo:List Sl:=.top::.top::.dat .bool::tp 37 []
def ao:List RS:=[]
def Kb (K:XE→List AV→ia→Option Out):Lx (BA) (Bool)→Option Out:=fun x=>zO x (fun a=>Bm Zn Yn (a,()) () (K (.exit 0))) (fun a=>Bm bo ao (a,()) () (K .ret)) (fun _=>none)
def rq (n:Nat) {R:Type} (s:BA) (k:Bool→Option R):Option R:=(jc n n s (s.size:Int) (0:Int)).bind fun x_1=>zO x_1 (fun a_2=>if (decide ((a_2.size:Int)≥(1:Int)))=true then k (decide ((a_2.size:Int)≤(63:Int))) else k false) (fun a_3=>k a_3) (fun _=>none)
def Wn (n:Nat) (s:BA):Option Bool:=rq n s some
theorem rG (n:Nat) {S:Type}:∀ s (φ:_→Option S),(Wn n s).bind φ=rq n s φ:=by
  intros;unfold Wn rq;first | (simp only [fa,ba,iB,bB,oL,oX,nB,Option.bind_some]) | rfl
def ef (n:Nat):Hint Out:={ live:=fun c=>(cond (Nat.beq c 0) (lv [0,5,6]) []),run:=fun c=>(cond (Nat.beq c 0) (some (ou fh eh fun σ ρ K=>(jc n n σ.1 σ.2.1 σ.2.2.1).bind (Kb K))) none),xm:=fun c q=>(cond (Nat.beq c 0&&Nat.beq (q.getD 1000000) 0&&q.isSome) (some [(0,none)]) (cond (Nat.beq c 1&&q.isNone) (some [(2,none)]) none)) }
def df (n:Nat) (K:XE→List AV→ia→Option Out) (m:Nat) (s1:BA) (t5:Int) (t6:Int):Option Out:=xh tys (ea Out (Vh n)) (ef n) n (za [1,0,1,0,0] (aa Tryz.f131)) 0 fh eh K m (s1,(t5,(t6,()))) ()
theorem Xn (n:Nat) (K:XE→List AV→ia→Option Out):∀ (m:Nat) s1 t5 t6,df n K m s1 t5 t6=(jc n m s1 t5 t6).bind (Kb K)
  | 0,_,_,_=>by kernel_rfl
  | m+1,s1,t5,t6=>by
    have h1:df n K (m+1) s1 t5 t6=Gi n s1 t5 t6 (df n K m) (fun a=>Kb K (.out a)) (fun a=>Kb K (.ret a)) (fun p=>Kb K (.pan p)):=by kernel_rfl
    have h2:df n K m=fun s1 t5 t6=>(jc n m s1 t5 t6).bind (Kb K):=by
      repeat (refine funext fun _=>?_)
      exact Xn n K m _ _ _
    rw [h1,h2];exact (nz n m _ _ _ (Kb K)).symm
theorem kx (n:Nat):bf tys (ea Out (Vh n)) (ef n) n (za [1,0,1,0,0] (aa Tryz.f131)) 0:=Ua (sp:=fh) (rp:=eh) (by kernel_rfl) fun K σ ρ=>Xn n K n σ.1 σ.2.1 σ.2.2.1
theorem oz (n:Nat):oa tys (ea Out (Vh n)) (ef n) n (aa Tryz.f131) 0:=⟨trivial,⟨⟨trivial,⟨kx n,⟨trivial,⟨⟨trivial,trivial⟩,⟨⟨trivial,⟨trivial,⟨⟨trivial,trivial⟩,trivial⟩⟩⟩,trivial⟩⟩⟩⟩⟩,⟨trivial,trivial⟩⟩⟩
theorem aB (n:Nat):Enters Tryz.prog 131:=enters_of (c:=aa Tryz.f131) Tryz.func131 (by kernel_rfl) (by kernel_rfl)
def Fu (n:Nat):Entry:=⟨131,EO (.pair .str .unit) (.one .bool) (fun xs=>Wn n xs.1),none,none⟩
theorem Hu (n:Nat):EntryOk Tryz.prog gl (Fu n):=ua (aB n) fun xs y h=>ma tys_ok (Ao n) mixed (hint:=ef n) (n:=n) Tryz.func131 (wa (oz n)) (la (φ:=(fun y=>some (Out.ret (Ab (.one .bool) y)))) (by kernel_rfl) (rG n xs.1 _) h)
def Gu (n:Nat):List Entry:=Fu n::Vh n
theorem lx (n:Nat):AllOk Tryz.prog gl (Gu n):=.cons (Hu n) (Ao n)
def fb (n:Nat) (s:BA):Option Bool:=(sd n s).bind fun b=>if b=true then (xd n s ⟨#[93]⟩).bind fun c=>if c=true then (if 2≤(s.size:Int)∧(s.size:Int)≤9223372036854775807 then Uh n (s.extract 1 (s.size - 1)) else none) else some false else Dom.domT (fun x=>Yi n x Dom.dot) (Wn n) n s
theorem dx:Tryz.prog.funcs[103]?=some Tryz.f103:=by kernel_rfl
theorem fx (n:Nat):EntryOk Tryz.prog gl ⟨103,EO (.pair .str .unit) (.one .bool) (fun xs=>fb n xs.1),none,none⟩:=ua (enters_of (c:=aa Tryz.f103) dx (by kernel_rfl) (by kernel_rfl)) fun xs y h=>by
  refine iu (args:=[.string xs.1]) (v:=.bool y) (fun w0 hg hn=>?_)
  have hlit:∀ b,sd n xs.1=some b→∀ (w:World),Below w0.heap.size w0 w→Calls Tryz.prog 128 #[.string xs.1] w fun e w'=>e=.returned (.bool b)∧Below w.heap.size w w':=fun b hb' w hb=>
    fp (Jj n) (args:=[.string xs.1]) (v:=.bool b) (by show (sd n xs.1).bind _=_;rw [hb'];rfl) hg hn hb
  have hsuf:∀ b,xd n xs.1 ⟨#[93]⟩=some b→∀ (w:World),Below w0.heap.size w0 w→Calls Tryz.prog 59 #[.string xs.1,.string ⟨#[93]⟩] w fun e w'=>e=.returned (.bool b)∧Below w.heap.size w w':=fun b hb' w hb=>
    fp (Zk n) (args:=[.string xs.1,.string ⟨#[93]⟩]) (v:=.bool b) (by show (xd n xs.1 ⟨#[93]⟩).bind _=_;rw [hb'];rfl) hg hn hb
  unfold fb at h
  obtain ⟨b,hb,h⟩:=Option.bind_eq_some_iff.1 h
  cases b with
  | true=>
    rw [if_pos rfl] at h
    obtain ⟨c,hc,h⟩:=Option.bind_eq_some_iff.1 h
    refine Dom.dom2 xs.1 c y w0 (hlit true hb) (hsuf c hc) (fun hc'=>?_) (fun hc'=>?_)
    · rw [if_pos hc'] at h
      split at h
      · rename_i hsz
        exact ⟨hsz,fun w hbw=>fp (eo n) (args:=[.string (xs.1.extract 1 (xs.1.size - 1))]) (v:=.bool y) (by show (Uh n (xs.1.extract 1 (xs.1.size - 1))).bind _=_;rw [h];rfl) hg hn hbw⟩
      · cases h
    · rw [if_neg (by rw [hc'];simp)] at h
      exact (Option.some.inj h).symm
  | false=>
    rw [if_neg (by simp)] at h
    exact Dom.dom1 _ _ n xs.1 y w0 (fun x i w hbw hx=>fp (mw n) (args:=[.string x,.string Dom.dot]) (v:=.int .i64 i) (by show (Yi n x Dom.dot).bind _=_;rw [hx];rfl) hg hn hbw)
      (fun x i w hbw hx=>fp (Hu n) (args:=[.string x]) (v:=.bool i) (by show (Wn n x).bind _=_;rw [hx];rfl) hg hn hbw) (hlit false hb) h
def ch (n:Nat):List Entry:=⟨103,EO (.pair .str .unit) (.one .bool) (fun xs=>fb n xs.1),none,none⟩::Gu n
theorem Rh (n:Nat):AllOk Tryz.prog gl (ch n):=.cons (fx n) (lx n)
def xv (n:Nat) {R:Type} (s:BA) (k:Bool→Option R):Option R:=if (decide ((s.size:Int)≤(200:Int)))=true then (fb n s).bind fun v=>k v else k false
def Ud (n:Nat) (s:BA):Option Bool:=xv n s some
theorem WH (n:Nat) {S:Type}:∀ s (φ:_→Option S),(Ud n s).bind φ=xv n s φ:=by
  intros;unfold Ud xv;first | (simp only [fa,ba,iB,bB,oL,oX,nB,Option.bind_some]) | rfl
def Ds (n:Nat):Hint Out:={ live:=fun c=>[],run:=fun c=>none,xm:=fun c q=>none }
theorem KB (n:Nat):oa tys (ea Out (ch n)) (Ds n) n (aa Tryz.f74) 0:=ja (fun _=>rfl) _ _ (by kernel_rfl)
theorem XD (n:Nat):Enters Tryz.prog 74:=enters_of (c:=aa Tryz.f74) Tryz.func74 (by kernel_rfl) (by kernel_rfl)
def Dy (n:Nat):Entry:=⟨74,EO (.pair .str .unit) (.one .bool) (fun xs=>Ud n xs.1),none,none⟩
theorem GG (n:Nat):EntryOk Tryz.prog gl (Dy n):=ua (XD n) fun xs y h=>ma tys_ok (Rh n) mixed (hint:=Ds n) (n:=n) Tryz.func74 (wa (KB n)) (la (φ:=(fun y=>some (Out.ret (Ab (.one .bool) y)))) (by kernel_rfl) (WH n xs.1 _) h)
def Gq (n:Nat):List Entry:=Dy n::ch n
theorem Qo (n:Nat):AllOk Tryz.prog gl (Gq n):=.cons (GG n) (Rh n)
def iz (n:Nat) {R:Type} (m0:U0) (k:BA→Option R):Option R:=if Re m0.1 (⟨#[64]⟩:BA)=true then if Re (m0.1++(⟨#[64]⟩:BA)) m0.2.1=true then k ((m0.1++(⟨#[64]⟩:BA))++m0.2.1) else none else none
def qF (n:Nat) (m0:U0):Option BA:=iz n m0 some
theorem rJ (n:Nat) {S:Type}:∀ m0 (φ:_→Option S),(qF n m0).bind φ=iz n m0 φ:=by
  intros;unfold qF iz;first | (simp only [fa,ba,iB,bB,oL,oX,nB,Option.bind_some]) | rfl
def zu (n:Nat):Hint Out:={ live:=fun c=>[],run:=fun c=>none,xm:=fun c q=>none }
theorem yD (n:Nat):oa tys (ea Out (Gq n)) (zu n) n (aa Tryz.f97) 0:=ja (fun _=>rfl) _ _ (by kernel_rfl)
theorem lG (n:Nat):Enters Tryz.prog 97:=enters_of (c:=aa Tryz.f97) Tryz.func97 (by kernel_rfl) (by kernel_rfl)
def VA (n:Nat):Entry:=⟨97,EO (.pair (.pair .str (.pair .str .unit)) .unit) (.one .str) (fun xs=>qF n xs.1),none,none⟩
theorem LH (n:Nat):EntryOk Tryz.prog gl (VA n):=ua (lG n) fun xs y h=>ma tys_ok (Qo n) mixed (hint:=zu n) (n:=n) Tryz.func97 (wa (yD n)) (la (φ:=(fun y=>some (Out.ret (Ab (.one .str) y)))) (by kernel_rfl) (rJ n xs.1 _) h)
def xu (n:Nat):List Entry:=VA n::Gq n
theorem Kj (n:Nat):AllOk Tryz.prog gl (xu n):=.cons (LH n) (Qo n)
def Lu (n:Nat) {R:Type} (ok:Bool) (k:(Unit)→Option R) (kp:Int→Option R):Option R:=if (!ok)=true then kp (8:Int) else k ()
def tb (n:Nat) (ok:Bool):Option (Except Int (Unit)):=Lu n ok (fun y=>some (.ok y)) (fun p=>some (.error p))
theorem eB (n:Nat) {S:Type}:∀ ok (φ:_→Option S),(tb n ok).bind φ=Lu n ok (fun y=>φ (.ok y)) (fun p=>φ (.error p)):=by
  intros;unfold tb Lu;first | (simp only [fa,ba,iB,bB,oL,oX,nB,Option.bind_some]) | rfl
def Oj (n:Nat):Hint Out:={ live:=fun c=>[],run:=fun c=>none,xm:=fun c q=>none }
theorem Xr (n:Nat):oa tys (ea Out (xu n)) (Oj n) n (aa Tryz.f167) 0:=ja (fun _=>rfl) _ _ (by kernel_rfl)
theorem ED (n:Nat):Enters Tryz.prog 167:=enters_of (c:=aa Tryz.f167) Tryz.func167 (by kernel_rfl) (by kernel_rfl)
def uy (n:Nat):Entry:=⟨167,FO 184 (.pair .bool .unit) (.many .unit) (fun xs=>tb n xs.1),none,none⟩
theorem sG (n:Nat):EntryOk Tryz.prog gl (uy n):=yp (ED n) (fun xs y h=>ma tys_ok (Kj n) mixed (hint:=Oj n) (n:=n) Tryz.func167 (wa (Xr n)) (la (φ:=(fun r=>AO r (fun p=>some (Out.pan (Oc 184 p))) fun y=>some (Out.ret (Ab (.many .unit) y)))) (by kernel_rfl) (eB n xs.1 _) h)) (fun xs p h=>ma tys_ok (Kj n) mixed (hint:=Oj n) (n:=n) Tryz.func167 (wa (Xr n)) (la (φ:=(fun r=>AO r (fun p=>some (Out.pan (Oc 184 p))) fun y=>some (Out.ret (Ab (.many .unit) y)))) (by kernel_rfl) (eB n xs.1 _) h))
def tq (n:Nat):List Entry:=uy n::xu n
theorem io (n:Nat):AllOk Tryz.prog gl (tq n):=.cons (sG n) (Kj n)
def zh (n:Nat) {R:Type} (k:(BA×Unit)→Option R):Option R:=if ((0:Nat):Int)=0 then k ((⟨#[]⟩:BA),()) else none
def ze (n:Nat):Option (BA×Unit):=zh n some
theorem cy (n:Nat) {S:Type}:∀ (φ:_→Option S),(ze n).bind φ=zh n φ:=by
  intros;unfold ze zh;first | (simp only [fa,ba,iB,bB,oL,oX,nB,Option.bind_some]) | rfl
def pi (n:Nat):Hint OutS:={ live:=fun c=>[],run:=fun c=>none,xm:=fun c q=>none,sch:=fun c=>(cond (Nat.beq c 1) (some [(0,0),(1,0),(2,0),(5,0),(6,0),(7,0),(3,1),(8,1),(9,0),(4,3),(10,2),(11,0)]) none) }
theorem jr (n:Nat):oa tys (ea OutS (tq n)) (pi n) n (aa Tryz.f88) 0:=ja (fun _=>rfl) _ _ (by kernel_rfl)
theorem Ct (n:Nat):Enters Tryz.prog 88:=enters_of (c:=aa Tryz.f88) Tryz.func88 (by kernel_rfl) (by kernel_rfl)
def Pk:List RSp:=[.one (.ptr 0 0 0)]
def Ok:List RS:=[.box 126 2 true [.cn .nilp,.cn .nils]]
def Dt:List Sl:=[.ptr 0 0 0]
def Et:List RSp:=[.one (.dat .str)]
def Tc:List RS:=[.box 126 2 true [.cn .nilp,.cn .nils]]
def Ah (y:(BA×Unit)):OutS:=⟨false,yk (Bd Tc ((),())) Dt (),Sy (Rx (Bd Tc ((),())) Et ((y.1,()),())),nq (Bd Tc ((),())) Tc ((),())⟩
theorem aw (n:Nat):EntryOk Tryz.prog gl ⟨88,yh,none,some (fO Pk Ok (fun σ ρ=>ze n) Ah)⟩:=Tf (Ct n) fun σ ρ y h=>Db tys_ok (io n) mixed (hint:=pi n) (n:=n) Tryz.func88 (wa (jr n)) (la (φ:=fun y=>some (Ah y)) (by kernel_rfl) (cy n _) h)
def Nk (n:Nat):List Entry:=⟨88,yh,none,some (fO Pk Ok (fun σ ρ=>ze n) Ah)⟩::tq n
theorem Ap (n:Nat):AllOk Tryz.prog gl (Nk n):=.cons (aw n) (io n)
theorem ei:Tryz.prog.funcs[140]?=some Tryz.f140:=by kernel_rfl
theorem fi:EntryOk Tryz.prog gl ⟨140,yh,some .ident,none⟩:=Xx ei (by kernel_rfl) (by kernel_rfl) (by kernel_rfl) (by kernel_rfl)
def Fb (n:Nat):List Entry:=⟨140,yh,some .ident,none⟩::Nk n
theorem uc (n:Nat):AllOk Tryz.prog gl (Fb n):=.cons fi (Ap n)
def be (n:Nat) {R:Type} (k:Unit→Option R):Option R:=k ()
def wc (n:Nat):Option Unit:=be n some
theorem qr (n:Nat) {S:Type}:∀ (φ:_→Option S),(wc n).bind φ=be n φ:=by
  intros;unfold wc be;first | (simp only [fa,ba,iB,bB,oL,oX,nB,Option.bind_some]) | rfl
def We (n:Nat):Hint OutS:={ live:=fun c=>[],run:=fun c=>none,xm:=fun c q=>none }
theorem Zl (n:Nat):oa tys (ea OutS (Fb n)) (We n) n (aa Tryz.f116) 0:=ja (fun _=>rfl) _ _ (by kernel_rfl)
theorem Bn (n:Nat):Enters Tryz.prog 116:=enters_of (c:=aa Tryz.f116) Tryz.func116 (by kernel_rfl) (by kernel_rfl)
def Ng:List RSp:=[.one (.ptr 0 0 0)]
def Mg:List RS:=[.box 126 2 true [.cn .nilp,.cn .nils]]
def Dn:List Sl:=[.ptr 0 0 0]
def En:List RSp:=[]
def Sb:List RS:=[.box 126 2 false [.ptr 0 0 0,.cn .nils]]
def ce (y:Unit):OutS:=⟨false,yk (Bd Sb ((),())) Dn (),Sy (Rx (Bd Sb ((),())) En ()),nq (Bd Sb ((),())) Sb ((),())⟩
theorem Dp (n:Nat):EntryOk Tryz.prog gl ⟨116,yh,none,some (fO Ng Mg (fun σ ρ=>wc n) ce)⟩:=Tf (Bn n) fun σ ρ y h=>Db tys_ok (uc n) mixed (hint:=We n) (n:=n) Tryz.func116 (wa (Zl n)) (la (φ:=fun y=>some (ce y)) (by kernel_rfl) (qr n _) h)
def Gd (n:Nat):List Entry:=⟨116,yh,none,some (fO Ng Mg (fun σ ρ=>wc n) ce)⟩::Fb n
theorem Be (n:Nat):AllOk Tryz.prog gl (Gd n):=.cons (Dp n) (uc n)
def Xd (n:Nat) {R:Type} (c:Int) (k:U5→Option R):Option R:=(wc n).bind fun v=>if cd (0+1) 1=true then k ((⟨(0+1),fun q=>if q<0 then (fun _=>pa (.int .u8)) q else (fun q=>List.getD (α:=Int) [c] q (pa (.int .u8))) (q - 0)⟩:Sq Int),()) else none
def Ma (n:Nat) (c:Int):Option U5:=Xd n c some
theorem mr (n:Nat) {S:Type}:∀ c (φ:_→Option S),(Ma n c).bind φ=Xd n c φ:=by
  intros;unfold Ma Xd;first | (simp only [fa,ba,iB,bB,oL,oX,nB,Option.bind_some]) | rfl
def Ue (n:Nat):Hint OutS:={ live:=fun c=>[],run:=fun c=>none,xm:=fun c q=>none }
theorem Xl (n:Nat):oa tys (ea OutS (Gd n)) (Ue n) n (aa Tryz.f198) 0:=ja (fun _=>rfl) _ _ (by kernel_rfl)
theorem vn (n:Nat):Enters Tryz.prog 198:=enters_of (c:=aa Tryz.f198) Tryz.func198 (by kernel_rfl) (by kernel_rfl)
def Jg:List RSp:=[.one (.ptr 0 0 0),.one (.dat (.int .u8))]
def Ig:List RS:=[.box 126 2 true [.cn .nilp,.cn .nils]]
def wn:List Sl:=[.ptr 0 0 0,.top]
def xn:List RSp:=[.one (.cn .nili)]
def Qb:List RS:=[.box 126 2 false [.ptr 0 0 0,.row 1],.row 5 1 (.int .u8) true false]
def Yd (y:U5):OutS:=⟨false,yk (Bd Qb ((),(y.1,()))) wn (),Sy (Rx (Bd Qb ((),(y.1,()))) xn ((),())),nq (Bd Qb ((),(y.1,()))) Qb ((),(y.1,()))⟩
theorem Bp (n:Nat):EntryOk Tryz.prog gl ⟨198,yh,none,some (fO Jg Ig (fun σ ρ=>Ma n σ.2.1.1) Yd)⟩:=Tf (vn n) fun σ ρ y h=>Db tys_ok (Be n) mixed (hint:=Ue n) (n:=n) Tryz.func198 (wa (Xl n)) (la (φ:=fun y=>some (Yd y)) (by kernel_rfl) (mr n σ.2.1.1 _) h)
def Fd (n:Nat):List Entry:=⟨198,yh,none,some (fO Jg Ig (fun σ ρ=>Ma n σ.2.1.1) Yd)⟩::Gd n
theorem Ae (n:Nat):AllOk Tryz.prog gl (Fd n):=.cons (Bp n) (Be n)
def Bh (n:Nat) {R:Type} (r1:(Sq Int)) (k:(BA×Unit)→Option R):Option R:=if (r1.n:Int)=(r1.n:Int)∧(r1.n:Int)≤9223372036854775807 then k ((Bf r1.n r1.at'),()) else none
def vd (n:Nat) (r1:(Sq Int)):Option (BA×Unit):=Bh n r1 some
theorem dy (n:Nat) {S:Type}:∀ r1 (φ:_→Option S),(vd n r1).bind φ=Bh n r1 φ:=by
  intros;unfold vd Bh;first | (simp only [fa,ba,iB,bB,oL,oX,nB,Option.bind_some]) | rfl
def qi (n:Nat):Hint OutS:={ live:=fun c=>[],run:=fun c=>none,xm:=fun c q=>none,sch:=fun c=>(cond (Nat.beq c 1) (some [(0,0),(1,0),(2,0),(5,0),(6,0),(7,0),(3,1),(8,1),(9,0),(4,3),(10,2),(11,0)]) none) }
theorem lr (n:Nat):oa tys (ea OutS (Fd n)) (qi n) n (aa Tryz.f88) 0:=ja (fun _=>rfl) _ _ (by kernel_rfl)
theorem Ft (n:Nat):Enters Tryz.prog 88:=enters_of (c:=aa Tryz.f88) Tryz.func88 (by kernel_rfl) (by kernel_rfl)
def Rk:List RSp:=[.one (.ptr 0 0 0)]
def Qk:List RS:=[.box 126 2 false [.ptr 0 0 0,.row 1],.row 5 1 (.int .u8) true false]
def Gt:List Sl:=[.ptr 0 0 0]
def Ht:List RSp:=[.one (.dat .str)]
def Uc:List RS:=[.box 126 2 false [.ptr 0 0 0,.top]]
def Ch (y:(BA×Unit)):OutS:=⟨false,yk (Bd Uc ((),())) Gt (),Sy (Rx (Bd Uc ((),())) Ht ((y.1,()),())),nq (Bd Uc ((),())) Uc ((),())⟩
theorem bw (n:Nat):EntryOk Tryz.prog gl ⟨88,yh,none,some (fO Rk Qk (fun σ ρ=>vd n ρ.2.1) Ch)⟩:=Tf (Ft n) fun σ ρ y h=>Db tys_ok (Ae n) mixed (hint:=qi n) (n:=n) Tryz.func88 (wa (lr n)) (la (φ:=fun y=>some (Ch y)) (by kernel_rfl) (dy n ρ.2.1 _) h)
def fg (n:Nat):List Entry:=⟨88,yh,none,some (fO Rk Qk (fun σ ρ=>vd n ρ.2.1) Ch)⟩::Fd n
theorem Hg (n:Nat):AllOk Tryz.prog gl (fg n):=.cons (bw n) (Ae n)
def de (n:Nat) {R:Type} (r1:(Sq Int)) (k:U5→Option R):Option R:=k (r1,())
def yc (n:Nat) (r1:(Sq Int)):Option U5:=de n r1 some
theorem rr (n:Nat) {S:Type}:∀ r1 (φ:_→Option S),(yc n r1).bind φ=de n r1 φ:=by
  intros;unfold yc de;first | (simp only [fa,ba,iB,bB,oL,oX,nB,Option.bind_some]) | rfl
def Xe (n:Nat):Hint OutS:={ live:=fun c=>[],run:=fun c=>none,xm:=fun c q=>none }
theorem am (n:Nat):oa tys (ea OutS (fg n)) (Xe n) n (aa Tryz.f116) 0:=ja (fun _=>rfl) _ _ (by kernel_rfl)
theorem Fn (n:Nat):Enters Tryz.prog 116:=enters_of (c:=aa Tryz.f116) Tryz.func116 (by kernel_rfl) (by kernel_rfl)
def Pg:List RSp:=[.one (.ptr 0 0 0)]
def Og:List RS:=[.box 126 2 false [.ptr 0 0 0,.row 1],.row 5 1 (.int .u8) true false]
def Gn:List Sl:=[.ptr 0 0 0]
def Hn:List RSp:=[]
def Tb:List RS:=[.box 126 2 false [.ptr 0 0 0,.row 1],.row 5 1 (.int .u8) true false]
def ee (y:U5):OutS:=⟨false,yk (Bd Tb ((),(y.1,()))) Gn (),Sy (Rx (Bd Tb ((),(y.1,()))) Hn ()),nq (Bd Tb ((),(y.1,()))) Tb ((),(y.1,()))⟩
theorem Ep (n:Nat):EntryOk Tryz.prog gl ⟨116,yh,none,some (fO Pg Og (fun σ ρ=>yc n ρ.2.1) ee)⟩:=Tf (Fn n) fun σ ρ y h=>Db tys_ok (Hg n) mixed (hint:=Xe n) (n:=n) Tryz.func116 (wa (am n)) (la (φ:=fun y=>some (ee y)) (by kernel_rfl) (rr n ρ.2.1 _) h)
def Hd (n:Nat):List Entry:=⟨116,yh,none,some (fO Pg Og (fun σ ρ=>yc n ρ.2.1) ee)⟩::fg n
theorem Ce (n:Nat):AllOk Tryz.prog gl (Hd n):=.cons (Ep n) (Hg n)
def Zd (n:Nat) {R:Type} (c:Int) (r1:(Sq Int)) (k:U5→Option R):Option R:=(yc n r1).bind fun v=>if cd (v.1.n+1) 1=true then k ((⟨(v.1.n+1),fun q=>if q<v.1.n then v.1.at' q else (fun q=>List.getD (α:=Int) [c] q (pa (.int .u8))) (q - v.1.n)⟩:Sq Int),()) else none
def Aa (n:Nat) (c:Int) (r1:(Sq Int)):Option U5:=Zd n c r1 some
theorem nr (n:Nat) {S:Type}:∀ c r1 (φ:_→Option S),(Aa n c r1).bind φ=Zd n c r1 φ:=by
  intros;unfold Aa Zd;first | (simp only [fa,ba,iB,bB,oL,oX,nB,Option.bind_some]) | rfl
def Ve (n:Nat):Hint OutS:={ live:=fun c=>[],run:=fun c=>none,xm:=fun c q=>none }
theorem Yl (n:Nat):oa tys (ea OutS (Hd n)) (Ve n) n (aa Tryz.f198) 0:=ja (fun _=>rfl) _ _ (by kernel_rfl)
theorem yn (n:Nat):Enters Tryz.prog 198:=enters_of (c:=aa Tryz.f198) Tryz.func198 (by kernel_rfl) (by kernel_rfl)
def Lg:List RSp:=[.one (.ptr 0 0 0),.one (.dat (.int .u8))]
def Kg:List RS:=[.box 126 2 false [.ptr 0 0 0,.row 1],.row 5 1 (.int .u8) true false]
def zn:List Sl:=[.ptr 0 0 0,.top]
def An:List RSp:=[.one (.cn .nili)]
def Rb:List RS:=[.box 126 2 false [.ptr 0 0 0,.row 1],.row 5 1 (.int .u8) true false]
def ae (y:U5):OutS:=⟨false,yk (Bd Rb ((),(y.1,()))) zn (),Sy (Rx (Bd Rb ((),(y.1,()))) An ((),())),nq (Bd Rb ((),(y.1,()))) Rb ((),(y.1,()))⟩
theorem Cp (n:Nat):EntryOk Tryz.prog gl ⟨198,yh,none,some (fO Lg Kg (fun σ ρ=>Aa n σ.2.1.1 ρ.2.1) ae)⟩:=Tf (yn n) fun σ ρ y h=>Db tys_ok (Ce n) mixed (hint:=Ve n) (n:=n) Tryz.func198 (wa (Yl n)) (la (φ:=fun y=>some (ae y)) (by kernel_rfl) (nr n σ.2.1.1 ρ.2.1 _) h)
def pb (n:Nat):List Entry:=⟨198,yh,none,some (fO Lg Kg (fun σ ρ=>Aa n σ.2.1.1 ρ.2.1) ae)⟩::Hd n
theorem vc (n:Nat):AllOk Tryz.prog gl (pb n):=.cons (Cp n) (Ce n)
def tg (n:Nat) {R:Type} (s1:BA) (i:Int) (r1:(Sq Int)) (kn:BA→Int→(Sq Int)→Option R) (ko:Unit→Option R) (kr:(BA×BA)→Option R) (kp:Int→Option R):Option R:=(tb n (decide (i<(s1.size:Int)))).bind fun x_1=>AO x_1 (fun p3=>kp p3) (fun v5=>if 0≤i∧i<(s1.size:Int) then if ((bt s1 i)==(34:Int))=true then if 0≤(IntKind.wrap .i64 (i+(1:Int)))∧(IntKind.wrap .i64 (i+(1:Int)))≤(s1.size:Int) then (vd n r1).bind fun v6=>kr (v6.1,(s1.extract (Int.toNat (IntKind.wrap .i64 (i+(1:Int)))) (Int.toNat (s1.size:Int)))) else none else if 0≤i∧i<(s1.size:Int) then if ((bt s1 i)==(92:Int))=true then (tb n (decide ((IntKind.wrap .i64 (i+(1:Int)))<(s1.size:Int)))).bind fun x_2=>AO x_2 (fun p4=>kp p4) (fun v7=>if 0≤(IntKind.wrap .i64 (i+(1:Int)))∧(IntKind.wrap .i64 (i+(1:Int)))<(s1.size:Int) then if (decide ((bt s1 (IntKind.wrap .i64 (i+(1:Int))))≥(32:Int)))=true then if 0≤(IntKind.wrap .i64 (i+(1:Int)))∧(IntKind.wrap .i64 (i+(1:Int)))<(s1.size:Int) then (tb n (decide ((bt s1 (IntKind.wrap .i64 (i+(1:Int))))≤(126:Int)))).bind fun x_3=>AO x_3 (fun p5=>kp p5) (fun v8=>if 0≤(IntKind.wrap .i64 (i+(1:Int)))∧(IntKind.wrap .i64 (i+(1:Int)))<(s1.size:Int) then (Aa n (bt s1 (IntKind.wrap .i64 (i+(1:Int)))) r1).bind fun v9=>
 kn s1 (IntKind.wrap .i64 ((IntKind.wrap .i64 (i+(1:Int)))+(1:Int))) v9.1 else none) else none else (tb n false).bind fun x_4=>AO x_4 (fun p6=>kp p6) (fun v10=>if 0≤(IntKind.wrap .i64 (i+(1:Int)))∧(IntKind.wrap .i64 (i+(1:Int)))<(s1.size:Int) then (Aa n (bt s1 (IntKind.wrap .i64 (i+(1:Int)))) r1).bind fun v11=>kn s1 (IntKind.wrap .i64 ((IntKind.wrap .i64 (i+(1:Int)))+(1:Int))) v11.1 else none) else none) else if 0≤i∧i<(s1.size:Int) then if (decide ((bt s1 i)≥(32:Int)))=true then if 0≤i∧i<(s1.size:Int) then (tb n (decide ((bt s1 i)≤(126:Int)))).bind fun x_5=>AO x_5 (fun p7=>kp p7) (fun v12=>if 0≤i∧i<(s1.size:Int) then (Aa n (bt s1 i) r1).bind fun v13=>kn s1 (IntKind.wrap .i64 (i+(1:Int))) v13.1 else none) else none else (tb n false).bind fun x_6=>AO x_6 (fun p8=>kp p8) (fun v14=>if 0≤i∧i<(s1.size:Int) then (Aa n (bt s1 i) r1).bind fun v15=>kn s1 (IntKind.wrap .i64 (i+(1:Int))) v15.1 else none) else none else none else none)
def Wa (n:Nat):Nat→BA→Int→(Sq Int)→Option (Lx Unit (BA×BA))
 | 0,_,_,_=>none
 | m+1,s1,i,r1=>tg n s1 i r1 (Wa n m) (fun a=>some (.out a)) (fun a=>some (.ret a)) (fun p=>some (.pan p))
theorem qx (n m:Nat) {S:Type}:∀ s1 i r1 (φ:_→Option S),(Wa n (m+1) s1 i r1).bind φ=tg n s1 i r1 (fun s1 i r1=>(Wa n m s1 i r1).bind φ) (fun a=>φ (.out a)) (fun a=>φ (.ret a)) (fun p=>φ (.pan p)):=by
  intros;first | (simp only [Wa,tg,fa,ba,iB,bB,oL,oX,nB,Option.bind_some]) | rfl
def Mf:List Sl:=.dat .str::.top::.top::.top::.ptr 0 0 0::.dat (.int .i64)::tp 42 []
def Lf:List RS:=[.box 126 2 false [.ptr 0 0 0,.row 1],.row 5 1 (.int .u8) true false]
def Qm:List Sl:=.top::.top::.dat .str::.dat .str::tp 44 []
def Pm:List RS:=[]
def ub (K:XE→List AV→ia→Option Out):Lx Unit (BA×BA)→Option Out:=fun x=>zO x (fun _=>none) (fun a=>Bm Qm Pm (a.1,(a.2,())) () (K .ret)) (fun p=>K (.panic (Oc 184 p)) (List.replicate 48 .top) [])
def Om (n:Nat) {R:Type} (s:BA) (k:(BA×BA×Unit)→Option R) (kp:Int→Option R):Option R:=(tb n (decide ((1:Int)<(s.size:Int)))).bind fun x_1=>AO x_1 (fun p=>kp p) (fun v=>if 0≤(1:Int)∧(1:Int)<(s.size:Int) then if ((bt s (1:Int))==(34:Int))=true then if 0≤(IntKind.wrap .i64 ((1:Int)+(1:Int)))∧(IntKind.wrap .i64 ((1:Int)+(1:Int)))≤(s.size:Int) then (ze n).bind fun v1=>k (v1.1,((s.extract (Int.toNat (IntKind.wrap .i64 ((1:Int)+(1:Int)))) (Int.toNat (s.size:Int))),())) else none else if 0≤(1:Int)∧(1:Int)<(s.size:Int) then if ((bt s (1:Int))==(92:Int))=true then (tb n (decide ((IntKind.wrap .i64 ((1:Int)+(1:Int)))<(s.size:Int)))).bind fun x_2=>AO x_2 (fun p1=>kp p1) (fun v2=>if 0≤(IntKind.wrap .i64 ((1:Int)+(1:Int)))∧(IntKind.wrap .i64 ((1:Int)+(1:Int)))<(s.size:Int) then if (decide ((bt s (IntKind.wrap .i64 ((1:Int)+(1:Int))))≥(32:Int)))=true then if 0≤(IntKind.wrap .i64 ((1:Int)+(1:Int)))∧(IntKind.wrap .i64 ((1:Int)+(1:Int)))<(s.size:Int) then (tb n (decide ((bt s (IntKind.wrap .i64 ((1:Int)+(1:Int))))≤(126:Int)))).bind fun x_3=>AO x_3 (fun p2=>kp p2) (fun v3=>if 0≤(IntKind.wrap .i64 ((1:Int)+(1:Int)))∧(IntKind.wrap .i64 ((1:Int)+(1:Int)))<(s.size:Int) then (Ma n (bt s (IntKind.wrap .i64 ((1:Int)+(1:Int))))).bind fun v4=>
 (Wa n n s (IntKind.wrap .i64 ((IntKind.wrap .i64 ((1:Int)+(1:Int)))+(1:Int))) v4.1).bind fun x_4=>zO x_4 (fun _=>none) (fun a_5=>k (a_5.1,(a_5.2,()))) (fun p9=>kp p9) else none) else none else (tb n false).bind fun x_6=>AO x_6 (fun p10=>kp p10) (fun v16=>if 0≤(IntKind.wrap .i64 ((1:Int)+(1:Int)))∧(IntKind.wrap .i64 ((1:Int)+(1:Int)))<(s.size:Int) then (Ma n (bt s (IntKind.wrap .i64 ((1:Int)+(1:Int))))).bind fun v17=>(Wa n n s (IntKind.wrap .i64 ((IntKind.wrap .i64 ((1:Int)+(1:Int)))+(1:Int))) v17.1).bind fun x_7=>zO x_7 (fun _=>none) (fun a_8=>k (a_8.1,(a_8.2,()))) (fun p11=>kp p11) else none) else none) else if 0≤(1:Int)∧(1:Int)<(s.size:Int) then if (decide ((bt s (1:Int))≥(32:Int)))=true then if 0≤(1:Int)∧(1:Int)<(s.size:Int) then (tb n (decide ((bt s (1:Int))≤(126:Int)))).bind fun x_9=>AO x_9 (fun p12=>kp p12) (fun v18=>if 0≤(1:Int)∧(1:Int)<(s.size:Int) then (Ma n (bt s (1:Int))).bind fun v19=>(Wa n n s (IntKind.wrap .i64 ((1:Int)+(1:Int))) v19.1).bind fun x_10=>zO x_10 (fun _=>none) (fun a_11=>k (a_11.1,(a_11.2,()))) (fun p13=>kp p13) else none) else none else (tb n false).bind fun x_12=>AO x_12 (fun p14=>kp p14) (fun v20=>if 0≤(1:Int)∧(1:Int)<(s.size:Int) then (Ma n (bt s (1:Int))).bind fun v21=>
 (Wa n n s (IntKind.wrap .i64 ((1:Int)+(1:Int))) v21.1).bind fun x_13=>zO x_13 (fun _=>none) (fun a_14=>k (a_14.1,(a_14.2,()))) (fun p15=>kp p15) else none) else none else none else none)
def yo (n:Nat) (s:BA):Option (Except Int (BA×BA×Unit)):=Om n s (fun y=>some (.ok y)) (fun p=>some (.error p))
theorem Pu (n:Nat) {S:Type}:∀ s (φ:_→Option S),(yo n s).bind φ=Om n s (fun y=>φ (.ok y)) (fun p=>φ (.error p)):=by
  intros;unfold yo Om;first | (simp only [fa,ba,iB,bB,oL,oX,nB,Option.bind_some]) | rfl
def Qc (n:Nat):Hint Out:={ live:=fun c=>(cond (Nat.beq c 0) (lv [0,4,5]) []),run:=fun c=>(cond (Nat.beq c 0) (some (ou Mf Lf fun σ ρ K=>(Wa n n σ.1 σ.2.1 ρ.2.1).bind (ub K))) none),xm:=fun c q=>(cond (Nat.beq c 1&&q.isNone) (some [(2,none),(3,none)]) none),sch:=fun c=>(cond (Nat.beq c 6) (some [(1,0),(2,0),(3,0),(4,0),(0,2),(5,0),(6,0)]) none),pl:=fun c=>Nat.beq c 0 }
def le (n:Nat) (K:XE→List AV→ia→Option Out) (m:Nat) (s1:BA) (i:Int) (r1:(Sq Int)):Option Out:=xh tys (ea Out (pb n)) (Qc n) n (za [1,1,1,0,0] (aa Tryz.f183)) 0 Mf Lf K m (s1,(i,())) ((),(r1,()))
theorem lm (n:Nat) (K:XE→List AV→ia→Option Out):∀ (m:Nat) s1 i r1,le n K m s1 i r1=(Wa n m s1 i r1).bind (ub K)
  | 0,_,_,_=>by kernel_rfl
  | m+1,s1,i,r1=>by
    have h1:le n K (m+1) s1 i r1=tg n s1 i r1 (le n K m) (fun a=>ub K (.out a)) (fun a=>ub K (.ret a)) (fun p=>ub K (.pan p)):=by kernel_rfl
    have h2:le n K m=fun s1 i r1=>(Wa n m s1 i r1).bind (ub K):=by
      repeat (refine funext fun _=>?_)
      exact lm n K m _ _ _
    rw [h1,h2];exact (qx n m _ _ _ (ub K)).symm
theorem Ou (n:Nat):bf tys (ea Out (pb n)) (Qc n) n (za [1,1,1,0,0] (aa Tryz.f183)) 0:=Ua (sp:=Mf) (rp:=Lf) (by kernel_rfl) fun K σ ρ=>lm n K n σ.1 σ.2.1 ρ.2.1
theorem mm (n:Nat):oa tys (ea Out (pb n)) (Qc n) n (aa Tryz.f183) 0:=⟨trivial,⟨trivial,⟨trivial,⟨Ou n,⟨⟨trivial,⟨⟨trivial,⟨⟨trivial,trivial⟩,trivial⟩⟩,⟨⟨trivial,⟨⟨trivial,trivial⟩,trivial⟩⟩,⟨trivial,trivial⟩⟩⟩⟩,trivial⟩⟩⟩⟩⟩
theorem uz (n:Nat):Enters Tryz.prog 183:=enters_of (c:=aa Tryz.f183) Tryz.func183 (by kernel_rfl) (by kernel_rfl)
def Yr (n:Nat):Entry:=⟨183,FO 184 (.pair .str .unit) (.many (.pair .str (.pair .str .unit))) (fun xs=>yo n xs.1),none,none⟩
theorem jB (n:Nat):EntryOk Tryz.prog gl (Yr n):=yp (uz n) (fun xs y h=>ma tys_ok (vc n) mixed (hint:=Qc n) (n:=n) Tryz.func183 (wa (mm n)) (la (φ:=(fun r=>AO r (fun p=>some (Out.pan (Oc 184 p))) fun y=>some (Out.ret (Ab (.many (.pair .str (.pair .str .unit))) y)))) (by kernel_rfl) (Pu n xs.1 _) h)) (fun xs p h=>ma tys_ok (vc n) mixed (hint:=Qc n) (n:=n) Tryz.func183 (wa (mm n)) (la (φ:=(fun r=>AO r (fun p=>some (Out.pan (Oc 184 p))) fun y=>some (Out.ret (Ab (.many (.pair .str (.pair .str .unit))) y)))) (by kernel_rfl) (Pu n xs.1 _) h))
def Pj (n:Nat):List Entry:=Yr n::pb n
theorem Qj (n:Nat):AllOk Tryz.prog gl (Pj n):=.cons (jB n) (vc n)
def Ih (n:Nat) {R:Type} (s:BA) (c:Int) (k:Int→Option R):Option R:=(we n s c).bind fun v=>k v
def zd (n:Nat) (s:BA) (c:Int):Option Int:=Ih n s c some
theorem iy (n:Nat) {S:Type}:∀ s c (φ:_→Option S),(zd n s c).bind φ=Ih n s c φ:=by
  intros;unfold zd Ih;first | (simp only [fa,ba,iB,bB,oL,oX,nB,Option.bind_some]) | rfl
def vi (n:Nat):Hint Out:={ live:=fun c=>[],run:=fun c=>none,xm:=fun c q=>none }
theorem vr (n:Nat):oa tys (ea Out (Pj n)) (vi n) n (aa Tryz.f185) 0:=ja (fun _=>rfl) _ _ (by kernel_rfl)
theorem Ot (n:Nat):Enters Tryz.prog 185:=enters_of (c:=aa Tryz.f185) Tryz.func185 (by kernel_rfl) (by kernel_rfl)
def bl (n:Nat):Entry:=⟨185,EO (.pair .str (.pair (.int .u8) .unit)) (.one (.int .i64)) (fun xs=>zd n xs.1 xs.2.1),none,none⟩
theorem kw (n:Nat):EntryOk Tryz.prog gl (bl n):=ua (Ot n) fun xs y h=>ma tys_ok (Qj n) mixed (hint:=vi n) (n:=n) Tryz.func185 (wa (vr n)) (la (φ:=(fun y=>some (Out.ret (Ab (.one (.int .i64)) y)))) (by kernel_rfl) (iy n xs.1 xs.2.1 _) h)
def jg (n:Nat):List Entry:=bl n::Pj n
theorem Rg (n:Nat):AllOk Tryz.prog gl (jg n):=.cons (kw n) (Qj n)
def Eu (n:Nat) {R:Type} (c:Int) (k:Bool→Option R):Option R:=(Ru n c).bind fun v=>if v=false then if (decide (c≥(65:Int)))=true then if (decide (c≤(90:Int)))=false then (zd n (⟨#[33,35,36,37,38,39,42,43,45,47,61,63,94,95,96,123,124,125,126]⟩:BA) c).bind fun v1=>k (decide (v1≥(0:Int))) else k true else (zd n (⟨#[33,35,36,37,38,39,42,43,45,47,61,63,94,95,96,123,124,125,126]⟩:BA) c).bind fun v2=>k (decide (v2≥(0:Int))) else k true
def Du (n:Nat) (c:Int):Option Bool:=Eu n c some
theorem OH (n:Nat) {S:Type}:∀ c (φ:_→Option S),(Du n c).bind φ=Eu n c φ:=by
  intros;unfold Du Eu;first | (simp only [fa,ba,iB,bB,oL,oX,nB,Option.bind_some]) | rfl
def Wr (n:Nat):Hint Out:={ live:=fun c=>[],run:=fun c=>none,xm:=fun c q=>none }
theorem ZA (n:Nat):oa tys (ea Out (jg n)) (Wr n) n (aa Tryz.f199) 0:=ja (fun _=>rfl) _ _ (by kernel_rfl)
theorem CD (n:Nat):Enters Tryz.prog 199:=enters_of (c:=aa Tryz.f199) Tryz.func199 (by kernel_rfl) (by kernel_rfl)
def ry (n:Nat):Entry:=⟨199,EO (.pair (.int .u8) .unit) (.one .bool) (fun xs=>Du n xs.1),none,none⟩
theorem qG (n:Nat):EntryOk Tryz.prog gl (ry n):=ua (CD n) fun xs y h=>ma tys_ok (Rg n) mixed (hint:=Wr n) (n:=n) Tryz.func199 (wa (ZA n)) (la (φ:=(fun y=>some (Out.ret (Ab (.one .bool) y)))) (by kernel_rfl) (OH n xs.1 _) h)
def Th (n:Nat):List Entry:=ry n::jg n
theorem Vn (n:Nat):AllOk Tryz.prog gl (Th n):=.cons (qG n) (Rg n)
def Ji (n:Nat) {R:Type} (s1:BA) (word t6 t7:Int) (kn:BA→Int→Int→Int→Option R) (ko:(Int)→Option R) (kr:(Bool)→Option R) (kp:Int→Option R):Option R:=if (decide (t7<t6))=true then if 0≤t7∧t7<(s1.size:Int) then if ((bt s1 t7)==(46:Int))=true then if (word==(0:Int))=false then if 0≤t7∧t7<(s1.size:Int) then if ((bt s1 t7) !=(46:Int))=true then if 0≤t7∧t7<(s1.size:Int) then (Du n (bt s1 t7)).bind fun v=>if (!v)=true then kr false else if 0≤t7∧t7<(s1.size:Int) then if ((bt s1 t7)==(46:Int))=true then kn s1 (0:Int) t6 (IntKind.wrap .i64 (t7+(1:Int))) else kn s1 (IntKind.wrap .i64 (word+(1:Int))) t6 (IntKind.wrap .i64 (t7+(1:Int))) else none else none else if 0≤t7∧t7<(s1.size:Int) then if ((bt s1 t7)==(46:Int))=true then kn s1 (0:Int) t6 (IntKind.wrap .i64 (t7+(1:Int))) else kn s1 (IntKind.wrap .i64 (word+(1:Int))) t6 (IntKind.wrap .i64 (t7+(1:Int))) else none else none else kr false else if 0≤t7∧t7<(s1.size:Int) then if ((bt s1 t7) !=(46:Int))=true then if 0≤t7∧t7<(s1.size:Int) then (Du n (bt s1 t7)).bind fun v1=>if (!v1)=true then kr false else if 0≤t7∧t7<(s1.size:Int) then if ((bt s1 t7)==(46:Int))=true then kn s1 (0:Int) t6 (IntKind.wrap .i64 (t7+(1:Int))) else kn s1 (IntKind.wrap .i64 (word+(1:Int))) t6 (IntKind.wrap .i64 (t7+(1:Int))) else none else none
 else if 0≤t7∧t7<(s1.size:Int) then if ((bt s1 t7)==(46:Int))=true then kn s1 (0:Int) t6 (IntKind.wrap .i64 (t7+(1:Int))) else kn s1 (IntKind.wrap .i64 (word+(1:Int))) t6 (IntKind.wrap .i64 (t7+(1:Int))) else none else none else none else ko word
def lc (n:Nat):Nat→BA→Int→Int→Int→Option (Lx (Int) (Bool))
 | 0,_,_,_,_=>none
 | m+1,s1,word,t6,t7=>Ji n s1 word t6 t7 (lc n m) (fun a=>some (.out a)) (fun a=>some (.ret a)) (fun p=>some (.pan p))
theorem pz (n m:Nat) {S:Type}:∀ s1 word t6 t7 (φ:_→Option S),(lc n (m+1) s1 word t6 t7).bind φ=Ji n s1 word t6 t7 (fun s1 word t6 t7=>(lc n m s1 word t6 t7).bind φ) (fun a=>φ (.out a)) (fun a=>φ (.ret a)) (fun p=>φ (.pan p)):=by
  intros;first | (simp only [lc,Ji,fa,ba,iB,bB,oL,oX,nB,Option.bind_some]) | rfl
def kh:List Sl:=.dat .str::.top::.top::.dat (.int .i64)::.top::.top::.dat (.int .i64)::.dat (.int .i64)::tp 32 []
def jh:List RS:=[]
def qo:List Sl:=.top::.top::.top::.dat (.int .i64)::tp 36 []
def po:List RS:=[]
def uo:List Sl:=.top::.top::.dat .bool::tp 37 []
def ro:List RS:=[]
def Lb (K:XE→List AV→ia→Option Out):Lx (Int) (Bool)→Option Out:=fun x=>zO x (fun a=>Bm qo po (a,()) () (K (.exit 0))) (fun a=>Bm uo ro (a,()) () (K .ret)) (fun _=>none)
def uq (n:Nat) {R:Type} (s:BA) (k:Bool→Option R):Option R:=(lc n n s (0:Int) (s.size:Int) (0:Int)).bind fun x_1=>zO x_1 (fun a_2=>k (decide (a_2>(0:Int)))) (fun a_3=>k a_3) (fun _=>none)
def mo (n:Nat) (s:BA):Option Bool:=uq n s some
theorem tG (n:Nat) {S:Type}:∀ s (φ:_→Option S),(mo n s).bind φ=uq n s φ:=by
  intros;unfold mo uq;first | (simp only [fa,ba,iB,bB,oL,oX,nB,Option.bind_some]) | rfl
def jf (n:Nat):Hint Out:={ live:=fun c=>(cond (Nat.beq c 0) (lv [0,3,6,7]) []),run:=fun c=>(cond (Nat.beq c 0) (some (ou kh jh fun σ ρ K=>(lc n n σ.1 σ.2.1 σ.2.2.1 σ.2.2.2.1).bind (Lb K))) none),xm:=fun c q=>(cond (Nat.beq c 0&&Nat.beq (q.getD 1000000) 0&&q.isSome) (some [(3,none)]) (cond (Nat.beq c 1&&q.isNone) (some [(2,none)]) none)) }
def gf (n:Nat) (K:XE→List AV→ia→Option Out) (m:Nat) (s1:BA) (word:Int) (t6:Int) (t7:Int):Option Out:=xh tys (ea Out (Th n)) (jf n) n (za [1,1,0,1,0,0] (aa Tryz.f186)) 0 kh jh K m (s1,(word,(t6,(t7,())))) ()
theorem oo (n:Nat) (K:XE→List AV→ia→Option Out):∀ (m:Nat) s1 word t6 t7,gf n K m s1 word t6 t7=(lc n m s1 word t6 t7).bind (Lb K)
  | 0,_,_,_,_=>by kernel_rfl
  | m+1,s1,word,t6,t7=>by
    have h1:gf n K (m+1) s1 word t6 t7=Ji n s1 word t6 t7 (gf n K m) (fun a=>Lb K (.out a)) (fun a=>Lb K (.ret a)) (fun p=>Lb K (.pan p)):=by kernel_rfl
    have h2:gf n K m=fun s1 word t6 t7=>(lc n m s1 word t6 t7).bind (Lb K):=by
      repeat (refine funext fun _=>?_)
      exact oo n K m _ _ _ _
    rw [h1,h2];exact (pz n m _ _ _ _ (Lb K)).symm
theorem ox (n:Nat):bf tys (ea Out (Th n)) (jf n) n (za [1,1,0,1,0,0] (aa Tryz.f186)) 0:=Ua (sp:=kh) (rp:=jh) (by kernel_rfl) fun K σ ρ=>oo n K n σ.1 σ.2.1 σ.2.2.1 σ.2.2.2.1
theorem qz (n:Nat):oa tys (ea Out (Th n)) (jf n) n (aa Tryz.f186) 0:=⟨trivial,⟨trivial,⟨⟨trivial,⟨ox n,⟨trivial,⟨⟨trivial,trivial⟩,⟨⟨trivial,⟨⟨trivial,⟨⟨trivial,trivial⟩,trivial⟩⟩,⟨trivial,⟨trivial,⟨trivial,trivial⟩⟩⟩⟩⟩,trivial⟩⟩⟩⟩⟩,⟨trivial,trivial⟩⟩⟩⟩
theorem fB (n:Nat):Enters Tryz.prog 186:=enters_of (c:=aa Tryz.f186) Tryz.func186 (by kernel_rfl) (by kernel_rfl)
def Mu (n:Nat):Entry:=⟨186,EO (.pair .str .unit) (.one .bool) (fun xs=>mo n xs.1),none,none⟩
theorem FD (n:Nat):EntryOk Tryz.prog gl (Mu n):=ua (fB n) fun xs y h=>ma tys_ok (Vn n) mixed (hint:=jf n) (n:=n) Tryz.func186 (wa (qz n)) (la (φ:=(fun y=>some (Out.ret (Ab (.one .bool) y)))) (by kernel_rfl) (tG n xs.1 _) h)
def Kf (n:Nat):List Entry:=Mu n::Th n
theorem km (n:Nat):AllOk Tryz.prog gl (Kf n):=.cons (FD n) (Vn n)
def Ki (n:Nat) {R:Type} (s1:BA) (t10 t11:Int) (r1:(Sq Int)) (kn:BA→Int→Int→(Sq Int)→Option R) (ko:((Sq Int))→Option R) (kr:Unit→Option R) (kp:Int→Option R):Option R:=if (decide (t11<t10))=true then if 0≤t11∧t11<(s1.size:Int) then if ((bt s1 t11)==(34:Int))=false then if 0≤t11∧t11<(s1.size:Int) then if ((bt s1 t11)==(92:Int))=true then (Aa n (92:Int) r1).bind fun v2=>if 0≤t11∧t11<(s1.size:Int) then (Aa n (bt s1 t11) v2.1).bind fun v3=>kn s1 t10 (IntKind.wrap .i64 (t11+(1:Int))) v3.1 else none else if 0≤t11∧t11<(s1.size:Int) then (Aa n (bt s1 t11) r1).bind fun v4=>kn s1 t10 (IntKind.wrap .i64 (t11+(1:Int))) v4.1 else none else none else (Aa n (92:Int) r1).bind fun v5=>if 0≤t11∧t11<(s1.size:Int) then (Aa n (bt s1 t11) v5.1).bind fun v6=>kn s1 t10 (IntKind.wrap .i64 (t11+(1:Int))) v6.1 else none else none else ko r1
def mc (n:Nat):Nat→BA→Int→Int→(Sq Int)→Option (Lx ((Sq Int)) Unit)
 | 0,_,_,_,_=>none
 | m+1,s1,t10,t11,r1=>Ki n s1 t10 t11 r1 (mc n m) (fun a=>some (.out a)) (fun a=>some (.ret a)) (fun p=>some (.pan p))
theorem rz (n m:Nat) {S:Type}:∀ s1 t10 t11 r1 (φ:_→Option S),(mc n (m+1) s1 t10 t11 r1).bind φ=Ki n s1 t10 t11 r1 (fun s1 t10 t11 r1=>(mc n m s1 t10 t11 r1).bind φ) (fun a=>φ (.out a)) (fun a=>φ (.ret a)) (fun p=>φ (.pan p)):=by
  intros;first | (simp only [mc,Ki,fa,ba,iB,bB,oL,oX,nB,Option.bind_some]) | rfl
def mh:List Sl:=.dat .str::.top::.top::.ptr 0 0 0::tp 6 (.dat (.int .i64)::.dat (.int .i64)::tp 20 [])
def lh:List RS:=[.box 126 2 false [.ptr 0 0 0,.row 1],.row 5 1 (.int .u8) true false]
def xo:List Sl:=.top::.top::.top::.ptr 0 0 0::tp 28 []
def wo:List RS:=[.box 126 2 false [.ptr 0 0 0,.row 1],.row 5 1 (.int .u8) true false]
def Mb (K:XE→List AV→ia→Option Out):Lx ((Sq Int)) Unit→Option Out:=fun x=>zO x (fun a=>Bm xo wo () ((),(a,())) (K (.exit 0))) (fun _=>none) (fun _=>none)
def vq (n:Nat) {R:Type} (s:BA) (k:BA→Option R):Option R:=(mo n s).bind fun v=>if v=true then k s else (Ma n (34:Int)).bind fun v1=>(mc n n s (s.size:Int) (0:Int) v1.1).bind fun x_1=>zO x_1 (fun a_2=>(vd n a_2).bind fun v7=>if Re v7.1 (⟨#[34]⟩:BA)=true then k (v7.1++(⟨#[34]⟩:BA)) else none) (fun _=>none) (fun _=>none)
def gu (n:Nat) (s:BA):Option BA:=vq n s some
theorem uG (n:Nat) {S:Type}:∀ s (φ:_→Option S),(gu n s).bind φ=vq n s φ:=by
  intros;unfold gu vq;first | (simp only [fa,ba,iB,bB,oL,oX,nB,Option.bind_some]) | rfl
def lf (n:Nat):Hint Out:={ live:=fun c=>(cond (Nat.beq c 0) (lv [0,3,10,11]) []),run:=fun c=>(cond (Nat.beq c 0) (some (ou mh lh fun σ ρ K=>(mc n n σ.1 σ.2.1 σ.2.2.1 ρ.2.1).bind (Mb K))) none),xm:=fun c q=>(cond (Nat.beq c 0&&Nat.beq (q.getD 1000000) 0&&q.isSome) (some [(3,none)]) none) }
def kf (n:Nat) (K:XE→List AV→ia→Option Out) (m:Nat) (s1:BA) (t10:Int) (t11:Int) (r1:(Sq Int)):Option Out:=xh tys (ea Out (Kf n)) (lf n) n (za [1,1,1,1,0,1,0,0] (aa Tryz.f184)) 0 mh lh K m (s1,(t10,(t11,()))) ((),(r1,()))
theorem vo (n:Nat) (K:XE→List AV→ia→Option Out):∀ (m:Nat) s1 t10 t11 r1,kf n K m s1 t10 t11 r1=(mc n m s1 t10 t11 r1).bind (Mb K)
  | 0,_,_,_,_=>by kernel_rfl
  | m+1,s1,t10,t11,r1=>by
    have h1:kf n K (m+1) s1 t10 t11 r1=Ki n s1 t10 t11 r1 (kf n K m) (fun a=>Mb K (.out a)) (fun a=>Mb K (.ret a)) (fun p=>Mb K (.pan p)):=by kernel_rfl
    have h2:kf n K m=fun s1 t10 t11 r1=>(mc n m s1 t10 t11 r1).bind (Mb K):=by
      repeat (refine funext fun _=>?_)
      exact vo n K m _ _ _ _
    rw [h1,h2];exact (rz n m _ _ _ _ (Mb K)).symm
theorem px (n:Nat):bf tys (ea Out (Kf n)) (lf n) n (za [1,1,1,1,0,1,0,0] (aa Tryz.f184)) 0:=Ua (sp:=mh) (rp:=lh) (by kernel_rfl) fun K σ ρ=>vo n K n σ.1 σ.2.1 σ.2.2.1 ρ.2.1
theorem tz (n:Nat):oa tys (ea Out (Kf n)) (lf n) n (aa Tryz.f184) 0:=⟨trivial,⟨⟨trivial,⟨⟨trivial,trivial⟩,trivial⟩⟩,⟨trivial,⟨trivial,⟨⟨trivial,⟨px n,⟨trivial,⟨⟨trivial,trivial⟩,⟨⟨trivial,⟨⟨trivial,⟨trivial,trivial⟩⟩,trivial⟩⟩,trivial⟩⟩⟩⟩⟩,⟨trivial,trivial⟩⟩⟩⟩⟩⟩
theorem gB (n:Nat):Enters Tryz.prog 184:=enters_of (c:=aa Tryz.f184) Tryz.func184 (by kernel_rfl) (by kernel_rfl)
def Nu (n:Nat):Entry:=⟨184,EO (.pair .str .unit) (.one .str) (fun xs=>gu n xs.1),none,none⟩
theorem GD (n:Nat):EntryOk Tryz.prog gl (Nu n):=ua (gB n) fun xs y h=>ma tys_ok (km n) mixed (hint:=lf n) (n:=n) Tryz.func184 (wa (tz n)) (la (φ:=(fun y=>some (Out.ret (Ab (.one .str) y)))) (by kernel_rfl) (uG n xs.1 _) h)
def Nm (n:Nat):List Entry:=Nu n::Kf n
theorem nh (n:Nat):AllOk Tryz.prog gl (Nm n):=.cons (GD n) (km n)
def sq (n:Nat) {R:Type} (s:BA) (k:(BA×BA×Unit)→Option R) (kp:Int→Option R):Option R:=(wd n s (⟨#[34]⟩:BA)).bind fun v=>if v=true then (yo n s).bind fun x_1=>AO x_1 (fun p=>kp p) (fun v1=>(gu n v1.1).bind fun v2=>k (v2,(v1.2.1,()))) else (zd n s (64:Int)).bind fun v3=>if (decide (v3≥(0:Int)))=true then if 0≤v3∧v3≤(s.size:Int) then (mo n (s.extract (Int.toNat (0:Int)) (Int.toNat v3))).bind fun v4=>(tb n v4).bind fun x_2=>AO x_2 (fun p1=>kp p1) (fun v5=>if 0≤v3∧v3≤(s.size:Int) then if 0≤v3∧v3≤(s.size:Int) then k ((s.extract (Int.toNat (0:Int)) (Int.toNat v3)),((s.extract (Int.toNat v3) (Int.toNat (s.size:Int))),())) else none else none) else none else (tb n false).bind fun x_3=>AO x_3 (fun p2=>kp p2) (fun v6=>if 0≤v3∧v3≤(s.size:Int) then if 0≤v3∧v3≤(s.size:Int) then k ((s.extract (Int.toNat (0:Int)) (Int.toNat v3)),((s.extract (Int.toNat v3) (Int.toNat (s.size:Int))),())) else none else none)
def fu (n:Nat) (s:BA):Option (Except Int (BA×BA×Unit)):=sq n s (fun y=>some (.ok y)) (fun p=>some (.error p))
theorem sy (n:Nat) {S:Type}:∀ s (φ:_→Option S),(fu n s).bind φ=sq n s (fun y=>φ (.ok y)) (fun p=>φ (.error p)):=by
  intros;unfold fu sq;first | (simp only [fa,ba,iB,bB,oL,oX,nB,Option.bind_some]) | rfl
def Ii (n:Nat):Hint Out:={ live:=fun c=>[],run:=fun c=>none,xm:=fun c q=>none }
theorem go (n:Nat):oa tys (ea Out (Nm n)) (Ii n) n (aa Tryz.f166) 0:=ja (fun _=>rfl) _ _ (by kernel_rfl)
theorem dB (n:Nat):Enters Tryz.prog 166:=enters_of (c:=aa Tryz.f166) Tryz.func166 (by kernel_rfl) (by kernel_rfl)
def Ku (n:Nat):Entry:=⟨166,FO 184 (.pair .str .unit) (.many (.pair .str (.pair .str .unit))) (fun xs=>fu n xs.1),none,none⟩
theorem DD (n:Nat):EntryOk Tryz.prog gl (Ku n):=yp (dB n) (fun xs y h=>ma tys_ok (nh n) mixed (hint:=Ii n) (n:=n) Tryz.func166 (wa (go n)) (la (φ:=(fun r=>AO r (fun p=>some (Out.pan (Oc 184 p))) fun y=>some (Out.ret (Ab (.many (.pair .str (.pair .str .unit))) y)))) (by kernel_rfl) (sy n xs.1 _) h)) (fun xs p h=>ma tys_ok (nh n) mixed (hint:=Ii n) (n:=n) Tryz.func166 (wa (go n)) (la (φ:=(fun r=>AO r (fun p=>some (Out.pan (Oc 184 p))) fun y=>some (Out.ret (Ab (.many (.pair .str (.pair .str .unit))) y)))) (by kernel_rfl) (sy n xs.1 _) h))
def Jf (n:Nat):List Entry:=Ku n::Nm n
theorem jm (n:Nat):AllOk Tryz.prog gl (Jf n):=.cons (DD n) (nh n)
def Li (n:Nat) {R:Type} (t9 t10:Int) (b:(Sq Int)) (kn:Int→Int→(Sq Int)→Option R) (ko:((Sq Int))→Option R) (kr:Unit→Option R) (kp:Int→Option R):Option R:=if (decide (t10<t9))=true then if 0≤t10∧t10<(b.n:Int) then if (decide ((b.at' (Int.toNat t10))≥(65:Int)))=true then if (decide ((b.at' (Int.toNat t10))≤(90:Int)))=true then if 0≤t10∧t10<(b.n:Int) then kn t9 (IntKind.wrap .i64 (t10+(1:Int))) (⟨b.n,fun q=>if q=(Int.toNat t10)∧q<b.n then (IntKind.wrap .u8 ((IntKind.wrap .u8 ((b.at' (Int.toNat t10))+(97:Int))) - (65:Int))) else b.at' q⟩:Sq Int) else none else kn t9 (IntKind.wrap .i64 (t10+(1:Int))) b else kn t9 (IntKind.wrap .i64 (t10+(1:Int))) b else none else ko b
def nc (n:Nat):Nat→Int→Int→(Sq Int)→Option (Lx ((Sq Int)) Unit)
 | 0,_,_,_=>none
 | m+1,t9,t10,b=>Li n t9 t10 b (nc n m) (fun a=>some (.out a)) (fun a=>some (.ret a)) (fun p=>some (.pan p))
theorem wz (n m:Nat) {S:Type}:∀ t9 t10 b (φ:_→Option S),(nc n (m+1) t9 t10 b).bind φ=Li n t9 t10 b (fun t9 t10 b=>(nc n m t9 t10 b).bind φ) (fun a=>φ (.out a)) (fun a=>φ (.ret a)) (fun p=>φ (.pan p)):=by
  intros;first | (simp only [nc,Li,fa,ba,iB,bB,oL,oX,nB,Option.bind_some]) | rfl
def ph:List Sl:=.top::.top::.top::.row 0::tp 4 (.row 0::.dat (.int .i64)::.dat (.int .i64)::tp 19 [])
def oh:List RS:=[.row 5 1 (.int .u8) false true]
def Eo:List Sl:=.top::.top::.top::.row 0::tp 26 []
def Co:List RS:=[.row 5 1 (.int .u8) false true]
def Nb (K:XE→List AV→ia→Option Out):Lx ((Sq Int)) Unit→Option Out:=fun x=>zO x (fun a=>Bm Eo Co () (a,()) (K (.exit 0))) (fun _=>none) (fun _=>none)
def wq (n:Nat) {R:Type} (s:BA) (k:BA→Option R):Option R:=(nc n n (s.size:Int) (0:Int) (⟨s.size,fun q=>bt s q⟩:Sq Int)).bind fun x_1=>zO x_1 (fun a_2=>k (Bf a_2.n a_2.at')) (fun _=>none) (fun _=>none)
def Cl (n:Nat) (s:BA):Option BA:=wq n s some
theorem xG (n:Nat) {S:Type}:∀ s (φ:_→Option S),(Cl n s).bind φ=wq n s φ:=by
  intros;unfold Cl wq;first | (simp only [fa,ba,iB,bB,oL,oX,nB,Option.bind_some]) | rfl
def nf (n:Nat):Hint Out:={ live:=fun c=>(cond (Nat.beq c 0) [(3,some (.sl (.int .u8))),(8,some (.sl (.int .u8))),(9,none),(10,none)] []),run:=fun c=>(cond (Nat.beq c 0) (some (ou ph oh fun σ ρ K=>(nc n n σ.1 σ.2.1 ρ.1).bind (Nb K))) none),xm:=fun c q=>(cond (Nat.beq c 0&&Nat.beq (q.getD 1000000) 0&&q.isSome) (some [(3,some (.sl (.int .u8)))]) none) }
def mf (n:Nat) (K:XE→List AV→ia→Option Out) (m:Nat) (t9:Int) (t10:Int) (b:(Sq Int)):Option Out:=xh tys (ea Out (Jf n)) (nf n) n (za [1,1,0,1,0,0] (aa Tryz.f159)) 0 ph oh K m (t9,(t10,())) (b,())
theorem Bo (n:Nat) (K:XE→List AV→ia→Option Out):∀ (m:Nat) t9 t10 b,mf n K m t9 t10 b=(nc n m t9 t10 b).bind (Nb K)
  | 0,_,_,_=>by kernel_rfl
  | m+1,t9,t10,b=>by
    have h1:mf n K (m+1) t9 t10 b=Li n t9 t10 b (mf n K m) (fun a=>Nb K (.out a)) (fun a=>Nb K (.ret a)) (fun p=>Nb K (.pan p)):=by kernel_rfl
    have h2:mf n K m=fun t9 t10 b=>(nc n m t9 t10 b).bind (Nb K):=by
      repeat (refine funext fun _=>?_)
      exact Bo n K m _ _ _
    rw [h1,h2];exact (wz n m _ _ _ (Nb K)).symm
theorem rx (n:Nat):bf tys (ea Out (Jf n)) (nf n) n (za [1,1,0,1,0,0] (aa Tryz.f159)) 0:=Ua (sp:=ph) (rp:=oh) (by kernel_rfl) fun K σ ρ=>Bo n K n σ.1 σ.2.1 ρ.1
theorem xz (n:Nat):oa tys (ea Out (Jf n)) (nf n) n (aa Tryz.f159) 0:=⟨trivial,⟨trivial,⟨⟨trivial,⟨rx n,⟨trivial,⟨⟨trivial,trivial⟩,⟨⟨trivial,⟨trivial,⟨trivial,trivial⟩⟩⟩,trivial⟩⟩⟩⟩⟩,⟨trivial,trivial⟩⟩⟩⟩
theorem mB (n:Nat):Enters Tryz.prog 159:=enters_of (c:=aa Tryz.f159) Tryz.func159 (by kernel_rfl) (by kernel_rfl)
def Tu (n:Nat):Entry:=⟨159,EO (.pair .str .unit) (.one .str) (fun xs=>Cl n xs.1),none,none⟩
theorem LD (n:Nat):EntryOk Tryz.prog gl (Tu n):=ua (mB n) fun xs y h=>ma tys_ok (jm n) mixed (hint:=nf n) (n:=n) Tryz.func159 (wa (xz n)) (la (φ:=(fun y=>some (Out.ret (Ab (.one .str) y)))) (by kernel_rfl) (xG n xs.1 _) h)
def Rm (n:Nat):List Entry:=Tu n::Jf n
theorem qh (n:Nat):AllOk Tryz.prog gl (Rm n):=.cons (LD n) (jm n)
def Qu (n:Nat) {R:Type} (s:BA) (k:U0→Option R) (kp:Int→Option R):Option R:=(fu n s).bind fun x_1=>AO x_1 (fun p=>kp p) (fun v=>if (decide ((v.1.size:Int)≤(64:Int)))=true then (wd n v.2.1 (⟨#[64]⟩:BA)).bind fun v1=>(tb n v1).bind fun x_2=>AO x_2 (fun p1=>kp p1) (fun v2=>if 0≤(1:Int)∧(1:Int)≤(v.2.1.size:Int) then (Cl n (v.2.1.extract (Int.toNat (1:Int)) (Int.toNat (v.2.1.size:Int)))).bind fun v3=>(fb n v3).bind fun v4=>(tb n v4).bind fun x_3=>AO x_3 (fun p2=>kp p2) (fun v5=>k (v.1,(v3,()))) else none) else (tb n false).bind fun x_4=>AO x_4 (fun p3=>kp p3) (fun v6=>if 0≤(1:Int)∧(1:Int)≤(v.2.1.size:Int) then (Cl n (v.2.1.extract (Int.toNat (1:Int)) (Int.toNat (v.2.1.size:Int)))).bind fun v7=>(fb n v7).bind fun v8=>(tb n v8).bind fun x_5=>AO x_5 (fun p4=>kp p4) (fun v9=>k (v.1,(v7,()))) else none))
def vz (n:Nat) (s:BA):Option (Except Int U0):=Qu n s (fun y=>some (.ok y)) (fun p=>some (.error p))
theorem kB (n:Nat) {S:Type}:∀ s (φ:_→Option S),(vz n s).bind φ=Qu n s (fun y=>φ (.ok y)) (fun p=>φ (.error p)):=by
  intros;unfold vz Qu;first | (simp only [fa,ba,iB,bB,oL,oX,nB,Option.bind_some]) | rfl
def Rj (n:Nat):Hint Out:={ live:=fun c=>[],run:=fun c=>none,xm:=fun c q=>none }
theorem Zr (n:Nat):oa tys (ea Out (Rm n)) (Rj n) n (aa Tryz.f147) 0:=ja (fun _=>rfl) _ _ (by kernel_rfl)
theorem JD (n:Nat):Enters Tryz.prog 147:=enters_of (c:=aa Tryz.f147) Tryz.func147 (by kernel_rfl) (by kernel_rfl)
def wy (n:Nat):Entry:=⟨147,FO 184 (.pair .str .unit) (.one (.pair .str (.pair .str .unit))) (fun xs=>vz n xs.1),none,none⟩
theorem vG (n:Nat):EntryOk Tryz.prog gl (wy n):=yp (JD n) (fun xs y h=>ma tys_ok (qh n) mixed (hint:=Rj n) (n:=n) Tryz.func147 (wa (Zr n)) (la (φ:=(fun r=>AO r (fun p=>some (Out.pan (Oc 184 p))) fun y=>some (Out.ret (Ab (.one (.pair .str (.pair .str .unit))) y)))) (by kernel_rfl) (kB n xs.1 _) h)) (fun xs p h=>ma tys_ok (qh n) mixed (hint:=Rj n) (n:=n) Tryz.func147 (wa (Zr n)) (la (φ:=(fun r=>AO r (fun p=>some (Out.pan (Oc 184 p))) fun y=>some (Out.ret (Ab (.one (.pair .str (.pair .str .unit))) y)))) (by kernel_rfl) (kB n xs.1 _) h))
def Ff (n:Nat):List Entry:=wy n::Rm n
theorem zo (n:Nat):AllOk Tryz.prog gl (Ff n):=.cons (vG n) (qh n)
def Bl (n:Nat) {R:Type} (s:BA) (k:(U0×Int×Unit)→Option R):Option R:=(vz n s).bind fun x_1=>AO x_1 (fun p=>k (((⟨#[]⟩:BA),((⟨#[]⟩:BA),())),(p,()))) (fun v=>k ((v.1,(v.2.1,())),((0:Int),())))
def Un (n:Nat) (s:BA):Option (U0×Int×Unit):=Bl n s some
theorem oG (n:Nat) {S:Type}:∀ s (φ:_→Option S),(Un n s).bind φ=Bl n s φ:=by
  intros;unfold Un Bl;first | (simp only [fa,ba,iB,bB,oL,oX,nB,Option.bind_some]) | rfl
def cf (n:Nat):Hint Out:={ live:=fun c=>[],run:=fun c=>none,xm:=fun c q=>none,pm:=some [(2,none),(3,none)] }
theorem lz (n:Nat):oa tys (ea Out (Ff n)) (cf n) n (za [0] (aa Tryz.f120)) 0∧oa tys (ea Out (Ff n)) (cf n) n (za [1,1] (aa Tryz.f120)) 0:=⟨trivial,⟨trivial,trivial⟩⟩
theorem XA (n:Nat):Enters Tryz.prog 120:=enters_of (c:=aa Tryz.f120) Tryz.func120 (by kernel_rfl) (by kernel_rfl)
theorem Ur:Tryz.prog.funcs[146]?=some Tryz.f146:=by kernel_rfl
theorem kz:Enters Tryz.prog 146:=enters_of (c:=aa Tryz.f146) Ur (by kernel_rfl) (by kernel_rfl)
theorem jx (n:Nat):oa tys (ea Out (Ff n)) Vz n (za [1] (aa Tryz.f146)) 0:=⟨⟨trivial,⟨trivial,trivial⟩⟩,⟨trivial,⟨⟨trivial,⟨trivial,trivial⟩⟩,trivial⟩⟩⟩
theorem nG (n:Nat) (s:BA):mO tys (ea Out (Ff n)) (cf n) n 146 Tryz.f146 Tryz.f120 (RG (.pair .str .unit) (s,())) (HE fun v=>some (.ret v))=Bl n s (fun y=>some (.ret (Ab (.many (.pair (.pair .str (.pair .str .unit)) (.pair (.int .i64) .unit))) y))):=by kernel_rfl
def Bu (n:Nat):Entry:=⟨120,EO (.pair .str .unit) (.many (.pair (.pair .str (.pair .str .unit)) (.pair (.int .i64) .unit))) (fun xs=>Un n xs.1),none,none⟩
theorem AD (n:Nat):EntryOk Tryz.prog gl (Bu n):=ua (XA n) fun xs y h=>yy tys_ok (zo n) mixed (hint:=cf n) (n:=n) (fn:=Tryz.f120) (f2:=Tryz.f146) Tryz.func120 Ur kz (jM (lz n)) (vK (jx n)) (la (φ:=(fun y=>some (Out.ret (Ab (.many (.pair (.pair .str (.pair .str .unit)) (.pair (.int .i64) .unit))) y)))) (nG n xs.1) (oG n xs.1 _) h)
def Mm (n:Nat):List Entry:=Bu n::Ff n
theorem im (n:Nat):AllOk Tryz.prog gl (Mm n):=.cons (AD n) (zo n)
def jz (n:Nat) {R:Type} (m0:U0) (k:Bool→Option R):Option R:=(qF n (m0.1,(m0.2.1,()))).bind fun v=>(Un n v).bind fun v1=>if (v1.2.1==(0:Int))=true then k ((v1.1.1.toList==m0.1.toList)&&((v1.1.2.1.toList==m0.2.1.toList)&&true)) else k false
def sj (n:Nat) (m0:U0):Option Bool:=jz n m0 some
theorem sJ (n:Nat) {S:Type}:∀ m0 (φ:_→Option S),(sj n m0).bind φ=jz n m0 φ:=by
  intros;unfold sj jz;first | (simp only [fa,ba,iB,bB,oL,oX,nB,Option.bind_some]) | rfl
def Au (n:Nat):Hint Out:={ live:=fun c=>[],run:=fun c=>none,xm:=fun c q=>none }
theorem zD (n:Nat):oa tys (ea Out (Mm n)) (Au n) n (aa Tryz.f104) 0:=ja (fun _=>rfl) _ _ (by kernel_rfl)
theorem mG (n:Nat):Enters Tryz.prog 104:=enters_of (c:=aa Tryz.f104) Tryz.func104 (by kernel_rfl) (by kernel_rfl)
def WA (n:Nat):Entry:=⟨104,EO (.pair (.pair .str (.pair .str .unit)) .unit) (.one .bool) (fun xs=>sj n xs.1),none,none⟩
theorem MH (n:Nat):EntryOk Tryz.prog gl (WA n):=ua (mG n) fun xs y h=>ma tys_ok (im n) mixed (hint:=Au n) (n:=n) Tryz.func104 (wa (zD n)) (la (φ:=(fun y=>some (Out.ret (Ab (.one .bool) y)))) (by kernel_rfl) (sJ n xs.1 _) h)
def Lj (n:Nat):List Entry:=WA n::Mm n
theorem Tr (n:Nat):AllOk Tryz.prog gl (Lj n):=.cons (MH n) (im n)
def UF (n:Nat) {R:Type} (s1:(Sq U0)) (t7 t8:Int) (v1 v2:BA) (kn:(Sq U0)→Int→Int→BA→BA→Option R) (ko:(Unit)→Option R) (kr:(Int)→Option R) (kp:Int→Option R):Option R:=if (decide (t8<t7))=true then if 0≤t8∧t8<(s1.n:Int) then if ((v1.toList==(((s1.at' (Int.toNat t8))).1).toList)&&((v2.toList==((((s1.at' (Int.toNat t8))).2).1).toList)&&true))=true then kr t8 else kn s1 t7 (IntKind.wrap .i64 (t8+(1:Int))) v1 v2 else none else ko ()
def Ss (n:Nat):Nat→(Sq U0)→Int→Int→BA→BA→Option (Lx (Unit) (Int))
 | 0,_,_,_,_,_=>none
 | m+1,s1,t7,t8,v1,v2=>UF n s1 t7 t8 v1 v2 (Ss n m) (fun a=>some (.out a)) (fun a=>some (.ret a)) (fun p=>some (.pan p))
theorem TJ (n m:Nat) {S:Type}:∀ s1 t7 t8 v1 v2 (φ:_→Option S),(Ss n (m+1) s1 t7 t8 v1 v2).bind φ=UF n s1 t7 t8 v1 v2 (fun s1 t7 t8 v1 v2=>(Ss n m s1 t7 t8 v1 v2).bind φ) (fun a=>φ (.out a)) (fun a=>φ (.ret a)) (fun p=>φ (.pan p)):=by
  intros;first | (simp only [Ss,UF,fa,ba,iB,bB,oL,oX,nB,Option.bind_some]) | rfl
def gw:List Sl:=.dat (.sl (.pair .str (.pair .str .unit)))::.top::.top::.ptr 0 0 0::.top::.top::.top::.dat (.int .i64)::.dat (.int .i64)::tp 10 []
def fw:List RS:=[.box 47 2 true [.dat .str,.dat .str]]
def mA:List Sl:=tp 19 []
def lA:List RS:=[]
def oA:List Sl:=tp 4 (.dat (.int .i64)::tp 14 [])
def nA:List RS:=[]
def Wi (K:XE→List AV→ia→Option Out):Lx (Unit) (Int)→Option Out:=fun x=>zO x (fun a=>Bm mA lA () () (K (.exit 0))) (fun a=>Bm oA nA (a,()) () (K .ret)) (fun _=>none)
def sL (n:Nat) {R:Type} (s:(Sq U0)) (v:U0) (k:Int→Option R):Option R:=(Ss n n s (s.n:Int) (0:Int) v.1 v.2.1).bind fun x_1=>zO x_1 (fun a_2=>k (-1:Int)) (fun a_3=>k a_3) (fun _=>none)
def JO (n:Nat) (s:(Sq U0)) (v:U0):Option Int:=sL n s v some
theorem bN (n:Nat) {S:Type}:∀ s v (φ:_→Option S),(JO n s v).bind φ=sL n s v φ:=by
  intros;unfold JO sL;first | (simp only [fa,ba,iB,bB,oL,oX,nB,Option.bind_some]) | rfl
def tu (n:Nat):Hint Out:={ live:=fun c=>(cond (Nat.beq c 0) [(0,some (.sl (.pair .str (.pair .str .unit)))),(3,none),(7,none),(8,none)] []),run:=fun c=>(cond (Nat.beq c 0) (some (ou gw fw fun σ ρ K=>(Ss n n σ.1 σ.2.1 σ.2.2.1 ρ.1.1 ρ.1.2.1).bind (Wi K))) none),xm:=fun c q=>(cond (Nat.beq c 0&&Nat.beq (q.getD 1000000) 0&&q.isSome) (some []) (cond (Nat.beq c 1&&q.isNone) (some [(4,none)]) none)) }
def su (n:Nat) (K:XE→List AV→ia→Option Out) (m:Nat) (s1:(Sq U0)) (t7:Int) (t8:Int) (v1:BA) (v2:BA):Option Out:=xh tys (ea Out (Lj n)) (tu n) n (za [1,0,1,0,0] (aa Tryz.f82)) 0 gw fw K m (s1,(t7,(t8,()))) ((v1,(v2,())),())
theorem VF (n:Nat) (K:XE→List AV→ia→Option Out):∀ (m:Nat) s1 t7 t8 v1 v2,su n K m s1 t7 t8 v1 v2=(Ss n m s1 t7 t8 v1 v2).bind (Wi K)
  | 0,_,_,_,_,_=>by kernel_rfl
  | m+1,s1,t7,t8,v1,v2=>by
    have h1:su n K (m+1) s1 t7 t8 v1 v2=UF n s1 t7 t8 v1 v2 (su n K m) (fun a=>Wi K (.out a)) (fun a=>Wi K (.ret a)) (fun p=>Wi K (.pan p)):=by kernel_rfl
    have h2:su n K m=fun s1 t7 t8 v1 v2=>(Ss n m s1 t7 t8 v1 v2).bind (Wi K):=by
      repeat (refine funext fun _=>?_)
      exact VF n K m _ _ _ _ _
    rw [h1,h2];exact (TJ n m _ _ _ _ _ (Wi K)).symm
theorem PI (n:Nat):bf tys (ea Out (Lj n)) (tu n) n (za [1,0,1,0,0] (aa Tryz.f82)) 0:=Ua (sp:=gw) (rp:=fw) (by kernel_rfl) fun K σ ρ=>VF n K n σ.1 σ.2.1 σ.2.2.1 ρ.1.1 ρ.1.2.1
theorem UJ (n:Nat):oa tys (ea Out (Lj n)) (tu n) n (aa Tryz.f82) 0:=⟨trivial,⟨⟨trivial,⟨PI n,⟨trivial,⟨⟨trivial,trivial⟩,⟨⟨trivial,⟨trivial,⟨⟨trivial,trivial⟩,trivial⟩⟩⟩,trivial⟩⟩⟩⟩⟩,⟨trivial,trivial⟩⟩⟩
theorem tL (n:Nat):Enters Tryz.prog 82:=enters_of (c:=aa Tryz.f82) Tryz.func82 (by kernel_rfl) (by kernel_rfl)
def xK (n:Nat):Entry:=⟨82,EO K7 (.one (.int .i64)) (fun xs=>JO n xs.1 xs.2.1),none,none⟩
theorem lM (n:Nat):EntryOk Tryz.prog gl (xK n):=ua (tL n) fun xs y h=>ma tys_ok (Tr n) mixed (hint:=tu n) (n:=n) Tryz.func82 (wa (UJ n)) (la (φ:=(fun y=>some (Out.ret (Ab (.one (.int .i64)) y)))) (by kernel_rfl) (bN n xs.1 xs.2.1 _) h)
def QI (n:Nat):List Entry:=xK n::Lj n
theorem IC (n:Nat):AllOk Tryz.prog gl (QI n):=.cons (lM n) (Tr n)
def qL (n:Nat) {R:Type} (s:(Sq U0)) (v:U0) (k:Bool→Option R):Option R:=(JO n s (v.1,(v.2.1,()))).bind fun v1=>k (decide (v1≥(0:Int)))
def HO (n:Nat) (s:(Sq U0)) (v:U0):Option Bool:=qL n s v some
theorem aN (n:Nat) {S:Type}:∀ s v (φ:_→Option S),(HO n s v).bind φ=qL n s v φ:=by
  intros;unfold HO qL;first | (simp only [fa,ba,iB,bB,oL,oX,nB,Option.bind_some]) | rfl
def TF (n:Nat):Hint Out:={ live:=fun c=>[],run:=fun c=>none,xm:=fun c q=>none }
theorem RJ (n:Nat):oa tys (ea Out (QI n)) (TF n) n (aa Tryz.f44) 0:=ja (fun _=>rfl) _ _ (by kernel_rfl)
theorem rL (n:Nat):Enters Tryz.prog 44:=enters_of (c:=aa Tryz.f44) Tryz.func44 (by kernel_rfl) (by kernel_rfl)
def wK (n:Nat):Entry:=⟨44,EO K7 (.one .bool) (fun xs=>HO n xs.1 xs.2.1),none,none⟩
theorem kM (n:Nat):EntryOk Tryz.prog gl (wK n):=ua (rL n) fun xs y h=>ma tys_ok (IC n) mixed (hint:=TF n) (n:=n) Tryz.func44 (wa (RJ n)) (la (φ:=(fun y=>some (Out.ret (Ab (.one .bool) y)))) (by kernel_rfl) (aN n xs.1 xs.2.1 _) h)
def CC (n:Nat):List Entry:=wK n::QI n
theorem DC (n:Nat):AllOk Tryz.prog gl (CC n):=.cons (kM n) (IC n)
def Oz (n:Nat) {R:Type} (l1 t5:(Sq U0)) (t6 t7:Int) (kn:(Sq U0)→(Sq U0)→Int→Int→Option R) (ko:((Sq U0))→Option R) (kr:(Bool)→Option R) (kp:Int→Option R):Option R:=if (decide (t7<t6))=true then if 0≤t7∧t7<(t5.n:Int) then (sj n (((t5.at' (Int.toNat t7))).1,((((t5.at' (Int.toNat t7))).2).1,()))).bind fun v=>if (!v)=false then if 0≤t7∧t7≤(l1.n:Int) then (HO n (⟨((Int.toNat t7) - (Int.toNat (0:Int))),fun i=>l1.at' ((Int.toNat (0:Int))+i)⟩:Sq U0) (((t5.at' (Int.toNat t7))).1,((((t5.at' (Int.toNat t7))).2).1,()))).bind fun v1=>if v1=true then kr false else kn l1 t5 t6 (IntKind.wrap .i64 (t7+(1:Int))) else none else kr false else none else ko l1
def rk (n:Nat):Nat→(Sq U0)→(Sq U0)→Int→Int→Option (Lx ((Sq U0)) (Bool))
 | 0,_,_,_,_=>none
 | m+1,l1,t5,t6,t7=>Oz n l1 t5 t6 t7 (rk n m) (fun a=>some (.out a)) (fun a=>some (.ret a)) (fun p=>some (.pan p))
theorem aI (n m:Nat) {S:Type}:∀ l1 t5 t6 t7 (φ:_→Option S),(rk n (m+1) l1 t5 t6 t7).bind φ=Oz n l1 t5 t6 t7 (fun l1 t5 t6 t7=>(rk n m l1 t5 t6 t7).bind φ) (fun a=>φ (.out a)) (fun a=>φ (.ret a)) (fun p=>φ (.pan p)):=by
  intros;first | (simp only [rk,Oz,fa,ba,iB,bB,oL,oX,nB,Option.bind_some]) | rfl
def Lq:List Sl:=.dat (.sl (.pair .str (.pair .str .unit)))::tp 4 (.dat (.sl (.pair .str (.pair .str .unit)))::.dat (.int .i64)::.dat (.int .i64)::tp 18 [])
def Kq:List RS:=[]
def Fx:List Sl:=.dat (.sl (.pair .str (.pair .str .unit)))::tp 25 []
def Ex:List RS:=[]
def Ix:List Sl:=.top::.top::.dat .bool::tp 23 []
def Gx:List RS:=[]
def Sf (K:XE→List AV→ia→Option Out):Lx ((Sq U0)) (Bool)→Option Out:=fun x=>zO x (fun a=>Bm Fx Ex (a,()) () (K (.exit 0))) (fun a=>Bm Ix Gx (a,()) () (K .ret)) (fun _=>none)
def ZH (n:Nat) {R:Type} (l:(Sq U0)) (k:Bool→Option R):Option R:=(rk n n l l (l.n:Int) (0:Int)).bind fun x_1=>zO x_1 (fun a_2=>k (decide ((a_2.n:Int)≤(8:Int)))) (fun a_3=>k a_3) (fun _=>none)
def OK (n:Nat) (l:(Sq U0)):Option Bool:=ZH n l some
theorem VL (n:Nat) {S:Type}:∀ l (φ:_→Option S),(OK n l).bind φ=ZH n l φ:=by
  intros;unfold OK ZH;first | (simp only [fa,ba,iB,bB,oL,oX,nB,Option.bind_some]) | rfl
def Yo (n:Nat):Hint Out:={ live:=fun c=>(cond (Nat.beq c 0) [(0,some (.sl (.pair .str (.pair .str .unit)))),(5,some (.sl (.pair .str (.pair .str .unit)))),(6,none),(7,none)] []),run:=fun c=>(cond (Nat.beq c 0) (some (ou Lq Kq fun σ ρ K=>(rk n n σ.1 σ.2.1 σ.2.2.1 σ.2.2.2.1).bind (Sf K))) none),xm:=fun c q=>(cond (Nat.beq c 0&&Nat.beq (q.getD 1000000) 0&&q.isSome) (some [(0,some (.sl (.pair .str (.pair .str .unit))))]) (cond (Nat.beq c 1&&q.isNone) (some [(2,none)]) none)) }
def Xo (n:Nat) (K:XE→List AV→ia→Option Out) (m:Nat) (l1:(Sq U0)) (t5:(Sq U0)) (t6:Int) (t7:Int):Option Out:=xh tys (ea Out (CC n)) (Yo n) n (za [1,0,1,0,0] (aa Tryz.f105)) 0 Lq Kq K m (l1,(t5,(t6,(t7,())))) ()
theorem SB (n:Nat) (K:XE→List AV→ia→Option Out):∀ (m:Nat) l1 t5 t6 t7,Xo n K m l1 t5 t6 t7=(rk n m l1 t5 t6 t7).bind (Sf K)
  | 0,_,_,_,_=>by kernel_rfl
  | m+1,l1,t5,t6,t7=>by
    have h1:Xo n K (m+1) l1 t5 t6 t7=Oz n l1 t5 t6 t7 (Xo n K m) (fun a=>Sf K (.out a)) (fun a=>Sf K (.ret a)) (fun p=>Sf K (.pan p)):=by kernel_rfl
    have h2:Xo n K m=fun l1 t5 t6 t7=>(rk n m l1 t5 t6 t7).bind (Sf K):=by
      repeat (refine funext fun _=>?_)
      exact SB n K m _ _ _ _
    rw [h1,h2];exact (aI n m _ _ _ _ (Sf K)).symm
theorem MG (n:Nat):bf tys (ea Out (CC n)) (Yo n) n (za [1,0,1,0,0] (aa Tryz.f105)) 0:=Ua (sp:=Lq) (rp:=Kq) (by kernel_rfl) fun K σ ρ=>SB n K n σ.1 σ.2.1 σ.2.2.1 σ.2.2.2.1
theorem cI (n:Nat):oa tys (ea Out (CC n)) (Yo n) n (aa Tryz.f105) 0:=⟨trivial,⟨⟨trivial,⟨MG n,⟨trivial,⟨⟨trivial,trivial⟩,⟨⟨trivial,⟨trivial,⟨⟨trivial,trivial⟩,trivial⟩⟩⟩,trivial⟩⟩⟩⟩⟩,⟨trivial,trivial⟩⟩⟩
theorem BJ (n:Nat):Enters Tryz.prog 105:=enters_of (c:=aa Tryz.f105) Tryz.func105 (by kernel_rfl) (by kernel_rfl)
def bI (n:Nat):Entry:=⟨105,EO (.pair (.sl (.pair .str (.pair .str .unit))) .unit) (.one .bool) (fun xs=>OK n xs.1),none,none⟩
theorem PK (n:Nat):EntryOk Tryz.prog gl (bI n):=ua (BJ n) fun xs y h=>ma tys_ok (DC n) mixed (hint:=Yo n) (n:=n) Tryz.func105 (wa (cI n)) (la (φ:=(fun y=>some (Out.ret (Ab (.one .bool) y)))) (by kernel_rfl) (VL n xs.1 _) h)
def dE (n:Nat):List Entry:=bI n::CC n
theorem Fy (n:Nat):AllOk Tryz.prog gl (dE n):=.cons (PK n) (DC n)
def dk (n:Nat) {R:Type} (c:T0) (k:Bool→Option R):Option R:=if (decide (c.2.2.2.2.1<(2:Int)))=false then if (decide (c.2.2.2.2.1>(4:Int)))=true then if (!c.2.2.2.2.2.2.1)=true then if ((c.2.2.2.2.2.2.2.1.1.toList==(⟨#[]⟩:BA).toList)&&((c.2.2.2.2.2.2.2.1.2.1.toList==(⟨#[]⟩:BA).toList)&&true))=true then k ((c.2.2.2.2.2.2.2.2.1.n:Int)==(0:Int)) else k false else k false else if c.2.2.2.2.2.2.1=true then if (!((c.2.2.2.2.2.2.2.1.1.toList==(⟨#[]⟩:BA).toList)&&((c.2.2.2.2.2.2.2.1.2.1.toList==(⟨#[]⟩:BA).toList)&&true)))=false then if (!c.2.2.2.2.2.2.1)=true then (sj n c.2.2.2.2.2.2.2.1).bind fun v=>if (!v)=true then k false else (OK n c.2.2.2.2.2.2.2.2.1).bind fun v1=>if v1=true then k (((c.2.2.2.2.2.2.2.2.1.n:Int)==(0:Int))==(c.2.2.2.2.1==(2:Int))) else k false else (OK n c.2.2.2.2.2.2.2.2.1).bind fun v2=>if v2=true then k (((c.2.2.2.2.2.2.2.2.1.n:Int)==(0:Int))==(c.2.2.2.2.1==(2:Int))) else k false else k false else if (!c.2.2.2.2.2.2.1)=true then (sj n c.2.2.2.2.2.2.2.1).bind fun v3=>if (!v3)=true then k false else (OK n c.2.2.2.2.2.2.2.2.1).bind fun v4=>if v4=true then k (((c.2.2.2.2.2.2.2.2.1.n:Int)==(0:Int))==(c.2.2.2.2.1==(2:Int))) else k false else (OK n c.2.2.2.2.2.2.2.2.1).bind fun v5=>if v5=true then k (((c.2.2.2.2.2.2.2.2.1.n:Int)==(0:Int))==(c.2.2.2.2.1==(2:Int)))
 else k false else if (!c.2.2.2.2.2.2.1)=true then if ((c.2.2.2.2.2.2.2.1.1.toList==(⟨#[]⟩:BA).toList)&&((c.2.2.2.2.2.2.2.1.2.1.toList==(⟨#[]⟩:BA).toList)&&true))=true then k ((c.2.2.2.2.2.2.2.2.1.n:Int)==(0:Int)) else k false else k false
def Sa (n:Nat) (c:T0):Option Bool:=dk n c some
theorem JB (n:Nat) {S:Type}:∀ c (φ:_→Option S),(Sa n c).bind φ=dk n c φ:=by
  intros;unfold Sa dk;first | (simp only [fa,ba,iB,bB,oL,oX,nB,Option.bind_some]) | rfl
def ek (n:Nat):Hint Out:={ live:=fun c=>[],run:=fun c=>none,xm:=fun c q=>none }
theorem wv (n:Nat):oa tys (ea Out (dE n)) (ek n) n (aa Tryz.f75) 0:=ja (fun _=>rfl) _ _ (by kernel_rfl)
theorem Cx (n:Nat):Enters Tryz.prog 75:=enters_of (c:=aa Tryz.f75) Tryz.func75 (by kernel_rfl) (by kernel_rfl)
def Oo (n:Nat):Entry:=⟨75,EO K1 (.one .bool) (fun xs=>Sa n xs.1),none,none⟩
theorem Kz (n:Nat):EntryOk Tryz.prog gl (Oo n):=ua (Cx n) fun xs y h=>ma tys_ok (Fy n) mixed (hint:=ek n) (n:=n) Tryz.func75 (wa (wv n)) (la (φ:=(fun y=>some (Out.ret (Ab (.one .bool) y)))) (by kernel_rfl) (JB n xs.1 _) h)
def Po (n:Nat):List Entry:=Oo n::dE n
theorem mt (n:Nat):AllOk Tryz.prog gl (Po n):=.cons (Kz n) (Fy n)
def fe (n:Nat):List Entry:=⟨133,EO (.pair .str (.pair .str .unit)) (.one .bool) (fun xs=>DJ xs.1 xs.2.1),none,none⟩::Po n
theorem Ye (n:Nat):AllOk Tryz.prog gl (fe n):=.cons Nx (mt n)
def en (n:Nat) {R:Type} (s:BA) (k:Bool→Option R):Option R:=if (decide ((s.size:Int)≤(509:Int)))=true then (DJ s (⟨#[13,10]⟩:BA)).bind fun v=>k (!v) else k false
def Yh (n:Nat) (s:BA):Option Bool:=en n s some
theorem lE (n:Nat) {S:Type}:∀ s (φ:_→Option S),(Yh n s).bind φ=en n s φ:=by
  intros;unfold Yh en;first | (simp only [fa,ba,iB,bB,oL,oX,nB,Option.bind_some]) | rfl
def um (n:Nat):Hint Out:={ live:=fun c=>[],run:=fun c=>none,xm:=fun c q=>none }
theorem Ox (n:Nat):oa tys (ea Out (fe n)) (um n) n (aa Tryz.f108) 0:=ja (fun _=>rfl) _ _ (by kernel_rfl)
theorem Rz (n:Nat):Enters Tryz.prog 108:=enters_of (c:=aa Tryz.f108) Tryz.func108 (by kernel_rfl) (by kernel_rfl)
def Hs (n:Nat):Entry:=⟨108,EO (.pair .str .unit) (.one .bool) (fun xs=>Yh n xs.1),none,none⟩
theorem XB (n:Nat):EntryOk Tryz.prog gl (Hs n):=ua (Rz n) fun xs y h=>ma tys_ok (Ye n) mixed (hint:=um n) (n:=n) Tryz.func108 (wa (Ox n)) (la (φ:=(fun y=>some (Out.ret (Ab (.one .bool) y)))) (by kernel_rfl) (lE n xs.1 _) h)
def uk (n:Nat):List Entry:=Hs n::fe n
theorem vk (n:Nat):AllOk Tryz.prog gl (uk n):=.cons (XB n) (Ye n)
def Iq (n:Nat) {R:Type} (s:BA) (k:Bool→Option R):Option R:=(Yh n s).bind fun v=>k (!v)
def ku (n:Nat) (s:BA):Option Bool:=Iq n s some
theorem KG (n:Nat) {S:Type}:∀ s (φ:_→Option S),(ku n s).bind φ=Iq n s φ:=by
  intros;unfold ku Iq;first | (simp only [fa,ba,iB,bB,oL,oX,nB,Option.bind_some]) | rfl
def Vo (n:Nat):Hint Out:={ live:=fun c=>[],run:=fun c=>none,xm:=fun c q=>none }
theorem Nz (n:Nat):oa tys (ea Out (uk n)) (Vo n) n (aa Tryz.f107) 0:=ja (fun _=>rfl) _ _ (by kernel_rfl)
theorem PB (n:Nat):Enters Tryz.prog 107:=enters_of (c:=aa Tryz.f107) Tryz.func107 (by kernel_rfl) (by kernel_rfl)
def Bv (n:Nat):Entry:=⟨107,EO (.pair .str .unit) (.one .bool) (fun xs=>ku n xs.1),none,none⟩
theorem bE (n:Nat):EntryOk Tryz.prog gl (Bv n):=ua (PB n) fun xs y h=>ma tys_ok (vk n) mixed (hint:=Vo n) (n:=n) Tryz.func107 (wa (Nz n)) (la (φ:=(fun y=>some (Out.ret (Ab (.one .bool) y)))) (by kernel_rfl) (KG n xs.1 _) h)
def Qf (n:Nat):List Entry:=Bv n::uk n
theorem tm (n:Nat):AllOk Tryz.prog gl (Qf n):=.cons (bE n) (vk n)
def Fp (n:Nat) {R:Type} (s1:(Sq BA)) (t7 t8:Int) (kn:(Sq BA)→Int→Int→Option R) (ko:(Unit)→Option R) (kr:(Int)→Option R) (kp:Int→Option R):Option R:=if (decide (t8<t7))=true then if 0≤t8∧t8<(s1.n:Int) then (ku n (s1.at' (Int.toNat t8))).bind fun v=>if v=true then kr t8 else kn s1 t7 (IntKind.wrap .i64 (t8+(1:Int))) else none else ko ()
def De (n:Nat):Nat→(Sq BA)→Int→Int→Option (Lx (Unit) (Int))
 | 0,_,_,_=>none
 | m+1,s1,t7,t8=>Fp n s1 t7 t8 (De n m) (fun a=>some (.out a)) (fun a=>some (.ret a)) (fun p=>some (.pan p))
theorem FE (n m:Nat) {S:Type}:∀ s1 t7 t8 (φ:_→Option S),(De n (m+1) s1 t7 t8).bind φ=Fp n s1 t7 t8 (fun s1 t7 t8=>(De n m s1 t7 t8).bind φ) (fun a=>φ (.out a)) (fun a=>φ (.ret a)) (fun p=>φ (.pan p)):=by
  intros;first | (simp only [De,Fp,fa,ba,iB,bB,oL,oX,nB,Option.bind_some]) | rfl
def Uk:List Sl:=.dat (.sl .str)::.fnc 107::tp 5 (.dat (.int .i64)::.dat (.int .i64)::tp 10 [])
def Tk:List RS:=[.ghost [.top,.top]]
def Jt:List Sl:=tp 19 []
def It:List RS:=[.ghost [.top,.top]]
def Lt:List Sl:=tp 4 (.dat (.int .i64)::tp 14 [])
def Kt:List RS:=[.ghost [.top,.top]]
def ed (K:XE→List AV→ia→Option OutS):Lx (Unit) (Int)→Option OutS:=fun x=>zO x (fun a=>Bm Jt It () ((),()) (K (.exit 0))) (fun a=>Bm Lt Kt (a,()) ((),()) (K .ret)) (fun _=>none)
def jA (n:Nat) {R:Type} (s:(Sq BA)) (k:(Int×Unit)→Option R):Option R:=(De n n s (s.n:Int) (0:Int)).bind fun x_1=>zO x_1 (fun a_2=>k ((-1:Int),())) (fun a_3=>k (a_3,())) (fun _=>none)
def EC (n:Nat) (s:(Sq BA)):Option (Int×Unit):=jA n s some
theorem SJ (n:Nat) {S:Type}:∀ s (φ:_→Option S),(EC n s).bind φ=jA n s φ:=by
  intros;unfold EC jA;first | (simp only [fa,ba,iB,bB,oL,oX,nB,Option.bind_some]) | rfl
def Vi (n:Nat):Hint OutS:={ live:=fun c=>(cond (Nat.beq c 0) [(0,some (.sl .str)),(1,none),(7,none),(8,none)] []),run:=fun c=>(cond (Nat.beq c 0) (some (ou Uk Tk fun σ ρ K=>(De n n σ.1 σ.2.1 σ.2.2.1).bind (ed K))) none),xm:=fun c q=>(cond (Nat.beq c 0&&Nat.beq (q.getD 1000000) 0&&q.isSome) (some []) (cond (Nat.beq c 1&&q.isNone) (some [(4,none)]) none)) }
def Ui (n:Nat) (K:XE→List AV→ia→Option OutS) (m:Nat) (s1:(Sq BA)) (t7:Int) (t8:Int):Option OutS:=xh tys (ea OutS (Qf n)) (Vi n) n (za [1,0,1,0,0] (aa Tryz.f132)) 0 Uk Tk K m (s1,(t7,(t8,()))) ((),())
theorem dw (n:Nat) (K:XE→List AV→ia→Option OutS):∀ (m:Nat) s1 t7 t8,Ui n K m s1 t7 t8=(De n m s1 t7 t8).bind (ed K)
  | 0,_,_,_=>by kernel_rfl
  | m+1,s1,t7,t8=>by
    have h1:Ui n K (m+1) s1 t7 t8=Fp n s1 t7 t8 (Ui n K m) (fun a=>ed K (.out a)) (fun a=>ed K (.ret a)) (fun p=>ed K (.pan p)):=by kernel_rfl
    have h2:Ui n K m=fun s1 t7 t8=>(De n m s1 t7 t8).bind (ed K):=by
      repeat (refine funext fun _=>?_)
      exact dw n K m _ _ _
    rw [h1,h2];exact (FE n m _ _ _ (ed K)).symm
theorem FC (n:Nat):bf tys (ea OutS (Qf n)) (Vi n) n (za [1,0,1,0,0] (aa Tryz.f132)) 0:=Ua (sp:=Uk) (rp:=Tk) (by kernel_rfl) fun K σ ρ=>dw n K n σ.1 σ.2.1 σ.2.2.1
theorem GE (n:Nat):oa tys (ea OutS (Qf n)) (Vi n) n (aa Tryz.f132) 0:=⟨trivial,⟨⟨trivial,⟨FC n,⟨trivial,⟨⟨trivial,trivial⟩,⟨⟨trivial,⟨trivial,⟨⟨trivial,trivial⟩,trivial⟩⟩⟩,trivial⟩⟩⟩⟩⟩,⟨trivial,trivial⟩⟩⟩
theorem eH (n:Nat):Enters Tryz.prog 132:=enters_of (c:=aa Tryz.f132) Tryz.func132 (by kernel_rfl) (by kernel_rfl)
def HC:List RSp:=[.one (.dat (.sl .str)),.one (.fnc 107)]
def GC:List RS:=[]
def fH:List Sl:=[.top,.top]
def gH:List RSp:=[.one (.dat (.int .i64))]
def Nl:List RS:=[]
def kA (y:(Int×Unit)):OutS:=⟨false,yk (Bd Nl ()) fH (),Sy (Rx (Bd Nl ()) gH ((y.1,()),())),nq (Bd Nl ()) Nl ()⟩
theorem OI (n:Nat):EntryOk Tryz.prog gl ⟨132,yh,none,some (fO HC GC (fun σ ρ=>EC n σ.1.1) kA)⟩:=Tf (eH n) fun σ ρ y h=>Db tys_ok (tm n) mixed (hint:=Vi n) (n:=n) Tryz.func132 (wa (GE n)) (la (φ:=fun y=>some (kA y)) (by kernel_rfl) (SJ n σ.1.1 _) h)
def ew (n:Nat):List Entry:=⟨132,yh,none,some (fO HC GC (fun σ ρ=>EC n σ.1.1) kA)⟩::Qf n
theorem Rs (n:Nat):AllOk Tryz.prog gl (ew n):=.cons (OI n) (tm n)
def gA (n:Nat) {R:Type} (s:(Sq BA)) (k:(Bool×Unit)→Option R):Option R:=(EC n s).bind fun v=>k ((decide (v.1≥(0:Int))),())
def Qy (n:Nat) (s:(Sq BA)):Option (Bool×Unit):=gA n s some
theorem QJ (n:Nat) {S:Type}:∀ s (φ:_→Option S),(Qy n s).bind φ=gA n s φ:=by
  intros;unfold Qy gA;first | (simp only [fa,ba,iB,bB,oL,oX,nB,Option.bind_some]) | rfl
def cw (n:Nat):Hint OutS:={ live:=fun c=>[],run:=fun c=>none,xm:=fun c q=>none }
theorem EE (n:Nat):oa tys (ea OutS (ew n)) (cw n) n (aa Tryz.f106) 0:=ja (fun _=>rfl) _ _ (by kernel_rfl)
theorem bH (n:Nat):Enters Tryz.prog 106:=enters_of (c:=aa Tryz.f106) Tryz.func106 (by kernel_rfl) (by kernel_rfl)
def BC:List RSp:=[.one (.dat (.sl .str)),.one (.fnc 107)]
def AC:List RS:=[]
def cH:List Sl:=[.top,.top]
def dH:List RSp:=[.one (.dat .bool)]
def Ml:List RS:=[]
def iA (y:(Bool×Unit)):OutS:=⟨false,yk (Bd Ml ()) cH (),Sy (Rx (Bd Ml ()) dH ((y.1,()),())),nq (Bd Ml ()) Ml ()⟩
theorem NI (n:Nat):EntryOk Tryz.prog gl ⟨106,yh,none,some (fO BC AC (fun σ ρ=>Qy n σ.1.1) iA)⟩:=Tf (bH n) fun σ ρ y h=>Db tys_ok (Rs n) mixed (hint:=cw n) (n:=n) Tryz.func106 (wa (EE n)) (la (φ:=fun y=>some (iA y)) (by kernel_rfl) (QJ n σ.1.1 _) h)
def Sk (n:Nat):List Entry:=⟨106,yh,none,some (fO BC AC (fun σ ρ=>Qy n σ.1.1) iA)⟩::ew n
theorem Qs (n:Nat):AllOk Tryz.prog gl (Sk n):=.cons (NI n) (Rs n)
def Uo (n:Nat) {R:Type} (n0:Int) (t5:(Sq BA)) (t6 t7:Int) (kn:Int→(Sq BA)→Int→Int→Option R) (ko:(Int)→Option R) (kr:Unit→Option R) (kp:Int→Option R):Option R:=if (decide (t7<t6))=true then if 0≤t7∧t7<(t5.n:Int) then kn (IntKind.wrap .i64 (n0+(IntKind.wrap .i64 (((t5.at' (Int.toNat t7)).size:Int)+(2:Int))))) t5 t6 (IntKind.wrap .i64 (t7+(1:Int))) else none else ko n0
def ue (n:Nat):Nat→Int→(Sq BA)→Int→Int→Option (Lx (Int) Unit)
 | 0,_,_,_,_=>none
 | m+1,n0,t5,t6,t7=>Uo n n0 t5 t6 t7 (ue n m) (fun a=>some (.out a)) (fun a=>some (.ret a)) (fun p=>some (.pan p))
theorem ZD (n m:Nat) {S:Type}:∀ n0 t5 t6 t7 (φ:_→Option S),(ue n (m+1) n0 t5 t6 t7).bind φ=Uo n n0 t5 t6 t7 (fun n0 t5 t6 t7=>(ue n m n0 t5 t6 t7).bind φ) (fun a=>φ (.out a)) (fun a=>φ (.ret a)) (fun p=>φ (.pan p)):=by
  intros;first | (simp only [ue,Uo,fa,ba,iB,bB,oL,oX,nB,Option.bind_some]) | rfl
def ik:List Sl:=.top::.top::.dat (.int .i64)::.top::.top::.dat (.sl .str)::.dat (.int .i64)::.dat (.int .i64)::tp 10 []
def fk:List RS:=[]
def ot:List Sl:=.top::.top::.dat (.int .i64)::tp 15 []
def nt:List RS:=[]
def Zc (K:XE→List AV→ia→Option Out):Lx (Int) Unit→Option Out:=fun x=>zO x (fun a=>Bm ot nt (a,()) () (K (.exit 0))) (fun _=>none) (fun _=>none)
def Mz (n:Nat) {R:Type} (l:(Sq BA)) (k:Int→Option R):Option R:=(ue n n (0:Int) l (l.n:Int) (0:Int)).bind fun x_1=>zO x_1 (fun a_2=>k a_2) (fun _=>none) (fun _=>none)
def Ey (n:Nat) (l:(Sq BA)):Option Int:=Mz n l some
theorem zJ (n:Nat) {S:Type}:∀ l (φ:_→Option S),(Ey n l).bind φ=Mz n l φ:=by
  intros;unfold Ey Mz;first | (simp only [fa,ba,iB,bB,oL,oX,nB,Option.bind_some]) | rfl
def Qi (n:Nat):Hint Out:={ live:=fun c=>(cond (Nat.beq c 0) [(2,none),(5,some (.sl .str)),(6,none),(7,none)] []),run:=fun c=>(cond (Nat.beq c 0) (some (ou ik fk fun σ ρ K=>(ue n n σ.1 σ.2.1 σ.2.2.1 σ.2.2.2.1).bind (Zc K))) none),xm:=fun c q=>(cond (Nat.beq c 0&&Nat.beq (q.getD 1000000) 0&&q.isSome) (some [(2,none)]) none) }
def Pi (n:Nat) (K:XE→List AV→ia→Option Out) (m:Nat) (n0:Int) (t5:(Sq BA)) (t6:Int) (t7:Int):Option Out:=xh tys (ea Out (Sk n)) (Qi n) n (za [1,0,1,0,0] (aa Tryz.f109)) 0 ik fk K m (n0,(t5,(t6,(t7,())))) ()
theorem zv (n:Nat) (K:XE→List AV→ia→Option Out):∀ (m:Nat) n0 t5 t6 t7,Pi n K m n0 t5 t6 t7=(ue n m n0 t5 t6 t7).bind (Zc K)
  | 0,_,_,_,_=>by kernel_rfl
  | m+1,n0,t5,t6,t7=>by
    have h1:Pi n K (m+1) n0 t5 t6 t7=Uo n n0 t5 t6 t7 (Pi n K m) (fun a=>Zc K (.out a)) (fun a=>Zc K (.ret a)) (fun p=>Zc K (.pan p)):=by kernel_rfl
    have h2:Pi n K m=fun n0 t5 t6 t7=>(ue n m n0 t5 t6 t7).bind (Zc K):=by
      repeat (refine funext fun _=>?_)
      exact zv n K m _ _ _ _
    rw [h1,h2];exact (ZD n m _ _ _ _ (Zc K)).symm
theorem NB (n:Nat):bf tys (ea Out (Sk n)) (Qi n) n (za [1,0,1,0,0] (aa Tryz.f109)) 0:=Ua (sp:=ik) (rp:=fk) (by kernel_rfl) fun K σ ρ=>zv n K n σ.1 σ.2.1 σ.2.2.1 σ.2.2.2.1
theorem aE (n:Nat):oa tys (ea Out (Sk n)) (Qi n) n (aa Tryz.f109) 0:=⟨trivial,⟨⟨trivial,⟨NB n,⟨trivial,⟨⟨trivial,trivial⟩,⟨⟨trivial,trivial⟩,trivial⟩⟩⟩⟩⟩,⟨trivial,trivial⟩⟩⟩
theorem IG (n:Nat):Enters Tryz.prog 109:=enters_of (c:=aa Tryz.f109) Tryz.func109 (by kernel_rfl) (by kernel_rfl)
def OB (n:Nat):Entry:=⟨109,EO (.pair (.sl .str) .unit) (.one (.int .i64)) (fun xs=>Ey n xs.1),none,none⟩
theorem XH (n:Nat):EntryOk Tryz.prog gl (OB n):=ua (IG n) fun xs y h=>ma tys_ok (Qs n) mixed (hint:=Qi n) (n:=n) Tryz.func109 (wa (aE n)) (la (φ:=(fun y=>some (Out.ret (Ab (.one (.int .i64)) y)))) (by kernel_rfl) (zJ n xs.1 _) h)
def Av (n:Nat):List Entry:=OB n::Sk n
theorem Es (n:Nat):AllOk Tryz.prog gl (Av n):=.cons (XH n) (Qs n)
def Wo (n:Nat) {R:Type} (c:T0) (k:Bool→Option R):Option R:=if (c.2.2.2.2.1 !=(4:Int))=false then if c.2.2.2.2.2.2.2.2.2.2.2.1=true then if ((c.2.2.2.2.2.2.2.2.2.1.n:Int)==(0:Int))=true then if (c.2.2.2.2.2.2.2.2.2.2.1==(0:Int))=true then if (!c.2.2.2.2.2.2.2.2.2.2.2.1)=false then k (c.2.2.2.2.1==(4:Int)) else k true else k false else k false else (Qy n c.2.2.2.2.2.2.2.2.2.1).bind fun v=>if (!v.1)=true then GH ((Ey n c.2.2.2.2.2.2.2.2.2.1).bind fun v1=>if (c.2.2.2.2.2.2.2.2.2.2.1==v1)=true then k (decide (c.2.2.2.2.2.2.2.2.2.2.1≤(8192:Int))) else k false) (hO 1 ((Ey n c.2.2.2.2.2.2.2.2.2.1).bind fun v2=>if (c.2.2.2.2.2.2.2.2.2.2.1==v2)=true then k (decide (c.2.2.2.2.2.2.2.2.2.2.1≤(8192:Int))) else k false)) else GH (k false) (hO 1 (k false)) else if ((c.2.2.2.2.2.2.2.2.2.1.n:Int)==(0:Int))=true then if (c.2.2.2.2.2.2.2.2.2.2.1==(0:Int))=true then if (!c.2.2.2.2.2.2.2.2.2.2.2.1)=false then k (c.2.2.2.2.1==(4:Int)) else k true else k false else k false
def jk (n:Nat) (c:T0):Option Bool:=Wo n c some
theorem AJ (n:Nat) {S:Type}:∀ c (φ:_→Option S),(jk n c).bind φ=Wo n c φ:=by
  intros;unfold jk Wo;first | (simp only [fa,ba,iB,bB,oL,oX,nB,Option.bind_some]) | rfl
def Ev (n:Nat):Hint Out:={ live:=fun c=>[],run:=fun c=>none,xm:=fun c q=>none,sch:=fun c=>(cond (Nat.beq c 3) (some [(0,0),(1,1),(2,2),(3,0),(4,0),(5,0),(7,0),(6,5),(8,7),(9,7),(10,6),(11,6),(12,6),(13,6),(14,7),(15,6),(16,6),(17,6)]) none) }
theorem cE (n:Nat):oa tys (ea Out (Av n)) (Ev n) n (aa Tryz.f76) 0:=ja (fun _=>rfl) _ _ (by kernel_rfl)
theorem LG (n:Nat):Enters Tryz.prog 76:=enters_of (c:=aa Tryz.f76) Tryz.func76 (by kernel_rfl) (by kernel_rfl)
def RB (n:Nat):Entry:=⟨76,EO K1 (.one .bool) (fun xs=>jk n xs.1),none,none⟩
theorem YH (n:Nat):EntryOk Tryz.prog gl (RB n):=ua (LG n) fun xs y h=>ma tys_ok (Es n) mixed (hint:=Ev n) (n:=n) Tryz.func76 (wa (cE n)) (la (φ:=(fun y=>some (Out.ret (Ab (.one .bool) y)))) (by kernel_rfl) (AJ n xs.1 _) h)
def Dv (n:Nat):List Entry:=RB n::Av n
theorem Fs (n:Nat):AllOk Tryz.prog gl (Dv n):=.cons (YH n) (Es n)
def jv (n:Nat) {R:Type} (c:T0) (k:Bool→Option R):Option R:=(Ed n c.1 (1:Int) (1099511627776:Int)).bind fun v=>if (!v)=false then (Ed n c.2.1 (0:Int) (3:Int)).bind fun v1=>if (!v1)=false then (Ed n c.2.2.1 (0:Int) (1099511627776:Int)).bind fun v2=>if (!v2)=false then (Ak n c.2.2.2.1).bind fun v3=>if (!v3)=false then (Ed n c.2.2.2.2.1 (0:Int) (5:Int)).bind fun v4=>if (!v4)=true then k false else if (c.2.2.2.2.2.1.toList==(⟨#[]⟩:BA).toList)=true then if (c.2.2.2.2.1 !=(0:Int))=true then if (c.2.2.2.2.1 !=(5:Int))=false then if (!(c.2.2.2.2.2.1.toList==(⟨#[]⟩:BA).toList))=true then if (c.2.2.2.2.1==(0:Int))=false then (Ud n c.2.2.2.2.2.1).bind fun v5=>if (!v5)=true then k false else (Sa n c).bind fun v6=>if v6=true then (jk n c).bind fun v7=>k v7 else k false else k false else (Sa n c).bind fun v8=>if v8=true then (jk n c).bind fun v9=>k v9 else k false else k false else if (!(c.2.2.2.2.2.1.toList==(⟨#[]⟩:BA).toList))=true then if (c.2.2.2.2.1==(0:Int))=false then (Ud n c.2.2.2.2.2.1).bind fun v10=>if (!v10)=true then k false else (Sa n c).bind fun v11=>if v11=true then (jk n c).bind fun v12=>k v12 else k false else k false else (Sa n c).bind fun v13=>if v13=true then (jk n c).bind fun v14=>
 k v14 else k false else if (!(c.2.2.2.2.2.1.toList==(⟨#[]⟩:BA).toList))=true then if (c.2.2.2.2.1==(0:Int))=false then (Ud n c.2.2.2.2.2.1).bind fun v15=>if (!v15)=true then k false else (Sa n c).bind fun v16=>if v16=true then (jk n c).bind fun v17=>k v17 else k false else k false else (Sa n c).bind fun v18=>if v18=true then (jk n c).bind fun v19=>k v19 else k false else k false else k false else k false else k false
def xB (n:Nat) (c:T0):Option Bool:=jv n c some
theorem MK (n:Nat) {S:Type}:∀ c (φ:_→Option S),(xB n c).bind φ=jv n c φ:=by
  intros;unfold xB jv;first | (simp only [fa,ba,iB,bB,oL,oX,nB,Option.bind_some]) | rfl
def Ay (n:Nat):Hint Out:={ live:=fun c=>[],run:=fun c=>none,xm:=fun c q=>none }
theorem BG (n:Nat):oa tys (ea Out (Dv n)) (Ay n) n (aa Tryz.f40) 0:=ja (fun _=>rfl) _ _ (by kernel_rfl)
theorem TH (n:Nat):Enters Tryz.prog 40:=enters_of (c:=aa Tryz.f40) Tryz.func40 (by kernel_rfl) (by kernel_rfl)
def sF (n:Nat):Entry:=⟨40,EO K1 (.one .bool) (fun xs=>xB n xs.1),none,none⟩
theorem wJ (n:Nat):EntryOk Tryz.prog gl (sF n):=ua (TH n) fun xs y h=>ma tys_ok (Fs n) mixed (hint:=Ay n) (n:=n) Tryz.func40 (wa (BG n)) (la (φ:=(fun y=>some (Out.ret (Ab (.one .bool) y)))) (by kernel_rfl) (MK n xs.1 _) h)
def tF (n:Nat):List Entry:=sF n::Dv n
theorem SD (n:Nat):AllOk Tryz.prog gl (tF n):=.cons (wJ n) (Fs n)
def Ya (n:Nat):List Entry:=Xa::tF n
theorem Xb (n:Nat):AllOk Tryz.prog gl (Ya n):=.cons Ac (SD n)
def Za (n:Nat):List Entry:=Yb::Ya n
theorem zb (n:Nat):AllOk Tryz.prog gl (Za n):=.cons Pe (Xb n)
def Wh (n:Nat) {R:Type} (c:T0) (k:U1→Option R):Option R:=hO 1 ((ap 32 c.2.2.2.2.2.2.2.2.1).bind fun v=>(ap 16 c.2.2.2.2.2.2.2.2.2.1).bind fun v1=>k (c.1,(c.2.1,(c.2.2.1,(c.2.2.2.1.1,(c.2.2.2.1.2.1,(c.2.2.2.2.1,(c.2.2.2.2.2.1,(c.2.2.2.2.2.2.1,(c.2.2.2.2.2.2.2.1.1,(c.2.2.2.2.2.2.2.1.2.1,(c.2.2.2.2.2.2.2.2.2.2.1,(c.2.2.2.2.2.2.2.2.2.2.2.1,(v.1,(v1.1,())))))))))))))))
def tf (n:Nat) (c:T0):Option U1:=Wh n c some
theorem DG (n:Nat) {S:Type}:∀ c (φ:_→Option S),(tf n c).bind φ=Wh n c φ:=by
  intros;unfold tf Wh;first | (simp only [fa,ba,iB,bB,oL,oX,nB,Option.bind_some]) | rfl
def Lo (n:Nat):Hint OutS:={ live:=fun c=>[],run:=fun c=>none,xm:=fun c q=>none,sch:=fun c=>(cond (Nat.beq c 1) (some [(0,0),(3,0),(1,1),(2,5),(4,7),(5,2),(6,6),(7,2),(8,6),(9,2)]) none),pr:=[(0,10,47),(0,11,9)] }
theorem Hz (n:Nat):oa tys (ea OutS (Za n)).keep (Lo n) n (aa Tryz.f42) 0:=ja (fun _=>rfl) _ _ (by kernel_rfl)
theorem BB (n:Nat):Enters Tryz.prog 42:=enters_of (c:=aa Tryz.f42) Tryz.func42 (by kernel_rfl) (by kernel_rfl)
def sv:List RSp:=[.one (.dat K0)]
def qv:List RS:=[]
def CB:List Sl:=[.top]
def DB:List RSp:=[.agg [.dat (.int .i64),.dat (.int .i64),.dat (.int .i64),.dat .str,.dat .bool,.dat (.int .i64),.dat .str,.dat .bool,.dat .str,.dat .str,.row 0,.row 1,.dat (.int .i64),.dat .bool]]
def ug:List RS:=[.row 47 2 (.pair .str (.pair .str .unit)) true true,.row 9 1 .str true true]
def Aq (y:U1):OutS:=⟨false,yk (Bd ug (y.2.2.2.2.2.2.2.2.2.2.2.2.1,(y.2.2.2.2.2.2.2.2.2.2.2.2.2.1,()))) CB (),Sy (Rx (Bd ug (y.2.2.2.2.2.2.2.2.2.2.2.2.1,(y.2.2.2.2.2.2.2.2.2.2.2.2.2.1,()))) DB ((y.1,(y.2.1,(y.2.2.1,(y.2.2.2.1,(y.2.2.2.2.1,(y.2.2.2.2.2.1,(y.2.2.2.2.2.2.1,(y.2.2.2.2.2.2.2.1,(y.2.2.2.2.2.2.2.2.1,(y.2.2.2.2.2.2.2.2.2.1,(y.2.2.2.2.2.2.2.2.2.2.1,(y.2.2.2.2.2.2.2.2.2.2.2.1,())))))))))))),())),nq (Bd ug (y.2.2.2.2.2.2.2.2.2.2.2.2.1,(y.2.2.2.2.2.2.2.2.2.2.2.2.2.1,()))) ug (y.2.2.2.2.2.2.2.2.2.2.2.2.1,(y.2.2.2.2.2.2.2.2.2.2.2.2.2.1,()))⟩
theorem UD (n:Nat):EntryOk Tryz.prog gl ⟨42,yh,none,some (fO sv qv (fun σ ρ=>tf n σ.1.1) Aq)⟩:=Tf (BB n) fun σ ρ y h=>Sm tys_ok (zb n) mixed (hint:=Lo n) (n:=n) Tryz.func42 (wa (Hz n)) (la (φ:=fun y=>some (Aq y)) (by kernel_rfl) (DG n σ.1.1 _) h)
def Zm (n:Nat):List Entry:=⟨42,yh,none,some (fO sv qv (fun σ ρ=>tf n σ.1.1) Aq)⟩::Za n
theorem rm (n:Nat):AllOk Tryz.prog gl (Zm n):=.cons (UD n) (zb n)
def bg (n:Nat) {R:Type} (s prefix0:BA) (k:BA→Option R):Option R:=(ve n s prefix0).bind fun v=>if v=true then if 0≤(prefix0.size:Int)∧(prefix0.size:Int)≤(s.size:Int) then k (s.extract (Int.toNat (prefix0.size:Int)) (Int.toNat (s.size:Int))) else none else k s
def vf (n:Nat) (s prefix0:BA):Option BA:=bg n s prefix0 some
theorem Rv (n:Nat) {S:Type}:∀ s prefix0 (φ:_→Option S),(vf n s prefix0).bind φ=bg n s prefix0 φ:=by
  intros;unfold vf bg;first | (simp only [fa,ba,iB,bB,oL,oX,nB,Option.bind_some]) | rfl
def Dg (n:Nat):Hint Out:={ live:=fun c=>[],run:=fun c=>none,xm:=fun c q=>none }
theorem pp (n:Nat):oa tys (ea Out (Zm n)) (Dg n) n (aa Tryz.f119) 0:=ja (fun _=>rfl) _ _ (by kernel_rfl)
theorem Yq (n:Nat):Enters Tryz.prog 119:=enters_of (c:=aa Tryz.f119) Tryz.func119 (by kernel_rfl) (by kernel_rfl)
def zj (n:Nat):Entry:=⟨119,EO (.pair .str (.pair .str .unit)) (.one .str) (fun xs=>vf n xs.1 xs.2.1),none,none⟩
theorem At (n:Nat):EntryOk Tryz.prog gl (zj n):=ua (Yq n) fun xs y h=>ma tys_ok (rm n) mixed (hint:=Dg n) (n:=n) Tryz.func119 (wa (pp n)) (la (φ:=(fun y=>some (Out.ret (Ab (.one .str) y)))) (by kernel_rfl) (Rv n xs.1 xs.2.1 _) h)
def Ne (n:Nat):List Entry:=zj n::Zm n
theorem cg (n:Nat):AllOk Tryz.prog gl (Ne n):=.cons (At n) (rm n)
def mg (n:Nat) {R:Type} (s prefix0:BA) (k:BA→Option R):Option R:=(vf n s prefix0).bind fun v=>k v
def qa (n:Nat) (s prefix0:BA):Option BA:=mg n s prefix0 some
theorem pw (n:Nat) {S:Type}:∀ s prefix0 (φ:_→Option S),(qa n s prefix0).bind φ=mg n s prefix0 φ:=by
  intros;unfold qa mg;first | (simp only [fa,ba,iB,bB,oL,oX,nB,Option.bind_some]) | rfl
def Sg (n:Nat):Hint Out:={ live:=fun c=>[],run:=fun c=>none,xm:=fun c q=>none }
theorem Pp (n:Nat):oa tys (ea Out (Ne n)) (Sg n) n (aa Tryz.f90) 0:=ja (fun _=>rfl) _ _ (by kernel_rfl)
theorem zr (n:Nat):Enters Tryz.prog 90:=enters_of (c:=aa Tryz.f90) Tryz.func90 (by kernel_rfl) (by kernel_rfl)
def Cj (n:Nat):Entry:=⟨90,EO (.pair .str (.pair .str .unit)) (.one .str) (fun xs=>qa n xs.1 xs.2.1),none,none⟩
theorem Pt (n:Nat):EntryOk Tryz.prog gl (Cj n):=ua (zr n) fun xs y h=>ma tys_ok (cg n) mixed (hint:=Sg n) (n:=n) Tryz.func90 (wa (Pp n)) (la (φ:=(fun y=>some (Out.ret (Ab (.one .str) y)))) (by kernel_rfl) (pw n xs.1 xs.2.1 _) h)
def Qe (n:Nat):List Entry:=Cj n::Ne n
theorem ng (n:Nat):AllOk Tryz.prog gl (Qe n):=.cons (Pt n) (cg n)
def ln (n:Nat) {R:Type} (line:BA) (k:(BA×Bool×Unit)→Option R):Option R:=if (line.toList==(⟨#[46]⟩:BA).toList)=true then k ((⟨#[]⟩:BA),(true,())) else (qa n line (⟨#[46]⟩:BA)).bind fun v=>k (v,(false,()))
def ep (n:Nat) (line:BA):Option (BA×Bool×Unit):=ln n line some
theorem mE (n:Nat) {S:Type}:∀ line (φ:_→Option S),(ep n line).bind φ=ln n line φ:=by
  intros;unfold ep ln;first | (simp only [fa,ba,iB,bB,oL,oX,nB,Option.bind_some]) | rfl
def vm (n:Nat):Hint Out:={ live:=fun c=>[],run:=fun c=>none,xm:=fun c q=>none }
theorem Px (n:Nat):oa tys (ea Out (Qe n)) (vm n) n (aa Tryz.f56) 0:=ja (fun _=>rfl) _ _ (by kernel_rfl)
theorem Sz (n:Nat):Enters Tryz.prog 56:=enters_of (c:=aa Tryz.f56) Tryz.func56 (by kernel_rfl) (by kernel_rfl)
def Is (n:Nat):Entry:=⟨56,EO (.pair .str .unit) (.many (.pair .str (.pair .bool .unit))) (fun xs=>ep n xs.1),none,none⟩
theorem YB (n:Nat):EntryOk Tryz.prog gl (Is n):=ua (Sz n) fun xs y h=>ma tys_ok (ng n) mixed (hint:=vm n) (n:=n) Tryz.func56 (wa (Px n)) (la (φ:=(fun y=>some (Out.ret (Ab (.many (.pair .str (.pair .bool .unit))) y)))) (by kernel_rfl) (mE n xs.1 _) h)
def wk (n:Nat):List Entry:=Is n::Qe n
theorem xk (n:Nat):AllOk Tryz.prog gl (wk n):=.cons (YB n) (ng n)
def rh (n:Nat) {R:Type} (c c1 c2:Int) (c3:BA) (c4:Bool) (c5:Int) (c6:BA) (c7:Bool) (c8 c9:BA) (c10:Int) (c11:Bool) (l:U4) (r0:(Sq U0)) (r1:(Sq BA)) (k:(T0×BA×Unit)→Option R):Option R:=(ep n l.1).bind fun v=>if v.2.1=true then if (!l.2.1)=true then k ((c,(c1,(c2,((c3,(c4,())),(c5,(c6,(c7,((c8,(c9,())),(r0,(r1,(c10,(c11,())))))))))))),((⟨#[115,101,110,100]⟩:BA),())) else if c11=true then k ((c,(c1,(c2,((c3,(c4,())),(c5,(c6,(c7,((c8,(c9,())),(r0,(r1,(c10,(c11,())))))))))))),((⟨#[]⟩:BA),())) else if l.2.1=false then (Yh n v.1).bind fun v1=>if (!v1)=false then if (decide ((IntKind.wrap .i64 ((IntKind.wrap .i64 (c10+(v.1.size:Int)))+(2:Int)))>(8192:Int)))=true then k ((c,(c1,(c2,((c3,(c4,())),(c5,(c6,(c7,((c8,(c9,())),(r0,((⟨0,fun _=>pa .str⟩:Sq BA),((0:Int),(true,())))))))))))),((⟨#[]⟩:BA),())) else if cd (r1.n+1) 16=true then k ((c,(c1,(c2,((c3,(c4,())),(c5,(c6,(c7,((c8,(c9,())),(r0,((⟨(r1.n+1),fun q=>if q<r1.n then r1.at' q else (fun q=>List.getD (α:=BA) [v.1] q (pa .str)) (q - r1.n)⟩:Sq BA),((IntKind.wrap .i64 ((IntKind.wrap .i64 (c10+(v.1.size:Int)))+(2:Int))),(c11,())))))))))))),((⟨#[]⟩:BA),())) else none else k ((c,(c1,(c2,((c3,(c4,())),(c5,(c6,(c7,((c8,(c9,())),(r0,((⟨0,fun _=>pa .str⟩:Sq BA),((0:Int),(true,())))))))))))),((⟨#[]⟩:BA),()))
 else k ((c,(c1,(c2,((c3,(c4,())),(c5,(c6,(c7,((c8,(c9,())),(r0,((⟨0,fun _=>pa .str⟩:Sq BA),((0:Int),(true,())))))))))))),((⟨#[]⟩:BA),())) else if c11=true then k ((c,(c1,(c2,((c3,(c4,())),(c5,(c6,(c7,((c8,(c9,())),(r0,(r1,(c10,(c11,())))))))))))),((⟨#[]⟩:BA),())) else if l.2.1=false then (Yh n v.1).bind fun v2=>if (!v2)=false then if (decide ((IntKind.wrap .i64 ((IntKind.wrap .i64 (c10+(v.1.size:Int)))+(2:Int)))>(8192:Int)))=true then k ((c,(c1,(c2,((c3,(c4,())),(c5,(c6,(c7,((c8,(c9,())),(r0,((⟨0,fun _=>pa .str⟩:Sq BA),((0:Int),(true,())))))))))))),((⟨#[]⟩:BA),())) else if cd (r1.n+1) 16=true then k ((c,(c1,(c2,((c3,(c4,())),(c5,(c6,(c7,((c8,(c9,())),(r0,((⟨(r1.n+1),fun q=>if q<r1.n then r1.at' q else (fun q=>List.getD (α:=BA) [v.1] q (pa .str)) (q - r1.n)⟩:Sq BA),((IntKind.wrap .i64 ((IntKind.wrap .i64 (c10+(v.1.size:Int)))+(2:Int))),(c11,())))))))))))),((⟨#[]⟩:BA),())) else none else k ((c,(c1,(c2,((c3,(c4,())),(c5,(c6,(c7,((c8,(c9,())),(r0,((⟨0,fun _=>pa .str⟩:Sq BA),((0:Int),(true,())))))))))))),((⟨#[]⟩:BA),())) else k ((c,(c1,(c2,((c3,(c4,())),(c5,(c6,(c7,((c8,(c9,())),(r0,((⟨0,fun _=>pa .str⟩:Sq BA),((0:Int),(true,())))))))))))),((⟨#[]⟩:BA),()))
def td (n:Nat) (c c1 c2:Int) (c3:BA) (c4:Bool) (c5:Int) (c6:BA) (c7:Bool) (c8 c9:BA) (c10:Int) (c11:Bool) (l:U4) (r0:(Sq U0)) (r1:(Sq BA)):Option (T0×BA×Unit):=rh n c c1 c2 c3 c4 c5 c6 c7 c8 c9 c10 c11 l r0 r1 some
theorem Dx (n:Nat) {S:Type}:∀ c c1 c2 c3 c4 c5 c6 c7 c8 c9 c10 c11 l r0 r1 (φ:_→Option S),(td n c c1 c2 c3 c4 c5 c6 c7 c8 c9 c10 c11 l r0 r1).bind φ=rh n c c1 c2 c3 c4 c5 c6 c7 c8 c9 c10 c11 l r0 r1 φ:=by
  intros;unfold td rh;first | (simp only [fa,ba,iB,bB,oL,oX,nB,Option.bind_some]) | rfl
def Xh (n:Nat):Hint OutS:={ live:=fun c=>[],run:=fun c=>none,xm:=fun c q=>none,fz:=true }
theorem Jq (n:Nat):oa tys (ea OutS (wk n)) (Xh n) n (aa Tryz.f77) 0:=ja (fun _=>rfl) _ _ (by kernel_rfl)
theorem qt (n:Nat):Enters Tryz.prog 77:=enters_of (c:=aa Tryz.f77) Tryz.func77 (by kernel_rfl) (by kernel_rfl)
def qk:List RSp:=[.agg [.dat (.int .i64),.dat (.int .i64),.dat (.int .i64),.dat .str,.dat .bool,.dat (.int .i64),.dat .str,.dat .bool,.dat .str,.dat .str,.row 0,.row 1,.dat (.int .i64),.dat .bool],.one (.dat (.pair .str (.pair .bool .unit)))]
def nk:List RS:=[.row 47 2 (.pair .str (.pair .str .unit)) true true,.row 9 1 .str true true]
def rt:List Sl:=[.top,.top]
def tt:List RSp:=[.one (.dat K0),.one (.dat .str)]
def Sc:List RS:=[]
def sh (y:(T0×BA×Unit)):OutS:=⟨false,yk (Bd Sc ()) rt (),Sy (Rx (Bd Sc ()) tt ((y.1,()),((y.2.1,()),()))),nq (Bd Sc ()) Sc ()⟩
theorem Fv (n:Nat):EntryOk Tryz.prog gl ⟨77,yh,none,some (fO qk nk (fun σ ρ=>td n σ.1.1 σ.1.2.1 σ.1.2.2.1 σ.1.2.2.2.1 σ.1.2.2.2.2.1 σ.1.2.2.2.2.2.1 σ.1.2.2.2.2.2.2.1 σ.1.2.2.2.2.2.2.2.1 σ.1.2.2.2.2.2.2.2.2.1 σ.1.2.2.2.2.2.2.2.2.2.1 σ.1.2.2.2.2.2.2.2.2.2.2.1 σ.1.2.2.2.2.2.2.2.2.2.2.2.1 σ.2.1.1 ρ.1 ρ.2.1) sh)⟩:=Tf (qt n) fun σ ρ y h=>Db tys_ok (xk n) mixed (hint:=Xh n) (n:=n) Tryz.func77 (wa (Jq n)) (la (φ:=fun y=>some (sh y)) (by kernel_rfl) (Dx n σ.1.1 σ.1.2.1 σ.1.2.2.1 σ.1.2.2.2.1 σ.1.2.2.2.2.1 σ.1.2.2.2.2.2.1 σ.1.2.2.2.2.2.2.1 σ.1.2.2.2.2.2.2.2.1 σ.1.2.2.2.2.2.2.2.2.1 σ.1.2.2.2.2.2.2.2.2.2.1 σ.1.2.2.2.2.2.2.2.2.2.2.1 σ.1.2.2.2.2.2.2.2.2.2.2.2.1 σ.2.1.1 ρ.1 ρ.2.1 _) h)
def Rf (n:Nat):List Entry:=⟨77,yh,none,some (fO qk nk (fun σ ρ=>td n σ.1.1 σ.1.2.1 σ.1.2.2.1 σ.1.2.2.2.1 σ.1.2.2.2.2.1 σ.1.2.2.2.2.2.1 σ.1.2.2.2.2.2.2.1 σ.1.2.2.2.2.2.2.2.1 σ.1.2.2.2.2.2.2.2.2.1 σ.1.2.2.2.2.2.2.2.2.2.1 σ.1.2.2.2.2.2.2.2.2.2.2.1 σ.1.2.2.2.2.2.2.2.2.2.2.2.1 σ.2.1.1 ρ.1 ρ.2.1) sh)⟩::wk n
theorem wg (n:Nat):AllOk Tryz.prog gl (Rf n):=.cons (Fv n) (xk n)
end
end Go.Proofs.YtddefjokgaajfaaGreatDoor.AM
