/- Typed functions that tell what the Go functions of this seat answer, and proofs of it, by program (gen.py). -/
import Derived.Test.YtddefjokgaajfaaGreatDoorUT
import Derived.Test.YtddefjokgaajfaaGreatDoorUB
import Derived.Test.YtddefjokgaajfaaGreatDoorUL
import Derived.Test.YtddefjokgaajfaaGreatDoorUM
import Derived.Test.YtddefjokgaajfaaGreatDoorUN
set_option linter.all false
set_option linter.unusedVariables false
set_option linter.unusedSimpArgs false
set_option maxRecDepth 1000000
set_option maxHeartbeats 0
namespace Go.Proofs.YtddefjokgaajfaaGreatDoor.AM
open Go Go.RowKit
noncomputable section
abbrev K0:CTy:=(.pair (.int .i64) (.pair (.int .i64) (.pair (.int .i64) (.pair (.pair .str (.pair .bool .unit)) (.pair (.int .i64) (.pair .str (.pair .bool (.pair (.pair .str (.pair .str .unit)) (.pair (.sl (.pair .str (.pair .str .unit))) (.pair (.sl .str) (.pair (.int .i64) (.pair .bool .unit))))))))))))
abbrev K1:CTy:=(.pair K0 .unit)
abbrev K2:CTy:=(.pair (.int .i64) (.pair .str (.pair .bool (.pair (.pair .str (.pair .str .unit)) (.pair (.int .i64) .unit)))))
abbrev K3:CTy:=(.pair (.int .i64) (.pair (.int .i64) (.pair (.int .i64) (.pair (.pair .str (.pair .bool .unit)) (.pair K2 .unit)))))
abbrev K4:CTy:=(.pair K0 (.pair (.sl K3) .unit))
abbrev K5:CTy:=(.pair K4 .unit)
abbrev K6:CTy:=(.pair .str (.pair .str (.pair (.int .i64) (.pair (.int .i64) .unit))))
abbrev K7:CTy:=(.pair (.sl (.pair .str (.pair .str .unit))) (.pair (.pair .str (.pair .str .unit)) .unit))
abbrev K8:CTy:=(.pair (.pair .str (.pair .str .unit)) (.pair .bool (.pair (.int .i64) .unit)))
abbrev K9:CTy:=(.pair (.pair .str (.pair .str .unit)) (.pair .bool (.pair .str .unit)))
abbrev ZV:CTy:=(.pair K2 (.pair .bool .unit))
abbrev aW:CTy:=(.pair K2 .unit)
abbrev bW:CTy:=(.pair K2 (.pair (.int .i64) .unit))
abbrev cW:CTy:=(.pair K0 (.pair K2 .unit))
abbrev dW:CTy:=(.pair K0 (.pair (.int .i64) (.pair .str .unit)))
abbrev eW:CTy:=(.pair K0 (.pair (.int .i64) (.pair .str (.pair (.int .i64) .unit))))
abbrev fW:CTy:=(.pair K0 (.pair (.pair .str (.pair .bool .unit)) .unit))
abbrev gW:CTy:=(.pair K0 (.pair (.int .i64) .unit))
abbrev U0:Type:=(BA×(BA×Unit))
abbrev T1:Type:=(Int×(BA×(Bool×(U0×(Int×Unit)))))
abbrev U1:Type:=(Int×Int×Int×BA×Bool×Int×BA×Bool×BA×BA×Int×Bool×(Sq U0)×(Sq BA)×Unit)
abbrev U2:Type:=(Bool×Int×Int×Int×BA×Bool×Int×BA×Bool×BA×BA×(Sq U0)×(Sq BA)×Int×Bool×(Sq BA))
abbrev U5:Type:=(BA×(Bool×Unit))
abbrev T0:Type:=(Int×(Int×(Int×(U5×(Int×(BA×(Bool×(U0×((Sq U0)×((Sq BA)×(Int×(Bool×Unit))))))))))))
abbrev T2:Type:=(Int×(Int×(Int×(U5×(T1×Unit)))))
abbrev U3:Type:=(Int×Int×Int×Int×BA×Bool×Int×BA×Bool×BA×BA×(Sq U0)×(Sq BA)×Int×Bool×(Sq T2))
abbrev U4:Type:=(Int×Int×Int×BA×Bool×Int×BA×Bool×BA×BA×(Sq U0)×(Sq BA)×Int×Bool×(Sq T2))
abbrev U6:Type:=((Sq Int)×Unit)
abbrev U7:Type:=(T0×((Sq T2)×Unit))
def wT (n:Nat):List Entry:=[]
theorem eO (n:Nat):AllOk Tryz.prog gl (wT n):=.nil
def Cb (n:Nat) {R:Type} (l1:(Sq BA)) (n0 i:Int) (kn:(Sq BA)→Int→Int→Option R) (ko:(Int)→Option R) (kr:Unit→Option R) (kp:Int→Option R):Option R:=if (decide (i<(l1.n:Int)))=true then if (decide (n0<(1048576:Int)))=true then if 0≤i∧i<(l1.n:Int) then kn l1 (IntKind.wrap .i64 (n0+((l1.at' (Int.toNat i)).size:Int))) (IntKind.wrap .i64 (i+(1:Int))) else none else ko n0 else ko n0
def Ia (n:Nat):Nat→(Sq BA)→Int→Int→Option (Lx (Int) Unit)
 | 0,_,_,_=>none
 | m+1,l1,n0,i=>Cb n l1 n0 i (Ia n m) (fun a=>some (.out a)) (fun a=>some (.ret a)) (fun p=>some (.pan p))
theorem Gu (n m:Nat) {S:Type}:∀ l1 n0 i (φ:_→Option S),(Ia n (m+1) l1 n0 i).bind φ=Cb n l1 n0 i (fun l1 n0 i=>(Ia n m l1 n0 i).bind φ) (fun a=>φ (.out a)) (fun a=>φ (.ret a)) (fun p=>φ (.pan p)):=by
  intros;first | (simp only [Ia,Cb,ia,ba,iB,bB,oL,oX,nB,Option.bind_some]) | rfl
def Me:List Sl:=.dat (.sl .str)::.top::.top::.dat (.int .i64)::.dat (.int .i64)::tp 20 []
def Le:List RS:=[]
def Xl:List Sl:=.top::.top::.top::.dat (.int .i64)::tp 21 []
def Wl:List RS:=[]
def ib (K:XE→List AV→la→Option Out):Lx (Int) Unit→Option Out:=fun x=>dX x (fun a=>Zh Xl Wl (a,()) () (K (.exit 0))) (fun _=>none) (fun _=>none)
def uf (n:Nat) {R:Type} (l:(Sq BA)) (k:Int→Option R):Option R:=(Ia n n l (l.n:Int) (0:Int)).bind fun x_1=>dX x_1 (fun a_2=>k a_2) (fun _=>none) (fun _=>none)
def ae (n:Nat) (l:(Sq BA)):Option Int:=uf n l some
theorem wB (n:Nat) {S:Type}:∀ l (φ:_→Option S),(ae n l).bind φ=uf n l φ:=by
  intros;unfold ae uf;first | (simp only [ia,ba,iB,bB,oL,oX,nB,Option.bind_some]) | rfl
def rd (n:Nat):Hint Out:={ live:=fun c=>(cond (Nat.beq c 0) [(0,some (.sl .str)),(3,none),(4,none)] []),run:=fun c=>(cond (Nat.beq c 0) (some (pq Me Le fun σ ρ K=>(Ia n n σ.1 σ.2.1 σ.2.2.1).bind (ib K))) none),xm:=fun c q=>(cond (Nat.beq c 0&&Nat.beq (q.getD 1000000) 0&&q.isSome) (some [(3,none)]) none) }
def pd (n:Nat) (K:XE→List AV→la→Option Out) (m:Nat) (l1:(Sq BA)) (n0:Int) (i:Int):Option Out:=cf tys (fa Out (wT n)) (rd n) n (Ba [1,1,0,1,0,0] (aa Tryz.f83)) 0 Me Le K m (l1,(n0,(i,()))) ()
theorem tj (n:Nat) (K:XE→List AV→la→Option Out):∀ (m:Nat) l1 n0 i,pd n K m l1 n0 i=(Ia n m l1 n0 i).bind (ib K)
  | 0,_,_,_=>by kernel_rfl
  | m+1,l1,n0,i=>by
    have h1:pd n K (m+1) l1 n0 i=Cb n l1 n0 i (pd n K m) (fun a=>ib K (.out a)) (fun a=>ib K (.ret a)) (fun p=>ib K (.pan p)):=by kernel_rfl
    have h2:pd n K m=fun l1 n0 i=>(Ia n m l1 n0 i).bind (ib K):=by
      repeat (refine funext fun _=>?_)
      exact tj n K m _ _ _
    rw [h1,h2];exact (Gu n m _ _ _ (ib K)).symm
theorem Gr (n:Nat):ie tys (fa Out (wT n)) (rd n) n (Ba [1,1,0,1,0,0] (aa Tryz.f83)) 0:=La (sp:=Me) (rp:=Le) (by kernel_rfl) fun K σ ρ=>tj n K n σ.1 σ.2.1 σ.2.2.1
theorem Hu (n:Nat):ta tys (fa Out (wT n)) (rd n) n (aa Tryz.f83) 0:=⟨trivial,⟨trivial,⟨⟨trivial,⟨Gr n,⟨⟨trivial,⟨trivial,trivial⟩⟩,⟨trivial,trivial⟩⟩⟩⟩,⟨trivial,trivial⟩⟩⟩⟩
theorem qw (n:Nat):Enters Tryz.prog 83:=enters_of (c:=aa Tryz.f83) Tryz.func83 (by kernel_rfl) (by kernel_rfl)
def tm (n:Nat):Entry:=⟨83,jX (.pair (.sl .str) .unit) (.one (.int .i64)) (fun xs=>ae n xs.1),none,none⟩
theorem Dy (n:Nat):EntryOk Tryz.prog gl (tm n):=Aa (qw n) fun xs y h=>ma tys_ok (eO n) mixed (hint:=rd n) (n:=n) Tryz.func83 (Ea (Hu n)) (na (φ:=(fun y=>some (Out.ret (Qb (.one (.int .i64)) y)))) (by kernel_rfl) (wB n xs.1 _) h)
def ed (n:Nat):List Entry:=tm n::wT n
theorem vi (n:Nat):AllOk Tryz.prog gl (ed n):=.cons (Dy n) (eO n)
def Ma (n:Nat) {R:Type} (n0 i c1 c2 c3:Int) (c4:BA) (c5:Bool) (c6:Int) (c7:BA) (c8:Bool) (c9 c10:BA) (c11:(Sq U0)) (c12:(Sq BA)) (c13:Int) (c14:Bool) (kn:Int→Int→Int→Int→Int→BA→Bool→Int→BA→Bool→BA→BA→(Sq U0)→(Sq BA)→Int→Bool→Option R) (ko:(Int)→Option R) (kr:Unit→Option R) (kp:Int→Option R):Option R:=if (decide (i<(c11.n:Int)))=true then if (decide (n0<(1048576:Int)))=true then if 0≤i∧i<(c11.n:Int) then if 0≤i∧i<(c11.n:Int) then kn (IntKind.wrap .i64 ((IntKind.wrap .i64 ((IntKind.wrap .i64 (n0+(1:Int)))+((((c11.at' (Int.toNat i))).1).size:Int)))+(((((c11.at' (Int.toNat i))).2).1).size:Int))) (IntKind.wrap .i64 (i+(1:Int))) c1 c2 c3 c4 c5 c6 c7 c8 c9 c10 c11 c12 c13 c14 else none else none else ko n0 else ko n0
def za (n:Nat):Nat→Int→Int→Int→Int→Int→BA→Bool→Int→BA→Bool→BA→BA→(Sq U0)→(Sq BA)→Int→Bool→Option (Lx (Int) Unit)
 | 0,_,_,_,_,_,_,_,_,_,_,_,_,_,_,_,_=>none
 | m+1,n0,i,c1,c2,c3,c4,c5,c6,c7,c8,c9,c10,c11,c12,c13,c14=>Ma n n0 i c1 c2 c3 c4 c5 c6 c7 c8 c9 c10 c11 c12 c13 c14 (za n m) (fun a=>some (.out a)) (fun a=>some (.ret a)) (fun p=>some (.pan p))
theorem Lp (n m:Nat) {S:Type}:∀ n0 i c1 c2 c3 c4 c5 c6 c7 c8 c9 c10 c11 c12 c13 c14 (φ:_→Option S),(za n (m+1) n0 i c1 c2 c3 c4 c5 c6 c7 c8 c9 c10 c11 c12 c13 c14).bind φ=Ma n n0 i c1 c2 c3 c4 c5 c6 c7 c8 c9 c10 c11 c12 c13 c14 (fun n0 i c1 c2 c3 c4 c5 c6 c7 c8 c9 c10 c11 c12 c13 c14=>(za n m n0 i c1 c2 c3 c4 c5 c6 c7 c8 c9 c10 c11 c12 c13 c14).bind φ) (fun a=>φ (.out a)) (fun a=>φ (.ret a)) (fun p=>φ (.pan p)):=by
  intros;first | (simp only [za,Ma,ia,ba,iB,bB,oL,oX,nB,Option.bind_some]) | rfl
def Qd:List Sl:=.top::.ptr 0 0 0::.top::.dat (.int .i64)::.dat (.int .i64)::tp 52 []
def Pd:List RS:=[.box 50 14 true [.dat (.int .i64),.dat (.int .i64),.dat (.int .i64),.dat .str,.dat .bool,.dat (.int .i64),.dat .str,.dat .bool,.dat .str,.dat .str,.dat (.sl (.pair .str (.pair .str .unit))),.dat (.sl .str),.dat (.int .i64),.dat .bool]]
def Yj:List Sl:=.top::.top::.top::.dat (.int .i64)::tp 53 []
def Xj:List RS:=[]
def Qa (K:XE→List AV→la→Option Out):Lx (Int) Unit→Option Out:=fun x=>dX x (fun a=>Zh Yj Xj (a,()) () (K (.exit 0))) (fun _=>none) (fun _=>none)
def Zd (n:Nat) {R:Type} (c:T0) (k:Int→Option R):Option R:=(ae n c.2.2.2.2.2.2.2.2.2.1).bind fun v=>(za n n (IntKind.wrap .i64 ((IntKind.wrap .i64 ((IntKind.wrap .i64 ((IntKind.wrap .i64 ((c.2.2.2.2.2.1.size:Int)+(c.2.2.2.1.1.size:Int)))+v))+(c.2.2.2.2.2.2.2.1.1.size:Int)))+(c.2.2.2.2.2.2.2.1.2.1.size:Int))) (0:Int) c.1 c.2.1 c.2.2.1 c.2.2.2.1.1 c.2.2.2.1.2.1 c.2.2.2.2.1 c.2.2.2.2.2.1 c.2.2.2.2.2.2.1 c.2.2.2.2.2.2.2.1.1 c.2.2.2.2.2.2.2.1.2.1 c.2.2.2.2.2.2.2.2.1 c.2.2.2.2.2.2.2.2.2.1 c.2.2.2.2.2.2.2.2.2.2.1 c.2.2.2.2.2.2.2.2.2.2.2.1).bind fun x_1=>dX x_1 (fun a_2=>k a_2) (fun _=>none) (fun _=>none)
def vc (n:Nat) (c:T0):Option Int:=Zd n c some
theorem pw (n:Nat) {S:Type}:∀ c (φ:_→Option S),(vc n c).bind φ=Zd n c φ:=by
  intros;unfold vc Zd;first | (simp only [ia,ba,iB,bB,oL,oX,nB,Option.bind_some]) | rfl
def fc (n:Nat):Hint Out:={ live:=fun c=>(cond (Nat.beq c 0) (lv [1,3,4]) []),run:=fun c=>(cond (Nat.beq c 0) (some (pq Qd Pd fun σ ρ K=>(za n n σ.1 σ.2.1 ρ.1.1 ρ.1.2.1 ρ.1.2.2.1 ρ.1.2.2.2.1 ρ.1.2.2.2.2.1 ρ.1.2.2.2.2.2.1 ρ.1.2.2.2.2.2.2.1 ρ.1.2.2.2.2.2.2.2.1 ρ.1.2.2.2.2.2.2.2.2.1 ρ.1.2.2.2.2.2.2.2.2.2.1 ρ.1.2.2.2.2.2.2.2.2.2.2.1 ρ.1.2.2.2.2.2.2.2.2.2.2.2.1 ρ.1.2.2.2.2.2.2.2.2.2.2.2.2.1 ρ.1.2.2.2.2.2.2.2.2.2.2.2.2.2.1).bind (Qa K))) none),xm:=fun c q=>(cond (Nat.beq c 0&&Nat.beq (q.getD 1000000) 0&&q.isSome) (some [(3,none)]) none) }
def ec (n:Nat) (K:XE→List AV→la→Option Out) (m:Nat) (n0:Int) (i:Int) (c1:Int) (c2:Int) (c3:Int) (c4:BA) (c5:Bool) (c6:Int) (c7:BA) (c8:Bool) (c9:BA) (c10:BA) (c11:(Sq U0)) (c12:(Sq BA)) (c13:Int) (c14:Bool):Option Out:=cf tys (fa Out (ed n)) (fc n) n (Ba [1,1,0,1,0,0] (aa Tryz.f45)) 0 Qd Pd K m (n0,(i,())) ((c1,(c2,(c3,(c4,(c5,(c6,(c7,(c8,(c9,(c10,(c11,(c12,(c13,(c14,())))))))))))))),())
theorem Rg (n:Nat) (K:XE→List AV→la→Option Out):∀ (m:Nat) n0 i c1 c2 c3 c4 c5 c6 c7 c8 c9 c10 c11 c12 c13 c14,ec n K m n0 i c1 c2 c3 c4 c5 c6 c7 c8 c9 c10 c11 c12 c13 c14=(za n m n0 i c1 c2 c3 c4 c5 c6 c7 c8 c9 c10 c11 c12 c13 c14).bind (Qa K)
  | 0,_,_,_,_,_,_,_,_,_,_,_,_,_,_,_,_=>by kernel_rfl
  | m+1,n0,i,c1,c2,c3,c4,c5,c6,c7,c8,c9,c10,c11,c12,c13,c14=>by
    have h1:ec n K (m+1) n0 i c1 c2 c3 c4 c5 c6 c7 c8 c9 c10 c11 c12 c13 c14=Ma n n0 i c1 c2 c3 c4 c5 c6 c7 c8 c9 c10 c11 c12 c13 c14 (ec n K m) (fun a=>Qa K (.out a)) (fun a=>Qa K (.ret a)) (fun p=>Qa K (.pan p)):=by kernel_rfl
    have h2:ec n K m=fun n0 i c1 c2 c3 c4 c5 c6 c7 c8 c9 c10 c11 c12 c13 c14=>(za n m n0 i c1 c2 c3 c4 c5 c6 c7 c8 c9 c10 c11 c12 c13 c14).bind (Qa K):=by
      repeat (refine funext fun _=>?_)
      exact Rg n K m _ _ _ _ _ _ _ _ _ _ _ _ _ _ _ _
    rw [h1,h2];exact (Lp n m _ _ _ _ _ _ _ _ _ _ _ _ _ _ _ _ (Qa K)).symm
theorem Bo (n:Nat):ie tys (fa Out (ed n)) (fc n) n (Ba [1,1,0,1,0,0] (aa Tryz.f45)) 0:=La (sp:=Qd) (rp:=Pd) (by kernel_rfl) fun K σ ρ=>Rg n K n σ.1 σ.2.1 ρ.1.1 ρ.1.2.1 ρ.1.2.2.1 ρ.1.2.2.2.1 ρ.1.2.2.2.2.1 ρ.1.2.2.2.2.2.1 ρ.1.2.2.2.2.2.2.1 ρ.1.2.2.2.2.2.2.2.1 ρ.1.2.2.2.2.2.2.2.2.1 ρ.1.2.2.2.2.2.2.2.2.2.1 ρ.1.2.2.2.2.2.2.2.2.2.2.1 ρ.1.2.2.2.2.2.2.2.2.2.2.2.1 ρ.1.2.2.2.2.2.2.2.2.2.2.2.2.1 ρ.1.2.2.2.2.2.2.2.2.2.2.2.2.2.1
theorem Mp (n:Nat):ta tys (fa Out (ed n)) (fc n) n (aa Tryz.f45) 0:=⟨trivial,⟨trivial,⟨⟨trivial,⟨Bo n,⟨⟨trivial,⟨trivial,trivial⟩⟩,⟨trivial,trivial⟩⟩⟩⟩,⟨trivial,trivial⟩⟩⟩⟩
theorem Fr (n:Nat):Enters Tryz.prog 45:=enters_of (c:=aa Tryz.f45) Tryz.func45 (by kernel_rfl) (by kernel_rfl)
def sj (n:Nat):Entry:=⟨45,jX K1 (.one (.int .i64)) (fun xs=>vc n xs.1),none,none⟩
theorem Fu (n:Nat):EntryOk Tryz.prog gl (sj n):=Aa (Fr n) fun xs y h=>ma tys_ok (vi n) mixed (hint:=fc n) (n:=n) Tryz.func45 (Ea (Mp n)) (na (φ:=(fun y=>some (Out.ret (Qb (.one (.int .i64)) y)))) (by kernel_rfl) (pw n xs.1 _) h)
def Wb (n:Nat):List Entry:=sj n::ed n
theorem yg (n:Nat):AllOk Tryz.prog gl (Wb n):=.cons (Fu n) (vi n)
def Vc (n:Nat) {R:Type} (n0 i p1 p2 p3:Int) (p4:BA) (p5:Bool) (p6:Int) (p7:BA) (p8:Bool) (p9 p10:BA) (p11:(Sq U0)) (p12:(Sq BA)) (p13:Int) (p14:Bool) (p15:(Sq T2)) (kn:Int→Int→Int→Int→Int→BA→Bool→Int→BA→Bool→BA→BA→(Sq U0)→(Sq BA)→Int→Bool→(Sq T2)→Option R) (ko:U3→Option R) (kr:Unit→Option R) (kp:Int→Option R):Option R:=if (decide (i<(p15.n:Int)))=true then if (decide (n0<(1048576:Int)))=true then if 0≤i∧i<(p15.n:Int) then if 0≤i∧i<(p15.n:Int) then if 0≤i∧i<(p15.n:Int) then if 0≤i∧i<(p15.n:Int) then kn (IntKind.wrap .i64 ((IntKind.wrap .i64 ((IntKind.wrap .i64 ((IntKind.wrap .i64 ((IntKind.wrap .i64 (n0+(1:Int)))+((((((((p15.at' (Int.toNat i))).2).2).2).1).1).size:Int)))+((((((((((p15.at' (Int.toNat i))).2).2).2).2).1).2).1).size:Int)))+(((((((((((((p15.at' (Int.toNat i))).2).2).2).2).1).2).2).2).1).1).size:Int)))+((((((((((((((p15.at' (Int.toNat i))).2).2).2).2).1).2).2).2).1).2).1).size:Int))) (IntKind.wrap .i64 (i+(1:Int))) p1 p2 p3 p4 p5 p6 p7 p8 p9 p10 p11 p12 p13 p14 p15 else none else none else none else none else ko (n0,p1,p2,p3,p4,p5,p6,p7,p8,p9,p10,p11,p12,p13,p14,p15)
 else ko (n0,p1,p2,p3,p4,p5,p6,p7,p8,p9,p10,p11,p12,p13,p14,p15)
def lb (n:Nat):Nat→Int→Int→Int→Int→Int→BA→Bool→Int→BA→Bool→BA→BA→(Sq U0)→(Sq BA)→Int→Bool→(Sq T2)→Option (Lx U3 Unit)
 | 0,_,_,_,_,_,_,_,_,_,_,_,_,_,_,_,_,_=>none
 | m+1,n0,i,p1,p2,p3,p4,p5,p6,p7,p8,p9,p10,p11,p12,p13,p14,p15=>Vc n n0 i p1 p2 p3 p4 p5 p6 p7 p8 p9 p10 p11 p12 p13 p14 p15 (lb n m) (fun a=>some (.out a)) (fun a=>some (.ret a)) (fun p=>some (.pan p))
theorem AF (n m:Nat) {S:Type}:∀ n0 i p1 p2 p3 p4 p5 p6 p7 p8 p9 p10 p11 p12 p13 p14 p15 (φ:_→Option S),(lb n (m+1) n0 i p1 p2 p3 p4 p5 p6 p7 p8 p9 p10 p11 p12 p13 p14 p15).bind φ=Vc n n0 i p1 p2 p3 p4 p5 p6 p7 p8 p9 p10 p11 p12 p13 p14 p15 (fun n0 i p1 p2 p3 p4 p5 p6 p7 p8 p9 p10 p11 p12 p13 p14 p15=>(lb n m n0 i p1 p2 p3 p4 p5 p6 p7 p8 p9 p10 p11 p12 p13 p14 p15).bind φ) (fun a=>φ (.out a)) (fun a=>φ (.ret a)) (fun p=>φ (.pan p)):=by
  intros;first | (simp only [lb,Vc,ia,ba,iB,bB,oL,oX,nB,Option.bind_some]) | rfl
def ak:List Sl:=.top::.ptr 0 0 0::.top::.dat (.int .i64)::.dat (.int .i64)::tp 62 []
def Zj:List RS:=[.box 53 15 true [.dat (.int .i64),.dat (.int .i64),.dat (.int .i64),.dat .str,.dat .bool,.dat (.int .i64),.dat .str,.dat .bool,.dat .str,.dat .str,.dat (.sl (.pair .str (.pair .str .unit))),.dat (.sl .str),.dat (.int .i64),.dat .bool,.dat (.sl K3)]]
def Nu:List Sl:=.top::.ptr 0 0 0::.top::.dat (.int .i64)::tp 63 []
def Mu:List RS:=[.box 53 15 true [.dat (.int .i64),.dat (.int .i64),.dat (.int .i64),.dat .str,.dat .bool,.dat (.int .i64),.dat .str,.dat .bool,.dat .str,.dat .str,.dat (.sl (.pair .str (.pair .str .unit))),.dat (.sl .str),.dat (.int .i64),.dat .bool,.dat (.sl K3)]]
def Wc (K:XE→List AV→la→Option Out):Lx U3 Unit→Option Out:=fun x=>dX x (fun a=>Zh Nu Mu (a.1,()) ((a.2.1,(a.2.2.1,(a.2.2.2.1,(a.2.2.2.2.1,(a.2.2.2.2.2.1,(a.2.2.2.2.2.2.1,(a.2.2.2.2.2.2.2.1,(a.2.2.2.2.2.2.2.2.1,(a.2.2.2.2.2.2.2.2.2.1,(a.2.2.2.2.2.2.2.2.2.2.1,(a.2.2.2.2.2.2.2.2.2.2.2.1,(a.2.2.2.2.2.2.2.2.2.2.2.2.1,(a.2.2.2.2.2.2.2.2.2.2.2.2.2.1,(a.2.2.2.2.2.2.2.2.2.2.2.2.2.2.1,(a.2.2.2.2.2.2.2.2.2.2.2.2.2.2.2,()))))))))))))))),()) (K (.exit 0))) (fun _=>none) (fun _=>none)
def qp (n:Nat) {R:Type} (p:U7) (k:Bool→Option R):Option R:=(vc n p.1).bind fun v=>(lb n n v (0:Int) p.1.1 p.1.2.1 p.1.2.2.1 p.1.2.2.2.1.1 p.1.2.2.2.1.2.1 p.1.2.2.2.2.1 p.1.2.2.2.2.2.1 p.1.2.2.2.2.2.2.1 p.1.2.2.2.2.2.2.2.1.1 p.1.2.2.2.2.2.2.2.1.2.1 p.1.2.2.2.2.2.2.2.2.1 p.1.2.2.2.2.2.2.2.2.2.1 p.1.2.2.2.2.2.2.2.2.2.2.1 p.1.2.2.2.2.2.2.2.2.2.2.2.1 p.2.1).bind fun x_1=>dX x_1 (fun a_2=>if (decide (a_2.1>(20000:Int)))=false then k (decide ((a_2.2.2.2.2.2.2.2.2.2.2.2.2.2.2.2.n:Int)>(100:Int))) else k true) (fun _=>none) (fun _=>none)
def pp (n:Nat) (p:U7):Option Bool:=qp n p some
theorem kN (n:Nat) {S:Type}:∀ p (φ:_→Option S),(pp n p).bind φ=qp n p φ:=by
  intros;unfold pp qp;first | (simp only [ia,ba,iB,bB,oL,oX,nB,Option.bind_some]) | rfl
def vh (n:Nat):Hint Out:={ live:=fun c=>(cond (Nat.beq c 0) (lv [1,3,4]) []),run:=fun c=>(cond (Nat.beq c 0) (some (pq ak Zj fun σ ρ K=>(lb n n σ.1 σ.2.1 ρ.1.1 ρ.1.2.1 ρ.1.2.2.1 ρ.1.2.2.2.1 ρ.1.2.2.2.2.1 ρ.1.2.2.2.2.2.1 ρ.1.2.2.2.2.2.2.1 ρ.1.2.2.2.2.2.2.2.1 ρ.1.2.2.2.2.2.2.2.2.1 ρ.1.2.2.2.2.2.2.2.2.2.1 ρ.1.2.2.2.2.2.2.2.2.2.2.1 ρ.1.2.2.2.2.2.2.2.2.2.2.2.1 ρ.1.2.2.2.2.2.2.2.2.2.2.2.2.1 ρ.1.2.2.2.2.2.2.2.2.2.2.2.2.2.1 ρ.1.2.2.2.2.2.2.2.2.2.2.2.2.2.2.1).bind (Wc K))) none),xm:=fun c q=>(cond (Nat.beq c 0&&Nat.beq (q.getD 1000000) 0&&q.isSome) (some [(1,none),(3,none)]) none) }
def uh (n:Nat) (K:XE→List AV→la→Option Out) (m:Nat) (n0:Int) (i:Int) (p1:Int) (p2:Int) (p3:Int) (p4:BA) (p5:Bool) (p6:Int) (p7:BA) (p8:Bool) (p9:BA) (p10:BA) (p11:(Sq U0)) (p12:(Sq BA)) (p13:Int) (p14:Bool) (p15:(Sq T2)):Option Out:=cf tys (fa Out (Wb n)) (vh n) n (Ba [1,1,0,1,0,0] (aa Tryz.f28)) 0 ak Zj K m (n0,(i,())) ((p1,(p2,(p3,(p4,(p5,(p6,(p7,(p8,(p9,(p10,(p11,(p12,(p13,(p14,(p15,()))))))))))))))),())
theorem Lu (n:Nat) (K:XE→List AV→la→Option Out):∀ (m:Nat) n0 i p1 p2 p3 p4 p5 p6 p7 p8 p9 p10 p11 p12 p13 p14 p15,uh n K m n0 i p1 p2 p3 p4 p5 p6 p7 p8 p9 p10 p11 p12 p13 p14 p15=(lb n m n0 i p1 p2 p3 p4 p5 p6 p7 p8 p9 p10 p11 p12 p13 p14 p15).bind (Wc K)
  | 0,_,_,_,_,_,_,_,_,_,_,_,_,_,_,_,_,_=>by kernel_rfl
  | m+1,n0,i,p1,p2,p3,p4,p5,p6,p7,p8,p9,p10,p11,p12,p13,p14,p15=>by
    have h1:uh n K (m+1) n0 i p1 p2 p3 p4 p5 p6 p7 p8 p9 p10 p11 p12 p13 p14 p15=Vc n n0 i p1 p2 p3 p4 p5 p6 p7 p8 p9 p10 p11 p12 p13 p14 p15 (uh n K m) (fun a=>Wc K (.out a)) (fun a=>Wc K (.ret a)) (fun p=>Wc K (.pan p)):=by kernel_rfl
    have h2:uh n K m=fun n0 i p1 p2 p3 p4 p5 p6 p7 p8 p9 p10 p11 p12 p13 p14 p15=>(lb n m n0 i p1 p2 p3 p4 p5 p6 p7 p8 p9 p10 p11 p12 p13 p14 p15).bind (Wc K):=by
      repeat (refine funext fun _=>?_)
      exact Lu n K m _ _ _ _ _ _ _ _ _ _ _ _ _ _ _ _ _
    rw [h1,h2];exact (AF n m _ _ _ _ _ _ _ _ _ _ _ _ _ _ _ _ _ (Wc K)).symm
theorem RC (n:Nat):ie tys (fa Out (Wb n)) (vh n) n (Ba [1,1,0,1,0,0] (aa Tryz.f28)) 0:=La (sp:=ak) (rp:=Zj) (by kernel_rfl) fun K σ ρ=>Lu n K n σ.1 σ.2.1 ρ.1.1 ρ.1.2.1 ρ.1.2.2.1 ρ.1.2.2.2.1 ρ.1.2.2.2.2.1 ρ.1.2.2.2.2.2.1 ρ.1.2.2.2.2.2.2.1 ρ.1.2.2.2.2.2.2.2.1 ρ.1.2.2.2.2.2.2.2.2.1 ρ.1.2.2.2.2.2.2.2.2.2.1 ρ.1.2.2.2.2.2.2.2.2.2.2.1 ρ.1.2.2.2.2.2.2.2.2.2.2.2.1 ρ.1.2.2.2.2.2.2.2.2.2.2.2.2.1 ρ.1.2.2.2.2.2.2.2.2.2.2.2.2.2.1 ρ.1.2.2.2.2.2.2.2.2.2.2.2.2.2.2.1
theorem BF (n:Nat):ta tys (fa Out (Wb n)) (vh n) n (aa Tryz.f28) 0:=⟨trivial,⟨trivial,⟨⟨trivial,⟨RC n,⟨⟨trivial,⟨trivial,trivial⟩⟩,⟨trivial,trivial⟩⟩⟩⟩,⟨trivial,trivial⟩⟩⟩⟩
theorem nI (n:Nat):Enters Tryz.prog 28:=enters_of (c:=aa Tryz.f28) Tryz.func28 (by kernel_rfl) (by kernel_rfl)
def yB (n:Nat):Entry:=⟨28,jX K5 (.one .bool) (fun xs=>pp n xs.1),none,none⟩
theorem oK (n:Nat):EntryOk Tryz.prog gl (yB n):=Aa (nI n) fun xs y h=>ma tys_ok (yg n) mixed (hint:=vh n) (n:=n) Tryz.func28 (Ea (BF n)) (na (φ:=(fun y=>some (Out.ret (Qb (.one .bool) y)))) (by kernel_rfl) (kN n xs.1 _) h)
def Kr (n:Nat):List Entry:=yB n::Wb n
theorem wq (n:Nat):AllOk Tryz.prog gl (Kr n):=.cons (oK n) (yg n)
def Po (n:Nat) {R:Type} (n0 least most:Int) (k:Bool→Option R):Option R:=if (decide (n0≥least))=true then k (decide (n0≤most)) else k false
def Ud (n:Nat) (n0 least most:Int):Option Bool:=Po n n0 least most some
theorem nM (n:Nat) {S:Type}:∀ n0 least most (φ:_→Option S),(Ud n n0 least most).bind φ=Po n n0 least most φ:=by
  intros;unfold Ud Po;first | (simp only [ia,ba,iB,bB,oL,oX,nB,Option.bind_some]) | rfl
def nt (n:Nat):Hint Out:={ live:=fun c=>[],run:=fun c=>none,xm:=fun c q=>none }
theorem rE (n:Nat):ta tys (fa Out (Kr n)) (nt n) n (aa Tryz.f72) 0:=oa (fun _=>rfl) _ _ (by kernel_rfl)
theorem KG (n:Nat):Enters Tryz.prog 72:=enters_of (c:=aa Tryz.f72) Tryz.func72 (by kernel_rfl) (by kernel_rfl)
def Qz (n:Nat):Entry:=⟨72,jX (.pair (.int .i64) (.pair (.int .i64) (.pair (.int .i64) .unit))) (.one .bool) (fun xs=>Ud n xs.1 xs.2.1 xs.2.2.1),none,none⟩
theorem eJ (n:Nat):EntryOk Tryz.prog gl (Qz n):=Aa (KG n) fun xs y h=>ma tys_ok (wq n) mixed (hint:=nt n) (n:=n) Tryz.func72 (Ea (rE n)) (na (φ:=(fun y=>some (Out.ret (Qb (.one .bool) y)))) (by kernel_rfl) (nM n xs.1 xs.2.1 xs.2.2.1 _) h)
def Rz (n:Nat):List Entry:=Qz n::Kr n
theorem jC (n:Nat):AllOk Tryz.prog gl (Rz n):=.cons (eJ n) (wq n)
def Tj (n:Nat):List Entry:=⟨102,jX (.pair .str (.pair .str .unit)) (.one .bool) (fun xs=>uk xs.1 xs.2.1),none,none⟩::Rz n
theorem Mk (n:Nat):AllOk Tryz.prog gl (Tj n):=.cons gJ (jC n)
def Cl (n:Nat) {R:Type} (f:U5) (k:Bool→Option R):Option R:=if f.2.1=true then if (f.1.toList==(⟨#[]⟩:BA).toList)=false then k (f.1.toList==(⟨#[13]⟩:BA).toList) else k true else if (decide ((f.1.size:Int)<(512:Int)))=true then (uk f.1 (⟨#[13,10]⟩:BA)).bind fun v=>k (!v) else k false
def Rh (n:Nat) (f:U5):Option Bool:=Cl n f some
theorem qJ (n:Nat) {S:Type}:∀ f (φ:_→Option S),(Rh n f).bind φ=Cl n f φ:=by
  intros;unfold Rh Cl;first | (simp only [ia,ba,iB,bB,oL,oX,nB,Option.bind_some]) | rfl
def gq (n:Nat):Hint Out:={ live:=fun c=>[],run:=fun c=>none,xm:=fun c q=>none }
theorem rC (n:Nat):ta tys (fa Out (Tj n)) (gq n) n (aa Tryz.f73) 0:=oa (fun _=>rfl) _ _ (by kernel_rfl)
theorem AE (n:Nat):Enters Tryz.prog 73:=enters_of (c:=aa Tryz.f73) Tryz.func73 (by kernel_rfl) (by kernel_rfl)
def Yw (n:Nat):Entry:=⟨73,jX (.pair (.pair .str (.pair .bool .unit)) .unit) (.one .bool) (fun xs=>Rh n xs.1),none,none⟩
theorem ZG (n:Nat):EntryOk Tryz.prog gl (Yw n):=Aa (AE n) fun xs y h=>ma tys_ok (Mk n) mixed (hint:=gq n) (n:=n) Tryz.func73 (Ea (rC n)) (na (φ:=(fun y=>some (Out.ret (Qb (.one .bool) y)))) (by kernel_rfl) (qJ n xs.1 _) h)
def wn (n:Nat):List Entry:=Yw n::Tj n
theorem xn (n:Nat):AllOk Tryz.prog gl (wn n):=.cons (ZG n) (Mk n)
def Xf (n:Nat) {R:Type} (s prefix0:BA) (k:Bool→Option R):Option R:=if (decide ((s.size:Int)≥(prefix0.size:Int)))=true then if 0≤(prefix0.size:Int)∧(prefix0.size:Int)≤(s.size:Int) then k ((s.extract (Int.toNat (0:Int)) (Int.toNat (prefix0.size:Int))).toList==prefix0.toList) else none else k false
def yc (n:Nat) (s prefix0:BA):Option Bool:=Xf n s prefix0 some
theorem sC (n:Nat) {S:Type}:∀ s prefix0 (φ:_→Option S),(yc n s prefix0).bind φ=Xf n s prefix0 φ:=by
  intros;unfold yc Xf;first | (simp only [ia,ba,iB,bB,oL,oX,nB,Option.bind_some]) | rfl
def xk (n:Nat):Hint Out:={ live:=fun c=>[],run:=fun c=>none,xm:=fun c q=>none }
theorem Cv (n:Nat):ta tys (fa Out (wn n)) (xk n) n (aa Tryz.f94) 0:=oa (fun _=>rfl) _ _ (by kernel_rfl)
theorem Qx (n:Nat):Enters Tryz.prog 94:=enters_of (c:=aa Tryz.f94) Tryz.func94 (by kernel_rfl) (by kernel_rfl)
def An (n:Nat):Entry:=⟨94,jX (.pair .str (.pair .str .unit)) (.one .bool) (fun xs=>yc n xs.1 xs.2.1),none,none⟩
theorem Zz (n:Nat):EntryOk Tryz.prog gl (An n):=Aa (Qx n) fun xs y h=>ma tys_ok (xn n) mixed (hint:=xk n) (n:=n) Tryz.func94 (Ea (Cv n)) (na (φ:=(fun y=>some (Out.ret (Qb (.one .bool) y)))) (by kernel_rfl) (sC n xs.1 xs.2.1 _) h)
def Uh (n:Nat):List Entry:=An n::wn n
theorem Mi (n:Nat):AllOk Tryz.prog gl (Uh n):=.cons (Zz n) (xn n)
def ne (n:Nat) {R:Type} (s prefix0:BA) (k:Bool→Option R):Option R:=(yc n s prefix0).bind fun v=>k v
def mb (n:Nat) (s prefix0:BA):Option Bool:=ne n s prefix0 some
theorem MC (n:Nat) {S:Type}:∀ s prefix0 (φ:_→Option S),(mb n s prefix0).bind φ=ne n s prefix0 φ:=by
  intros;unfold mb ne;first | (simp only [ia,ba,iB,bB,oL,oX,nB,Option.bind_some]) | rfl
def Nk (n:Nat):Hint Out:={ live:=fun c=>[],run:=fun c=>none,xm:=fun c q=>none }
theorem bw (n:Nat):ta tys (fa Out (Uh n)) (Nk n) n (aa Tryz.f58) 0:=oa (fun _=>rfl) _ _ (by kernel_rfl)
theorem ky (n:Nat):Enters Tryz.prog 58:=enters_of (c:=aa Tryz.f58) Tryz.func58 (by kernel_rfl) (by kernel_rfl)
def Vn (n:Nat):Entry:=⟨58,jX (.pair .str (.pair .str .unit)) (.one .bool) (fun xs=>mb n xs.1 xs.2.1),none,none⟩
theorem MA (n:Nat):EntryOk Tryz.prog gl (Vn n):=Aa (ky n) fun xs y h=>ma tys_ok (Mi n) mixed (hint:=Nk n) (n:=n) Tryz.func58 (Ea (bw n)) (na (φ:=(fun y=>some (Out.ret (Qb (.one .bool) y)))) (by kernel_rfl) (MC n xs.1 xs.2.1 _) h)
def ni (n:Nat):List Entry:=Vn n::Uh n
theorem ij (n:Nat):AllOk Tryz.prog gl (ni n):=.cons (MA n) (Mi n)
def Uf (n:Nat) {R:Type} (s:BA) (k:Bool→Option R):Option R:=(mb n s (⟨#[91]⟩:BA)).bind fun v=>k v
def wc (n:Nat) (s:BA):Option Bool:=Uf n s some
theorem KB (n:Nat) {S:Type}:∀ s (φ:_→Option S),(wc n s).bind φ=Uf n s φ:=by
  intros;unfold wc Uf;first | (simp only [ia,ba,iB,bB,oL,oX,nB,Option.bind_some]) | rfl
def fk (n:Nat):Hint Out:={ live:=fun c=>[],run:=fun c=>none,xm:=fun c q=>none }
theorem Su (n:Nat):ta tys (fa Out (ni n)) (fk n) n (aa Tryz.f128) 0:=oa (fun _=>rfl) _ _ (by kernel_rfl)
theorem zx (n:Nat):Enters Tryz.prog 128:=enters_of (c:=aa Tryz.f128) Tryz.func128 (by kernel_rfl) (by kernel_rfl)
def Dm (n:Nat):Entry:=⟨128,jX (.pair .str .unit) (.one .bool) (fun xs=>wc n xs.1),none,none⟩
theorem Em (n:Nat):EntryOk Tryz.prog gl (Dm n):=Aa (zx n) fun xs y h=>ma tys_ok (ij n) mixed (hint:=fk n) (n:=n) Tryz.func128 (Ea (Su n)) (na (φ:=(fun y=>some (Out.ret (Qb (.one .bool) y)))) (by kernel_rfl) (KB n xs.1 _) h)
def Bh (n:Nat):List Entry:=Dm n::ni n
theorem Ai (n:Nat):AllOk Tryz.prog gl (Bh n):=.cons (Em n) (ij n)
def Yf (n:Nat) {R:Type} (s suffix:BA) (k:Bool→Option R):Option R:=if (decide ((s.size:Int)≥(suffix.size:Int)))=true then if 0≤(IntKind.wrap .i64 ((s.size:Int) - (suffix.size:Int)))∧(IntKind.wrap .i64 ((s.size:Int) - (suffix.size:Int)))≤(s.size:Int) then k ((s.extract (Int.toNat (IntKind.wrap .i64 ((s.size:Int) - (suffix.size:Int)))) (Int.toNat (s.size:Int))).toList==suffix.toList) else none else k false
def pg (n:Nat) (s suffix:BA):Option Bool:=Yf n s suffix some
theorem uC (n:Nat) {S:Type}:∀ s suffix (φ:_→Option S),(pg n s suffix).bind φ=Yf n s suffix φ:=by
  intros;unfold pg Yf;first | (simp only [ia,ba,iB,bB,oL,oX,nB,Option.bind_some]) | rfl
def yk (n:Nat):Hint Out:={ live:=fun c=>[],run:=fun c=>none,xm:=fun c q=>none }
theorem Dv (n:Nat):ta tys (fa Out (Bh n)) (yk n) n (aa Tryz.f95) 0:=oa (fun _=>rfl) _ _ (by kernel_rfl)
theorem Rx (n:Nat):Enters Tryz.prog 95:=enters_of (c:=aa Tryz.f95) Tryz.func95 (by kernel_rfl) (by kernel_rfl)
def Bn (n:Nat):Entry:=⟨95,jX (.pair .str (.pair .str .unit)) (.one .bool) (fun xs=>pg n xs.1 xs.2.1),none,none⟩
theorem aA (n:Nat):EntryOk Tryz.prog gl (Bn n):=Aa (Rx n) fun xs y h=>ma tys_ok (Ai n) mixed (hint:=yk n) (n:=n) Tryz.func95 (Ea (Dv n)) (na (φ:=(fun y=>some (Out.ret (Qb (.one .bool) y)))) (by kernel_rfl) (uC n xs.1 xs.2.1 _) h)
def Vh (n:Nat):List Entry:=Bn n::Bh n
theorem Ni (n:Nat):AllOk Tryz.prog gl (Vh n):=.cons (aA n) (Ai n)
def gg (n:Nat) {R:Type} (s suffix:BA) (k:Bool→Option R):Option R:=(pg n s suffix).bind fun v=>k v
def Cc (n:Nat) (s suffix:BA):Option Bool:=gg n s suffix some
theorem NC (n:Nat) {S:Type}:∀ s suffix (φ:_→Option S),(Cc n s suffix).bind φ=gg n s suffix φ:=by
  intros;unfold Cc gg;first | (simp only [ia,ba,iB,bB,oL,oX,nB,Option.bind_some]) | rfl
def Pk (n:Nat):Hint Out:={ live:=fun c=>[],run:=fun c=>none,xm:=fun c q=>none }
theorem cw (n:Nat):ta tys (fa Out (Vh n)) (Pk n) n (aa Tryz.f59) 0:=oa (fun _=>rfl) _ _ (by kernel_rfl)
theorem ly (n:Nat):Enters Tryz.prog 59:=enters_of (c:=aa Tryz.f59) Tryz.func59 (by kernel_rfl) (by kernel_rfl)
def Wn (n:Nat):Entry:=⟨59,jX (.pair .str (.pair .str .unit)) (.one .bool) (fun xs=>Cc n xs.1 xs.2.1),none,none⟩
theorem Yn (n:Nat):EntryOk Tryz.prog gl (Wn n):=Aa (ly n) fun xs y h=>ma tys_ok (Ni n) mixed (hint:=Pk n) (n:=n) Tryz.func59 (Ea (cw n)) (na (φ:=(fun y=>some (Out.ret (Qb (.one .bool) y)))) (by kernel_rfl) (NC n xs.1 xs.2.1 _) h)
def Xn (n:Nat):List Entry:=Wn n::Vh n
theorem mu (n:Nat):AllOk Tryz.prog gl (Xn n):=.cons (Yn n) (Ni n)
theorem Av:Tryz.prog.funcs[201]?=some Tryz.f201:=by kernel_rfl
theorem Bv:EntryOk Tryz.prog gl ⟨201,Kj,some (.flat IL),none⟩:=iJ Av (by kernel_rfl) (by kernel_rfl) (by kernel_rfl) (by kernel_rfl)
def vk (n:Nat):List Entry:=⟨201,Kj,some (.flat IL),none⟩::Xn n
theorem Bp (n:Nat):AllOk Tryz.prog gl (vk n):=.cons Bv (mu n)
theorem yn:Tryz.prog.funcs[164]?=some Tryz.f164:=by kernel_rfl
theorem zn:EntryOk Tryz.prog gl ⟨164,Kj,some (.flat vp),none⟩:=eA yn (by kernel_rfl) (by kernel_rfl) (by kernel_rfl) (by kernel_rfl)
def Bd (n:Nat):List Entry:=⟨164,Kj,some (.flat vp),none⟩::vk n
theorem Qe (n:Nat):AllOk Tryz.prog gl (Bd n):=.cons zn (Bp n)
def me (n:Nat) {R:Type} (s:BA) (c:Int) (k:Int→Option R):Option R:=k (Lib.indexByte s.data.toList (Nat.toUInt8 (Int.toNat c)))
def Dd (n:Nat) (s:BA) (c:Int):Option Int:=me n s c some
theorem vC (n:Nat) {S:Type}:∀ s c (φ:_→Option S),(Dd n s c).bind φ=me n s c φ:=by
  intros;unfold Dd me;first | (simp only [ia,ba,iB,bB,oL,oX,nB,Option.bind_some]) | rfl
def zk (n:Nat):Hint Out:={ live:=fun c=>[],run:=fun c=>none,xm:=fun c q=>none }
theorem Ev (n:Nat):ta tys (fa Out (Bd n)) (zk n) n (aa Tryz.f142) 0:=oa (fun _=>rfl) _ _ (by kernel_rfl)
theorem Sx (n:Nat):Enters Tryz.prog 142:=enters_of (c:=aa Tryz.f142) Tryz.func142 (by kernel_rfl) (by kernel_rfl)
def Dn (n:Nat):Entry:=⟨142,jX (.pair .str (.pair (.int .u8) .unit)) (.one (.int .i64)) (fun xs=>Dd n xs.1 xs.2.1),none,none⟩
theorem bA (n:Nat):EntryOk Tryz.prog gl (Dn n):=Aa (Sx n) fun xs y h=>ma tys_ok (Qe n) mixed (hint:=zk n) (n:=n) Tryz.func142 (Ea (Ev n)) (na (φ:=(fun y=>some (Out.ret (Qb (.one (.int .i64)) y)))) (by kernel_rfl) (vC n xs.1 xs.2.1 _) h)
def Wh (n:Nat):List Entry:=Dn n::Bd n
theorem Oi (n:Nat):AllOk Tryz.prog gl (Wh n):=.cons (bA n) (Qe n)
def Uo (n:Nat) {R:Type} (s substr:BA) (k:Int→Option R):Option R:=if ((substr.size:Int)==(0:Int))=false then if (substr.toList==s.toList)=true then k (0:Int) else if ((substr.size:Int)==(1:Int))=true then if 0≤(0:Int)∧(0:Int)<(substr.size:Int) then (Dd n s (bt substr (0:Int))).bind fun v=>k v else none else if (decide ((substr.size:Int)≥(s.size:Int)))=true then k (-1:Int) else none else k (0:Int)
def wt (n:Nat) (s substr:BA):Option Int:=Uo n s substr some
theorem vM (n:Nat) {S:Type}:∀ s substr (φ:_→Option S),(wt n s substr).bind φ=Uo n s substr φ:=by
  intros;unfold wt Uo;first | (simp only [ia,ba,iB,bB,oL,oX,nB,Option.bind_some]) | rfl
def zt (n:Nat):Hint Out:={ live:=fun c=>[],run:=fun c=>none,xm:=fun c q=>none }
theorem EE (n:Nat):ta tys (fa Out (Wh n)) (zt n) n (aa Tryz.f118) 0:=⟨trivial,⟨trivial,⟨⟨trivial,⟨⟨trivial,trivial⟩,⟨trivial,⟨⟨trivial,trivial⟩,⟨trivial,⟨⟨trivial,trivial⟩,⟨trivial,⟨⟨trivial,trivial⟩,trivial⟩⟩⟩⟩⟩⟩⟩⟩,⟨trivial,⟨trivial,⟨trivial,⟨trivial,⟨trivial,⟨⟨IM (by kernel_rfl),⟨⟨trivial,⟨trivial,trivial⟩⟩,⟨⟨trivial,⟨⟨trivial,⟨⟨trivial,⟨⟨trivial,trivial⟩,trivial⟩⟩,trivial⟩⟩,trivial⟩⟩,⟨⟨trivial,⟨⟨trivial,trivial⟩,trivial⟩⟩,⟨trivial,⟨trivial,⟨trivial,⟨⟨trivial,⟨⟨trivial,⟨⟨trivial,trivial⟩,trivial⟩⟩,⟨trivial,trivial⟩⟩⟩,⟨trivial,⟨⟨trivial,⟨⟨trivial,⟨⟨trivial,trivial⟩,trivial⟩⟩,⟨trivial,trivial⟩⟩⟩,trivial⟩⟩⟩⟩⟩⟩⟩⟩⟩⟩,⟨trivial,trivial⟩⟩⟩⟩⟩⟩⟩⟩⟩⟩
theorem dH (n:Nat):Enters Tryz.prog 118:=enters_of (c:=aa Tryz.f118) Tryz.func118 (by kernel_rfl) (by kernel_rfl)
def cA (n:Nat):Entry:=⟨118,jX (.pair .str (.pair .str .unit)) (.one (.int .i64)) (fun xs=>wt n xs.1 xs.2.1),none,none⟩
theorem sJ (n:Nat):EntryOk Tryz.prog gl (cA n):=Aa (dH n) fun xs y h=>ma tys_ok (Oi n) mixed (hint:=zt n) (n:=n) Tryz.func118 (Ea (EE n)) (na (φ:=(fun y=>some (Out.ret (Qb (.one (.int .i64)) y)))) (by kernel_rfl) (vM n xs.1 xs.2.1 _) h)
def Vq (n:Nat):List Entry:=cA n::Wh n
theorem iq (n:Nat):AllOk Tryz.prog gl (Vq n):=.cons (sJ n) (Oi n)
def gp (n:Nat) {R:Type} (s substr:BA) (k:Int→Option R):Option R:=(wt n s substr).bind fun v=>k v
def ig (n:Nat) (s substr:BA):Option Int:=gp n s substr some
theorem QM (n:Nat) {S:Type}:∀ s substr (φ:_→Option S),(ig n s substr).bind φ=gp n s substr φ:=by
  intros;unfold ig gp;first | (simp only [ia,ba,iB,bB,oL,oX,nB,Option.bind_some]) | rfl
def ou (n:Nat):Hint Out:={ live:=fun c=>[],run:=fun c=>none,xm:=fun c q=>none }
theorem kF (n:Nat):ta tys (fa Out (Vq n)) (ou n) n (aa Tryz.f127) 0:=oa (fun _=>rfl) _ _ (by kernel_rfl)
theorem JH (n:Nat):Enters Tryz.prog 127:=enters_of (c:=aa Tryz.f127) Tryz.func127 (by kernel_rfl) (by kernel_rfl)
def OA (n:Nat):Entry:=⟨127,jX (.pair .str (.pair .str .unit)) (.one (.int .i64)) (fun xs=>ig n xs.1 xs.2.1),none,none⟩
theorem PA (n:Nat):EntryOk Tryz.prog gl (OA n):=Aa (JH n) fun xs y h=>ma tys_ok (iq n) mixed (hint:=ou n) (n:=n) Tryz.func127 (Ea (kF n)) (na (φ:=(fun y=>some (Out.ret (Qb (.one (.int .i64)) y)))) (by kernel_rfl) (QM n xs.1 xs.2.1 _) h)
def qi (n:Nat):List Entry:=OA n::Vq n
theorem tq (n:Nat):AllOk Tryz.prog gl (qi n):=.cons (PA n) (iq n)
def Nl (n:Nat) {R:Type} (s1 substr1:BA) (n0:Int) (kn:BA→BA→Int→Option R) (ko:Unit→Option R) (kr:(Int)→Option R) (kp:Int→Option R):Option R:=(ig n s1 substr1).bind fun v=>if (v==(-1:Int))=true then kr n0 else if 0≤(IntKind.wrap .i64 (v+(substr1.size:Int)))∧(IntKind.wrap .i64 (v+(substr1.size:Int)))≤(s1.size:Int) then kn (s1.extract (Int.toNat (IntKind.wrap .i64 (v+(substr1.size:Int)))) (Int.toNat (s1.size:Int))) substr1 (IntKind.wrap .i64 (n0+(1:Int))) else none
def Ld (n:Nat):Nat→BA→BA→Int→Option (Lx Unit (Int))
 | 0,_,_,_=>none
 | m+1,s1,substr1,n0=>Nl n s1 substr1 n0 (Ld n m) (fun a=>some (.out a)) (fun a=>some (.ret a)) (fun p=>some (.pan p))
theorem iF (n m:Nat) {S:Type}:∀ s1 substr1 n0 (φ:_→Option S),(Ld n (m+1) s1 substr1 n0).bind φ=Nl n s1 substr1 n0 (fun s1 substr1 n0=>(Ld n m s1 substr1 n0).bind φ) (fun a=>φ (.out a)) (fun a=>φ (.ret a)) (fun p=>φ (.pan p)):=by
  intros;first | (simp only [Ld,Nl,ia,ba,iB,bB,oL,oX,nB,Option.bind_some]) | rfl
def Vj:List Sl:=.dat .str::.dat .str::.top::.top::.top::.dat (.int .i64)::tp 28 []
def Uj:List RS:=[]
def lu:List Sl:=tp 4 (.dat (.int .i64)::tp 29 [])
def ku:List RS:=[]
def Sc (K:XE→List AV→la→Option Out):Lx Unit (Int)→Option Out:=fun x=>dX x (fun _=>none) (fun a=>Zh lu ku (a,()) () (K .ret)) (fun _=>none)
def fp (n:Nat) {R:Type} (s substr:BA) (k:Int→Option R):Option R:=if ((substr.size:Int)==(0:Int))=true then none else if ((substr.size:Int)==(1:Int))=true then if 0≤(0:Int)∧(0:Int)<(substr.size:Int) then k ((Lib.countByte s.data.toList (Nat.toUInt8 (Int.toNat (bt substr (0:Int)))):Nat):Int) else none else (Ld n n s substr (0:Int)).bind fun x_1=>dX x_1 (fun _=>none) (fun a_2=>k a_2) (fun _=>none)
def ep (n:Nat) (s substr:BA):Option Int:=fp n s substr some
theorem PM (n:Nat) {S:Type}:∀ s substr (φ:_→Option S),(ep n s substr).bind φ=fp n s substr φ:=by
  intros;unfold ep fp;first | (simp only [ia,ba,iB,bB,oL,oX,nB,Option.bind_some]) | rfl
def rh (n:Nat):Hint Out:={ live:=fun c=>(cond (Nat.beq c 0) (lv [0,1,5]) []),run:=fun c=>(cond (Nat.beq c 0) (some (pq Vj Uj fun σ ρ K=>(Ld n n σ.1 σ.2.1 σ.2.2.1).bind (Sc K))) none),xm:=fun c q=>(cond (Nat.beq c 1&&q.isNone) (some [(4,none)]) none) }
def qh (n:Nat) (K:XE→List AV→la→Option Out) (m:Nat) (s1:BA) (substr1:BA) (n0:Int):Option Out:=cf tys (fa Out (qi n)) (rh n) n (Ba [1,1,1,1,0,0] (aa Tryz.f188)) 0 Vj Uj K m (s1,(substr1,(n0,()))) ()
theorem ju (n:Nat) (K:XE→List AV→la→Option Out):∀ (m:Nat) s1 substr1 n0,qh n K m s1 substr1 n0=(Ld n m s1 substr1 n0).bind (Sc K)
  | 0,_,_,_=>by kernel_rfl
  | m+1,s1,substr1,n0=>by
    have h1:qh n K (m+1) s1 substr1 n0=Nl n s1 substr1 n0 (qh n K m) (fun a=>Sc K (.out a)) (fun a=>Sc K (.ret a)) (fun p=>Sc K (.pan p)):=by kernel_rfl
    have h2:qh n K m=fun s1 substr1 n0=>(Ld n m s1 substr1 n0).bind (Sc K):=by
      repeat (refine funext fun _=>?_)
      exact ju n K m _ _ _
    rw [h1,h2];exact (iF n m _ _ _ (Sc K)).symm
theorem LC (n:Nat):ie tys (fa Out (qi n)) (rh n) n (Ba [1,1,1,1,0,0] (aa Tryz.f188)) 0:=La (sp:=Vj) (rp:=Uj) (by kernel_rfl) fun K σ ρ=>ju n K n σ.1 σ.2.1 σ.2.2.1
theorem jF (n:Nat):ta tys (fa Out (qi n)) (rh n) n (aa Tryz.f188) 0:=⟨trivial,⟨⟨trivial,⟨⟨trivial,trivial⟩,trivial⟩⟩,⟨⟨trivial,⟨⟨trivial,trivial⟩,trivial⟩⟩,⟨trivial,⟨LC n,⟨trivial,⟨⟨trivial,⟨⟨trivial,trivial⟩,trivial⟩⟩,⟨trivial,trivial⟩⟩⟩⟩⟩⟩⟩⟩
theorem IH (n:Nat):Enters Tryz.prog 188:=enters_of (c:=aa Tryz.f188) Tryz.func188 (by kernel_rfl) (by kernel_rfl)
def LA (n:Nat):Entry:=⟨188,jX (.pair .str (.pair .str .unit)) (.one (.int .i64)) (fun xs=>ep n xs.1 xs.2.1),none,none⟩
theorem TJ (n:Nat):EntryOk Tryz.prog gl (LA n):=Aa (IH n) fun xs y h=>ma tys_ok (tq n) mixed (hint:=rh n) (n:=n) Tryz.func188 (Ea (jF n)) (na (φ:=(fun y=>some (Out.ret (Qb (.one (.int .i64)) y)))) (by kernel_rfl) (PM n xs.1 xs.2.1 _) h)
def mi (n:Nat):List Entry:=LA n::qi n
theorem sq (n:Nat):AllOk Tryz.prog gl (mi n):=.cons (TJ n) (tq n)
def ld (n:Nat) {R:Type} (s1 sep1:BA) (sepSave1 n01 i:Int) (a:(Sq BA)) (kn:BA→BA→Int→Int→Int→(Sq BA)→Option R) (ko:(BA×Int×(Sq BA))→Option R) (kr:Unit→Option R) (kp:Int→Option R):Option R:=if (decide (i<n01))=true then (ig n s1 sep1).bind fun v1=>if (decide (v1<(0:Int)))=true then ko (s1,i,a) else if 0≤(IntKind.wrap .i64 (v1+sepSave1))∧(IntKind.wrap .i64 (v1+sepSave1))≤(s1.size:Int) then if 0≤i∧i<(a.n:Int) then if 0≤(IntKind.wrap .i64 (v1+(sep1.size:Int)))∧(IntKind.wrap .i64 (v1+(sep1.size:Int)))≤(s1.size:Int) then kn (s1.extract (Int.toNat (IntKind.wrap .i64 (v1+(sep1.size:Int)))) (Int.toNat (s1.size:Int))) sep1 sepSave1 n01 (IntKind.wrap .i64 (i+(1:Int))) (⟨a.n,fun q=>if q=(Int.toNat i)∧q<a.n then (s1.extract (Int.toNat (0:Int)) (Int.toNat (IntKind.wrap .i64 (v1+sepSave1)))) else a.at' q⟩:Sq BA) else none else none else none else ko (s1,i,a)
def Oa (n:Nat):Nat→BA→BA→Int→Int→Int→(Sq BA)→Option (Lx (BA×Int×(Sq BA)) Unit)
 | 0,_,_,_,_,_,_=>none
 | m+1,s1,sep1,sepSave1,n01,i,a=>ld n s1 sep1 sepSave1 n01 i a (Oa n m) (fun a=>some (.out a)) (fun a=>some (.ret a)) (fun p=>some (.pan p))
theorem oy (n m:Nat) {S:Type}:∀ s1 sep1 sepSave1 n01 i a (φ:_→Option S),(Oa n (m+1) s1 sep1 sepSave1 n01 i a).bind φ=ld n s1 sep1 sepSave1 n01 i a (fun s1 sep1 sepSave1 n01 i a=>(Oa n m s1 sep1 sepSave1 n01 i a).bind φ) (fun a=>φ (.out a)) (fun a=>φ (.ret a)) (fun p=>φ (.pan p)):=by
  intros;first | (simp only [Oa,ld,ia,ba,iB,bB,oL,oX,nB,Option.bind_some]) | rfl
def Tf:List Sl:=.dat .str::.dat .str::.dat (.int .i64)::.dat (.int .i64)::tp 5 (.row 0::.dat (.int .i64)::tp 55 [])
def Sf:List RS:=[.row 9 1 .str false false]
def co:List Sl:=.dat .str::tp 8 (.row 0::.dat (.int .i64)::tp 55 [])
def bo:List RS:=[.row 9 1 .str false false]
def Bb (K:XE→List AV→la→Option Out):Lx (BA×Int×(Sq BA)) Unit→Option Out:=fun x=>dX x (fun a=>Zh co bo (a.1,(a.2.1,())) (a.2.2,()) (K (.exit 0))) (fun _=>none) (fun _=>none)
def sh (n:Nat) {R:Type} (s sep:BA) (sepSave n0:Int) (k:(Sq BA)→Option R):Option R:=if (n0==(0:Int))=true then k (⟨0,fun _=>sa .str⟩:Sq BA) else if (sep.toList==(⟨#[]⟩:BA).toList)=true then none else if (decide (n0<(0:Int)))=true then (ep n s sep).bind fun v=>if 0≤(if (IntKind.wrap .i64 ((s.size:Int)+(1:Int)))<(IntKind.wrap .i64 (v+(1:Int))) then (IntKind.wrap .i64 ((s.size:Int)+(1:Int))) else (IntKind.wrap .i64 (v+(1:Int))))∧(if (IntKind.wrap .i64 ((s.size:Int)+(1:Int)))<(IntKind.wrap .i64 (v+(1:Int))) then (IntKind.wrap .i64 ((s.size:Int)+(1:Int))) else (IntKind.wrap .i64 (v+(1:Int))))≤(if (IntKind.wrap .i64 ((s.size:Int)+(1:Int)))<(IntKind.wrap .i64 (v+(1:Int))) then (IntKind.wrap .i64 ((s.size:Int)+(1:Int))) else (IntKind.wrap .i64 (v+(1:Int)))) then if Ya (Int.toNat (if (IntKind.wrap .i64 ((s.size:Int)+(1:Int)))<(IntKind.wrap .i64 (v+(1:Int))) then (IntKind.wrap .i64 ((s.size:Int)+(1:Int))) else (IntKind.wrap .i64 (v+(1:Int))))) 16=true then (Oa n n s sep sepSave (IntKind.wrap .i64 ((if (IntKind.wrap .i64 ((s.size:Int)+(1:Int)))<(IntKind.wrap .i64 (v+(1:Int))) then (IntKind.wrap .i64 ((s.size:Int)+(1:Int))) else (IntKind.wrap .i64 (v+(1:Int)))) - (1:Int))) (0:Int) (⟨(Int.toNat (if (IntKind.wrap .i64 ((s.size:Int)+(1:Int)))<(IntKind.wrap .i64 (v+(1:Int))) then (IntKind.wrap .i64 ((s.size:Int)+(1:Int))) else (IntKind.wrap .i64 (v+(1:Int))))),fun _=>(⟨#[]⟩:BA)⟩:Sq BA)).bind fun x_1=>dX x_1
 (fun a_2=>if 0≤a_2.2.1∧a_2.2.1<(a_2.2.2.n:Int) then if 0≤(IntKind.wrap .i64 (a_2.2.1+(1:Int)))∧(IntKind.wrap .i64 (a_2.2.1+(1:Int)))≤(a_2.2.2.n:Int) then k (⟨((Int.toNat (IntKind.wrap .i64 (a_2.2.1+(1:Int)))) - (Int.toNat (0:Int))),fun i=>(fun q=>if q=(Int.toNat a_2.2.1)∧q<a_2.2.2.n then a_2.1 else a_2.2.2.at' q) ((Int.toNat (0:Int))+i)⟩:Sq BA) else none else none) (fun _=>none) (fun _=>none) else none else none else if 0≤(if (IntKind.wrap .i64 ((s.size:Int)+(1:Int)))<n0 then (IntKind.wrap .i64 ((s.size:Int)+(1:Int))) else n0)∧(if (IntKind.wrap .i64 ((s.size:Int)+(1:Int)))<n0 then (IntKind.wrap .i64 ((s.size:Int)+(1:Int))) else n0)≤(if (IntKind.wrap .i64 ((s.size:Int)+(1:Int)))<n0 then (IntKind.wrap .i64 ((s.size:Int)+(1:Int))) else n0) then if Ya (Int.toNat (if (IntKind.wrap .i64 ((s.size:Int)+(1:Int)))<n0 then (IntKind.wrap .i64 ((s.size:Int)+(1:Int))) else n0)) 16=true then (Oa n n s sep sepSave (IntKind.wrap .i64 ((if (IntKind.wrap .i64 ((s.size:Int)+(1:Int)))<n0 then (IntKind.wrap .i64 ((s.size:Int)+(1:Int))) else n0) - (1:Int))) (0:Int) (⟨(Int.toNat (if (IntKind.wrap .i64 ((s.size:Int)+(1:Int)))<n0 then (IntKind.wrap .i64 ((s.size:Int)+(1:Int))) else n0)),fun _=>(⟨#[]⟩:BA)⟩:Sq BA)).bind fun x_3=>dX x_3 (fun a_4=>if 0≤a_4.2.1∧a_4.2.1<(a_4.2.2.n:Int) then if 0≤(IntKind.wrap .i64 (a_4.2.1+(1:Int)))∧(IntKind.wrap .i64 (a_4.2.1+(1:Int)))≤(a_4.2.2.n:Int) then
 k (⟨((Int.toNat (IntKind.wrap .i64 (a_4.2.1+(1:Int)))) - (Int.toNat (0:Int))),fun i=>(fun q=>if q=(Int.toNat a_4.2.1)∧q<a_4.2.2.n then a_4.1 else a_4.2.2.at' q) ((Int.toNat (0:Int))+i)⟩:Sq BA) else none else none) (fun _=>none) (fun _=>none) else none else none
def ti (n:Nat) (s sep:BA) (sepSave n0:Int):Option (Sq BA):=sh n s sep sepSave n0 some
theorem mF (n:Nat) {S:Type}:∀ s sep sepSave n0 (φ:_→Option S),(ti n s sep sepSave n0).bind φ=sh n s sep sepSave n0 φ:=by
  intros;unfold ti sh;first | (simp only [ia,ba,iB,bB,oL,oX,nB,Option.bind_some]) | rfl
def we (n:Nat):Hint Out:={ live:=fun c=>(cond (Nat.beq c 0) [(0,none),(1,none),(2,none),(3,none),(9,some (.sl .str)),(10,none)] []),run:=fun c=>(cond (Nat.beq c 0) (some (pq Tf Sf fun σ ρ K=>(Oa n n σ.1 σ.2.1 σ.2.2.1 σ.2.2.2.1 σ.2.2.2.2.1 ρ.1).bind (Bb K))) none),xm:=fun c q=>(cond (Nat.beq c 0&&Nat.beq (q.getD 1000000) 0&&q.isSome) (some [(0,none),(9,some (.sl .str)),(10,none)]) (cond (Nat.beq c 1&&Nat.beq (q.getD 1000000) 0&&q.isSome) (some [(0,none),(9,some (.sl .str)),(10,none)]) none)) }
def ve (n:Nat) (K:XE→List AV→la→Option Out) (m:Nat) (s1:BA) (sep1:BA) (sepSave1:Int) (n01:Int) (i:Int) (a:(Sq BA)):Option Out:=cf tys (fa Out (mi n)) (we n) n (Ba [1,1,1,1,1,1,1,1,0,0,0] (aa Tryz.f168)) 0 Tf Sf K m (s1,(sep1,(sepSave1,(n01,(i,()))))) (a,())
theorem sm (n:Nat) (K:XE→List AV→la→Option Out):∀ (m:Nat) s1 sep1 sepSave1 n01 i a,ve n K m s1 sep1 sepSave1 n01 i a=(Oa n m s1 sep1 sepSave1 n01 i a).bind (Bb K)
  | 0,_,_,_,_,_,_=>by kernel_rfl
  | m+1,s1,sep1,sepSave1,n01,i,a=>by
    have h1:ve n K (m+1) s1 sep1 sepSave1 n01 i a=ld n s1 sep1 sepSave1 n01 i a (ve n K m) (fun a=>Bb K (.out a)) (fun a=>Bb K (.ret a)) (fun p=>Bb K (.pan p)):=by kernel_rfl
    have h2:ve n K m=fun s1 sep1 sepSave1 n01 i a=>(Oa n m s1 sep1 sepSave1 n01 i a).bind (Bb K):=by
      repeat (refine funext fun _=>?_)
      exact sm n K m _ _ _ _ _ _
    rw [h1,h2];exact (oy n m _ _ _ _ _ _ (Bb K)).symm
theorem fw (n:Nat):ie tys (fa Out (mi n)) (we n) n (Ba [1,1,1,1,1,1,1,1,0,0,0] (aa Tryz.f168)) 0:=La (sp:=Tf) (rp:=Sf) (by kernel_rfl) fun K σ ρ=>sm n K n σ.1 σ.2.1 σ.2.2.1 σ.2.2.2.1 σ.2.2.2.2.1 ρ.1
theorem qy (n:Nat):ta tys (fa Out (mi n)) (we n) n (aa Tryz.f168) 0:=⟨trivial,⟨⟨trivial,⟨⟨trivial,trivial⟩,trivial⟩⟩,⟨⟨trivial,⟨⟨trivial,trivial⟩,trivial⟩⟩,⟨⟨trivial,⟨trivial,trivial⟩⟩,⟨trivial,⟨trivial,⟨trivial,⟨trivial,⟨⟨fw n,⟨⟨trivial,⟨trivial,trivial⟩⟩,⟨trivial,⟨⟨trivial,⟨trivial,trivial⟩⟩,⟨trivial,⟨trivial,trivial⟩⟩⟩⟩⟩⟩,⟨trivial,⟨trivial,trivial⟩⟩⟩⟩⟩⟩⟩⟩⟩⟩⟩
theorem TA (n:Nat):Enters Tryz.prog 168:=enters_of (c:=aa Tryz.f168) Tryz.func168 (by kernel_rfl) (by kernel_rfl)
def uq (n:Nat):Entry:=⟨168,jX K6 (.one (.sl .str)) (fun xs=>ti n xs.1 xs.2.1 xs.2.2.1 xs.2.2.2.1),none,none⟩
theorem QC (n:Nat):EntryOk Tryz.prog gl (uq n):=Aa (TA n) fun xs y h=>ma tys_ok (sq n) mixed (hint:=we n) (n:=n) Tryz.func168 (Ea (qy n)) (na (φ:=(fun y=>some (Out.ret (Qb (.one (.sl .str)) y)))) (by kernel_rfl) (mF n xs.1 xs.2.1 xs.2.2.1 xs.2.2.2.1 _) h)
def Wj (n:Nat):List Entry:=uq n::mi n
theorem Rk (n:Nat):AllOk Tryz.prog gl (Wj n):=.cons (QC n) (sq n)
def lp (n:Nat) {R:Type} (s sep:BA) (k:(Sq BA)→Option R):Option R:=(ti n s sep (0:Int) (-1:Int)).bind fun v=>k v
def jp (n:Nat) (s sep:BA):Option (Sq BA):=lp n s sep some
theorem RM (n:Nat) {S:Type}:∀ s sep (φ:_→Option S),(jp n s sep).bind φ=lp n s sep φ:=by
  intros;unfold jp lp;first | (simp only [ia,ba,iB,bB,oL,oX,nB,Option.bind_some]) | rfl
def ru (n:Nat):Hint Out:={ live:=fun c=>[],run:=fun c=>none,xm:=fun c q=>none }
theorem lF (n:Nat):ta tys (fa Out (Wj n)) (ru n) n (aa Tryz.f151) 0:=oa (fun _=>rfl) _ _ (by kernel_rfl)
theorem KH (n:Nat):Enters Tryz.prog 151:=enters_of (c:=aa Tryz.f151) Tryz.func151 (by kernel_rfl) (by kernel_rfl)
def QA (n:Nat):Entry:=⟨151,jX (.pair .str (.pair .str .unit)) (.one (.sl .str)) (fun xs=>jp n xs.1 xs.2.1),none,none⟩
theorem UJ (n:Nat):EntryOk Tryz.prog gl (QA n):=Aa (KH n) fun xs y h=>ma tys_ok (Rk n) mixed (hint:=ru n) (n:=n) Tryz.func151 (Ea (lF n)) (na (φ:=(fun y=>some (Out.ret (Qb (.one (.sl .str)) y)))) (by kernel_rfl) (RM n xs.1 xs.2.1 _) h)
def RA (n:Nat):List Entry:=QA n::Wj n
theorem PC (n:Nat):AllOk Tryz.prog gl (RA n):=.cons (UJ n) (Rk n)
def eo (n:Nat):List Entry:=⟨152,fun {R}=>FO (R:=R) 208,none,none⟩::RA n
theorem tu (n:Nat):AllOk Tryz.prog gl (eo n):=.cons BR (PC n)
def Md (n:Nat):List Entry:=⟨87,jX (.pair (.int .i64) .unit) (.one .str) (fun xs=>rO xs.1),none,none⟩::eo n
theorem mj (n:Nat):AllOk Tryz.prog gl (Md n):=.cons iS (tu n)
def Rd (n:Nat) {R:Type} (l t10:(Sq BA)) (t11 t12:Int) (kn:(Sq BA)→(Sq BA)→Int→Int→Option R) (ko:((Sq BA))→Option R) (kr:(Bool)→Option R) (kp:Int→Option R):Option R:=if (decide (t12<t11))=true then if 0≤t12∧t12<(t10.n:Int) then (FP (t10.at' (Int.toNat t12))).bind fun v1=>if v1.2=true then if (decide (v1.1<(0:Int)))=false then if (decide (v1.1>(255:Int)))=false then (rO v1.1).bind fun v2=>if (!(v2.toList==(t10.at' (Int.toNat t12)).toList))=true then kr false else kn l t10 t11 (IntKind.wrap .i64 (t12+(1:Int))) else kr false else kr false else kr false else none else ko l
def ab (n:Nat):Nat→(Sq BA)→(Sq BA)→Int→Int→Option (Lx ((Sq BA)) (Bool))
 | 0,_,_,_,_=>none
 | m+1,l,t10,t11,t12=>Rd n l t10 t11 t12 (ab n m) (fun a=>some (.out a)) (fun a=>some (.ret a)) (fun p=>some (.pan p))
theorem gz (n m:Nat) {S:Type}:∀ l t10 t11 t12 (φ:_→Option S),(ab n (m+1) l t10 t11 t12).bind φ=Rd n l t10 t11 t12 (fun l t10 t11 t12=>(ab n m l t10 t11 t12).bind φ) (fun a=>φ (.out a)) (fun a=>φ (.ret a)) (fun p=>φ (.pan p)):=by
  intros;first | (simp only [ab,Rd,ia,ba,iB,bB,oL,oX,nB,Option.bind_some]) | rfl
def Ag:List Sl:=.top::.top::.top::.dat (.sl .str)::tp 6 (.dat (.sl .str)::.dat (.int .i64)::.dat (.int .i64)::tp 28 [])
def zg:List RS:=[]
def yp:List Sl:=.top::.top::.top::.dat (.sl .str)::tp 37 []
def xp:List RS:=[]
def Ap:List Sl:=.top::.top::.dat .bool::tp 38 []
def zp:List RS:=[]
def Ib (K:XE→List AV→la→Option Out):Lx ((Sq BA)) (Bool)→Option Out:=fun x=>dX x (fun a=>Zh yp xp (a,()) () (K (.exit 0))) (fun a=>Zh Ap zp (a,()) () (K .ret)) (fun _=>none)
def Di (n:Nat) {R:Type} (s:BA) (k:Bool→Option R):Option R:=(jp n s (⟨#[46]⟩:BA)).bind fun v=>(ab n n v v (v.n:Int) (0:Int)).bind fun x_1=>dX x_1 (fun a_2=>k ((a_2.n:Int)==(4:Int))) (fun a_3=>k a_3) (fun _=>none)
def Ff (n:Nat) (s:BA):Option Bool:=Di n s some
theorem YF (n:Nat) {S:Type}:∀ s (φ:_→Option S),(Ff n s).bind φ=Di n s φ:=by
  intros;unfold Ff Di;first | (simp only [ia,ba,iB,bB,oL,oX,nB,Option.bind_some]) | rfl
def Xe (n:Nat):Hint Out:={ live:=fun c=>(cond (Nat.beq c 0) [(3,some (.sl .str)),(10,some (.sl .str)),(11,none),(12,none)] []),run:=fun c=>(cond (Nat.beq c 0) (some (pq Ag zg fun σ ρ K=>(ab n n σ.1 σ.2.1 σ.2.2.1 σ.2.2.2.1).bind (Ib K))) none),xm:=fun c q=>(cond (Nat.beq c 0&&Nat.beq (q.getD 1000000) 0&&q.isSome) (some [(3,some (.sl .str))]) (cond (Nat.beq c 1&&q.isNone) (some [(2,none)]) none)) }
def We (n:Nat) (K:XE→List AV→la→Option Out) (m:Nat) (l:(Sq BA)) (t10:(Sq BA)) (t11:Int) (t12:Int):Option Out:=cf tys (fa Out (Md n)) (Xe n) n (Ba [1,1,0,1,0,0] (aa Tryz.f129)) 0 Ag zg K m (l,(t10,(t11,(t12,())))) ()
theorem Hm (n:Nat) (K:XE→List AV→la→Option Out):∀ (m:Nat) l t10 t11 t12,We n K m l t10 t11 t12=(ab n m l t10 t11 t12).bind (Ib K)
  | 0,_,_,_,_=>by kernel_rfl
  | m+1,l,t10,t11,t12=>by
    have h1:We n K (m+1) l t10 t11 t12=Rd n l t10 t11 t12 (We n K m) (fun a=>Ib K (.out a)) (fun a=>Ib K (.ret a)) (fun p=>Ib K (.pan p)):=by kernel_rfl
    have h2:We n K m=fun l t10 t11 t12=>(ab n m l t10 t11 t12).bind (Ib K):=by
      repeat (refine funext fun _=>?_)
      exact Hm n K m _ _ _ _
    rw [h1,h2];exact (gz n m _ _ _ _ (Ib K)).symm
theorem Ax (n:Nat):ie tys (fa Out (Md n)) (Xe n) n (Ba [1,1,0,1,0,0] (aa Tryz.f129)) 0:=La (sp:=Ag) (rp:=zg) (by kernel_rfl) fun K σ ρ=>Hm n K n σ.1 σ.2.1 σ.2.2.1 σ.2.2.2.1
theorem iz (n:Nat):ta tys (fa Out (Md n)) (Xe n) n (aa Tryz.f129) 0:=⟨trivial,⟨trivial,⟨⟨trivial,⟨Ax n,⟨trivial,⟨⟨trivial,trivial⟩,⟨⟨trivial,⟨trivial,⟨trivial,⟨⟨trivial,trivial⟩,trivial⟩⟩⟩⟩,trivial⟩⟩⟩⟩⟩,⟨trivial,trivial⟩⟩⟩⟩
theorem PB (n:Nat):Enters Tryz.prog 129:=enters_of (c:=aa Tryz.f129) Tryz.func129 (by kernel_rfl) (by kernel_rfl)
def Wr (n:Nat):Entry:=⟨129,jX (.pair .str .unit) (.one .bool) (fun xs=>Ff n xs.1),none,none⟩
theorem Xr (n:Nat):EntryOk Tryz.prog gl (Wr n):=Aa (PB n) fun xs y h=>ma tys_ok (mj n) mixed (hint:=Xe n) (n:=n) Tryz.func129 (Ea (iz n)) (na (φ:=(fun y=>some (Out.ret (Qb (.one .bool) y)))) (by kernel_rfl) (YF n xs.1 _) h)
def ml (n:Nat):List Entry:=Wr n::Md n
theorem dm (n:Nat):AllOk Tryz.prog gl (ml n):=.cons (Xr n) (mj n)
def Gs (n:Nat) {R:Type} (c:Int) (k:Bool→Option R):Option R:=if (decide (c≥(97:Int)))=true then if (decide (c≤(122:Int)))=false then if (decide (c≥(48:Int)))=true then k (decide (c≤(57:Int))) else k false else k true else if (decide (c≥(48:Int)))=true then k (decide (c≤(57:Int))) else k false
def Gq (n:Nat) (c:Int):Option Bool:=Gs n c some
theorem CN (n:Nat) {S:Type}:∀ c (φ:_→Option S),(Gq n c).bind φ=Gs n c φ:=by
  intros;unfold Gq Gs;first | (simp only [ia,ba,iB,bB,oL,oX,nB,Option.bind_some]) | rfl
def Gw (n:Nat):Hint Out:={ live:=fun c=>[],run:=fun c=>none,xm:=fun c q=>none }
theorem fG (n:Nat):ta tys (fa Out (ml n)) (Gw n) n (aa Tryz.f154) 0:=oa (fun _=>rfl) _ _ (by kernel_rfl)
theorem JI (n:Nat):Enters Tryz.prog 154:=enters_of (c:=aa Tryz.f154) Tryz.func154 (by kernel_rfl) (by kernel_rfl)
def bD (n:Nat):Entry:=⟨154,jX (.pair (.int .u8) .unit) (.one .bool) (fun xs=>Gq n xs.1),none,none⟩
theorem VL (n:Nat):EntryOk Tryz.prog gl (bD n):=Aa (JI n) fun xs y h=>ma tys_ok (dm n) mixed (hint:=Gw n) (n:=n) Tryz.func154 (Ea (fG n)) (na (φ:=(fun y=>some (Out.ret (Qb (.one .bool) y)))) (by kernel_rfl) (CN n xs.1 _) h)
def jk (n:Nat):List Entry:=bD n::ml n
theorem Hs (n:Nat):AllOk Tryz.prog gl (jk n):=.cons (VL n) (dm n)
def Ef (n:Nat) {R:Type} (s1:BA) (t5 t6:Int) (kn:BA→Int→Int→Option R) (ko:(BA)→Option R) (kr:(Bool)→Option R) (kp:Int→Option R):Option R:=if (decide (t6<t5))=true then if 0≤t6∧t6<(s1.size:Int) then (Gq n (bt s1 t6)).bind fun v=>if (!v)=true then if 0≤t6∧t6<(s1.size:Int) then if ((bt s1 t6) !=(45:Int))=false then if (t6==(0:Int))=false then if (t6==(IntKind.wrap .i64 ((s1.size:Int) - (1:Int))))=true then kr false else kn s1 t5 (IntKind.wrap .i64 (t6+(1:Int))) else kr false else kr false else none else kn s1 t5 (IntKind.wrap .i64 (t6+(1:Int))) else none else ko s1
def Hb (n:Nat):Nat→BA→Int→Int→Option (Lx (BA) (Bool))
 | 0,_,_,_=>none
 | m+1,s1,t5,t6=>Ef n s1 t5 t6 (Hb n m) (fun a=>some (.out a)) (fun a=>some (.ret a)) (fun p=>some (.pan p))
theorem SD (n m:Nat) {S:Type}:∀ s1 t5 t6 (φ:_→Option S),(Hb n (m+1) s1 t5 t6).bind φ=Ef n s1 t5 t6 (fun s1 t5 t6=>(Hb n m s1 t5 t6).bind φ) (fun a=>φ (.out a)) (fun a=>φ (.ret a)) (fun p=>φ (.pan p)):=by
  intros;first | (simp only [Hb,Ef,ia,ba,iB,bB,oL,oX,nB,Option.bind_some]) | rfl
def yj:List Sl:=.dat .str::tp 4 (.dat (.int .i64)::.dat (.int .i64)::tp 33 [])
def xj:List RS:=[]
def Tr:List Sl:=.dat .str::tp 39 []
def Sr:List RS:=[]
def Vr:List Sl:=.top::.top::.dat .bool::tp 37 []
def Ur:List RS:=[]
def Ec (K:XE→List AV→la→Option Out):Lx (BA) (Bool)→Option Out:=fun x=>dX x (fun a=>Zh Tr Sr (a,()) () (K (.exit 0))) (fun a=>Zh Vr Ur (a,()) () (K .ret)) (fun _=>none)
def Co (n:Nat) {R:Type} (s:BA) (k:Bool→Option R):Option R:=(Hb n n s (s.size:Int) (0:Int)).bind fun x_1=>dX x_1 (fun a_2=>if (decide ((a_2.size:Int)≥(1:Int)))=true then k (decide ((a_2.size:Int)≤(63:Int))) else k false) (fun a_3=>k a_3) (fun _=>none)
def Ci (n:Nat) (s:BA):Option Bool:=Co n s some
theorem QL (n:Nat) {S:Type}:∀ s (φ:_→Option S),(Ci n s).bind φ=Co n s φ:=by
  intros;unfold Ci Co;first | (simp only [ia,ba,iB,bB,oL,oX,nB,Option.bind_some]) | rfl
def Vg (n:Nat):Hint Out:={ live:=fun c=>(cond (Nat.beq c 0) (lv [0,5,6]) []),run:=fun c=>(cond (Nat.beq c 0) (some (pq yj xj fun σ ρ K=>(Hb n n σ.1 σ.2.1 σ.2.2.1).bind (Ec K))) none),xm:=fun c q=>(cond (Nat.beq c 0&&Nat.beq (q.getD 1000000) 0&&q.isSome) (some [(0,none)]) (cond (Nat.beq c 1&&q.isNone) (some [(2,none)]) none)) }
def Ug (n:Nat) (K:XE→List AV→la→Option Out) (m:Nat) (s1:BA) (t5:Int) (t6:Int):Option Out:=cf tys (fa Out (jk n)) (Vg n) n (Ba [1,0,1,0,0] (aa Tryz.f131)) 0 yj xj K m (s1,(t5,(t6,()))) ()
theorem Qr (n:Nat) (K:XE→List AV→la→Option Out):∀ (m:Nat) s1 t5 t6,Ug n K m s1 t5 t6=(Hb n m s1 t5 t6).bind (Ec K)
  | 0,_,_,_=>by kernel_rfl
  | m+1,s1,t5,t6=>by
    have h1:Ug n K (m+1) s1 t5 t6=Ef n s1 t5 t6 (Ug n K m) (fun a=>Ec K (.out a)) (fun a=>Ec K (.ret a)) (fun p=>Ec K (.pan p)):=by kernel_rfl
    have h2:Ug n K m=fun s1 t5 t6=>(Hb n m s1 t5 t6).bind (Ec K):=by
      repeat (refine funext fun _=>?_)
      exact Qr n K m _ _ _
    rw [h1,h2];exact (SD n m _ _ _ (Ec K)).symm
theorem NB (n:Nat):ie tys (fa Out (jk n)) (Vg n) n (Ba [1,0,1,0,0] (aa Tryz.f131)) 0:=La (sp:=yj) (rp:=xj) (by kernel_rfl) fun K σ ρ=>Qr n K n σ.1 σ.2.1 σ.2.2.1
theorem TD (n:Nat):ta tys (fa Out (jk n)) (Vg n) n (aa Tryz.f131) 0:=⟨trivial,⟨⟨trivial,⟨NB n,⟨trivial,⟨⟨trivial,trivial⟩,⟨⟨trivial,⟨trivial,⟨⟨trivial,trivial⟩,trivial⟩⟩⟩,trivial⟩⟩⟩⟩⟩,⟨trivial,trivial⟩⟩⟩
theorem XF (n:Nat):Enters Tryz.prog 131:=enters_of (c:=aa Tryz.f131) Tryz.func131 (by kernel_rfl) (by kernel_rfl)
def cz (n:Nat):Entry:=⟨131,jX (.pair .str .unit) (.one .bool) (fun xs=>Ci n xs.1),none,none⟩
theorem ez (n:Nat):EntryOk Tryz.prog gl (cz n):=Aa (XF n) fun xs y h=>ma tys_ok (Hs n) mixed (hint:=Vg n) (n:=n) Tryz.func131 (Ea (TD n)) (na (φ:=(fun y=>some (Out.ret (Qb (.one .bool) y)))) (by kernel_rfl) (QL n xs.1 _) h)
def dz (n:Nat):List Entry:=cz n::jk n
theorem OB (n:Nat):AllOk Tryz.prog gl (dz n):=.cons (ez n) (Hs n)
def rb (n:Nat) (s:BA):Option Bool:=(wc n s).bind fun b=>if b=true then (Cc n s ⟨#[93]⟩).bind fun c=>if c=true then (if 2≤(s.size:Int)∧(s.size:Int)≤9223372036854775807 then Ff n (s.extract 1 (s.size - 1)) else none) else some false else Dom.domT (fun x=>ig n x Dom.dot) (Ci n) n s
theorem IB:Tryz.prog.funcs[103]?=some Tryz.f103:=by kernel_rfl
theorem JB (n:Nat):EntryOk Tryz.prog gl ⟨103,jX (.pair .str .unit) (.one .bool) (fun xs=>rb n xs.1),none,none⟩:=Aa (enters_of (c:=aa Tryz.f103) IB (by kernel_rfl) (by kernel_rfl)) fun xs y h=>by
  refine Iy (args:=[.string xs.1]) (v:=.bool y) (fun w0 hg hn=>?_)
  have hlit:∀ b,wc n xs.1=some b→∀ (w:World),Below w0.heap.size w0 w→Calls Tryz.prog 128 #[.string xs.1] w fun e w'=>e=.returned (.bool b)∧Below w.heap.size w w':=fun b hb' w hb=>
    rt (Em n) (args:=[.string xs.1]) (v:=.bool b) (by show (wc n xs.1).bind _=_;rw [hb'];rfl) hg hn hb
  have hsuf:∀ b,Cc n xs.1 ⟨#[93]⟩=some b→∀ (w:World),Below w0.heap.size w0 w→Calls Tryz.prog 59 #[.string xs.1,.string ⟨#[93]⟩] w fun e w'=>e=.returned (.bool b)∧Below w.heap.size w w':=fun b hb' w hb=>
    rt (Yn n) (args:=[.string xs.1,.string ⟨#[93]⟩]) (v:=.bool b) (by show (Cc n xs.1 ⟨#[93]⟩).bind _=_;rw [hb'];rfl) hg hn hb
  unfold rb at h
  obtain ⟨b,hb,h⟩:=Option.bind_eq_some_iff.1 h
  cases b with
  | true=>
    rw [if_pos rfl] at h
    obtain ⟨c,hc,h⟩:=Option.bind_eq_some_iff.1 h
    refine Dom.dom2 xs.1 c y w0 (hlit true hb) (hsuf c hc) (fun hc'=>?_) (fun hc'=>?_)
    · rw [if_pos hc'] at h
      split at h
      · rename_i hsz
        exact ⟨hsz,fun w hbw=>rt (Xr n) (args:=[.string (xs.1.extract 1 (xs.1.size - 1))]) (v:=.bool y) (by show (Ff n (xs.1.extract 1 (xs.1.size - 1))).bind _=_;rw [h];rfl) hg hn hbw⟩
      · cases h
    · rw [if_neg (by rw [hc'];simp)] at h
      exact (Option.some.inj h).symm
  | false=>
    rw [if_neg (by simp)] at h
    exact Dom.dom1 _ _ n xs.1 y w0 (fun x i w hbw hx=>rt (PA n) (args:=[.string x,.string Dom.dot]) (v:=.int .i64 i) (by show (ig n x Dom.dot).bind _=_;rw [hx];rfl) hg hn hbw)
      (fun x i w hbw hx=>rt (ez n) (args:=[.string x]) (v:=.bool i) (by show (Ci n x).bind _=_;rw [hx];rfl) hg hn hbw) (hlit false hb) h
def wj (n:Nat):List Entry:=⟨103,jX (.pair .str .unit) (.one .bool) (fun xs=>rb n xs.1),none,none⟩::dz n
theorem ek (n:Nat):AllOk Tryz.prog gl (wj n):=.cons (JB n) (OB n)
def ct (n:Nat) {R:Type} (s:BA) (k:Bool→Option R):Option R:=if (decide ((s.size:Int)≤(200:Int)))=true then (rb n s).bind fun v=>k v else k false
def Ae (n:Nat) (s:BA):Option Bool:=ct n s some
theorem NN (n:Nat) {S:Type}:∀ s (φ:_→Option S),(Ae n s).bind φ=ct n s φ:=by
  intros;unfold Ae ct;first | (simp only [ia,ba,iB,bB,oL,oX,nB,Option.bind_some]) | rfl
def Qw (n:Nat):Hint Out:={ live:=fun c=>[],run:=fun c=>none,xm:=fun c q=>none }
theorem BG (n:Nat):ta tys (fa Out (wj n)) (Qw n) n (aa Tryz.f74) 0:=oa (fun _=>rfl) _ _ (by kernel_rfl)
theorem XI (n:Nat):Enters Tryz.prog 74:=enters_of (c:=aa Tryz.f74) Tryz.func74 (by kernel_rfl) (by kernel_rfl)
def jD (n:Nat):Entry:=⟨74,jX (.pair .str .unit) (.one .bool) (fun xs=>Ae n xs.1),none,none⟩
theorem fM (n:Nat):EntryOk Tryz.prog gl (jD n):=Aa (XI n) fun xs y h=>ma tys_ok (ek n) mixed (hint:=Qw n) (n:=n) Tryz.func74 (Ea (BG n)) (na (φ:=(fun y=>some (Out.ret (Qb (.one .bool) y)))) (by kernel_rfl) (NN n xs.1 _) h)
def nv (n:Nat):List Entry:=jD n::wj n
theorem dt (n:Nat):AllOk Tryz.prog gl (nv n):=.cons (fM n) (ek n)
def Gy (n:Nat) {R:Type} (m0:U0) (k:BA→Option R):Option R:=if qf m0.1 (⟨#[64]⟩:BA)=true then if qf (m0.1++(⟨#[64]⟩:BA)) m0.2.1=true then k ((m0.1++(⟨#[64]⟩:BA))++m0.2.1) else none else none
def VC (n:Nat) (m0:U0):Option BA:=Gy n m0 some
theorem DP (n:Nat) {S:Type}:∀ m0 (φ:_→Option S),(VC n m0).bind φ=Gy n m0 φ:=by
  intros;unfold VC Gy;first | (simp only [ia,ba,iB,bB,oL,oX,nB,Option.bind_some]) | rfl
def Yy (n:Nat):Hint Out:={ live:=fun c=>[],run:=fun c=>none,xm:=fun c q=>none }
theorem zI (n:Nat):ta tys (fa Out (nv n)) (Yy n) n (aa Tryz.f97) 0:=oa (fun _=>rfl) _ _ (by kernel_rfl)
theorem KL (n:Nat):Enters Tryz.prog 97:=enters_of (c:=aa Tryz.f97) Tryz.func97 (by kernel_rfl) (by kernel_rfl)
def SF (n:Nat):Entry:=⟨97,jX (.pair (.pair .str (.pair .str .unit)) .unit) (.one .str) (fun xs=>VC n xs.1),none,none⟩
theorem yN (n:Nat):EntryOk Tryz.prog gl (SF n):=Aa (KL n) fun xs y h=>ma tys_ok (dt n) mixed (hint:=Yy n) (n:=n) Tryz.func97 (Ea (zI n)) (na (φ:=(fun y=>some (Out.ret (Qb (.one .str) y)))) (by kernel_rfl) (DP n xs.1 _) h)
def Xy (n:Nat):List Entry:=SF n::nv n
theorem Fm (n:Nat):AllOk Tryz.prog gl (Xy n):=.cons (yN n) (dt n)
def Zr (n:Nat) {R:Type} (ok:Bool) (k:(Unit)→Option R) (kp:Int→Option R):Option R:=if (!ok)=true then kp (8:Int) else k ()
def Sa (n:Nat) (ok:Bool):Option (Except Int (Unit)):=Zr n ok (fun y=>some (.ok y)) (fun p=>some (.error p))
theorem aG (n:Nat) {S:Type}:∀ ok (φ:_→Option S),(Sa n ok).bind φ=Zr n ok (fun y=>φ (.ok y)) (fun p=>φ (.error p)):=by
  intros;unfold Sa Zr;first | (simp only [ia,ba,iB,bB,oL,oX,nB,Option.bind_some]) | rfl
def Im (n:Nat):Hint Out:={ live:=fun c=>[],run:=fun c=>none,xm:=fun c q=>none }
theorem Dw (n:Nat):ta tys (fa Out (Xy n)) (Im n) n (aa Tryz.f167) 0:=oa (fun _=>rfl) _ _ (by kernel_rfl)
theorem FI (n:Nat):Enters Tryz.prog 167:=enters_of (c:=aa Tryz.f167) Tryz.func167 (by kernel_rfl) (by kernel_rfl)
def ZC (n:Nat):Entry:=⟨167,kX 184 (.pair .bool .unit) (.many .unit) (fun xs=>Sa n xs.1),none,none⟩
theorem RL (n:Nat):EntryOk Tryz.prog gl (ZC n):=Et (FI n) (fun xs y h=>ma tys_ok (Fm n) mixed (hint:=Im n) (n:=n) Tryz.func167 (Ea (Dw n)) (na (φ:=(fun r=>eX r (fun p=>some (Out.pan (de 184 p))) fun y=>some (Out.ret (Qb (.many .unit) y)))) (by kernel_rfl) (aG n xs.1 _) h)) (fun xs p h=>ma tys_ok (Fm n) mixed (hint:=Im n) (n:=n) Tryz.func167 (Ea (Dw n)) (na (φ:=(fun r=>eX r (fun p=>some (Out.pan (de 184 p))) fun y=>some (Out.ret (Qb (.many .unit) y)))) (by kernel_rfl) (aG n xs.1 _) h))
def Uu (n:Nat):List Entry:=ZC n::Xy n
theorem js (n:Nat):AllOk Tryz.prog gl (Uu n):=.cons (RL n) (Fm n)
def dg (n:Nat) {R:Type} (k:(BA×Unit)→Option R):Option R:=if ((0:Nat):Int)=0 then k ((⟨#[]⟩:BA),()) else none
def Se (n:Nat):Option (BA×Unit):=dg n some
theorem JC (n:Nat) {S:Type}:∀ (φ:_→Option S),(Se n).bind φ=dg n φ:=by
  intros;unfold Se dg;first | (simp only [ia,ba,iB,bB,oL,oX,nB,Option.bind_some]) | rfl
def Jk (n:Nat):Hint OutS:={ live:=fun c=>[],run:=fun c=>none,xm:=fun c q=>none,sch:=fun c=>(cond (Nat.beq c 1) (some [(0,0),(1,0),(2,0),(5,0),(6,0),(7,0),(3,1),(8,1),(9,0),(4,3),(10,2),(11,0)]) none) }
theorem Sv (n:Nat):ta tys (fa OutS (Uu n)) (Jk n) n (aa Tryz.f88) 0:=oa (fun _=>rfl) _ _ (by kernel_rfl)
theorem Xx (n:Nat):Enters Tryz.prog 88:=enters_of (c:=aa Tryz.f88) Tryz.func88 (by kernel_rfl) (by kernel_rfl)
def On:List RSp:=[.one (.ptr 0 0 0)]
def Nn:List RS:=[.box 126 2 true [.cn .nilp,.cn .nils]]
def Yx:List Sl:=[.ptr 0 0 0]
def Zx:List RSp:=[.one (.dat .str)]
def qe:List RS:=[.box 126 2 true [.cn .nilp,.cn .nils]]
def Rj (y:(BA×Unit)):OutS:=⟨false,un (Ue qe ((),())) Yx (),zD (pC (Ue qe ((),())) Zx ((y.1,()),())),Qu (Ue qe ((),())) qe ((),())⟩
theorem yA (n:Nat):EntryOk Tryz.prog gl ⟨88,Kj,none,some (rW On Nn (fun σ ρ=>Se n) Rj)⟩:=Ph (Xx n) fun σ ρ y h=>ic tys_ok (js n) mixed (hint:=Jk n) (n:=n) Tryz.func88 (Ea (Sv n)) (na (φ:=fun y=>some (Rj y)) (by kernel_rfl) (JC n _) h)
def Mn (n:Nat):List Entry:=⟨88,Kj,none,some (rW On Nn (fun σ ρ=>Se n) Rj)⟩::Uu n
theorem au (n:Nat):AllOk Tryz.prog gl (Mn n):=.cons (yA n) (js n)
theorem Ak:Tryz.prog.funcs[140]?=some Tryz.f140:=by kernel_rfl
theorem Bk:EntryOk Tryz.prog gl ⟨140,Kj,some .ident,none⟩:=yC Ak (by kernel_rfl) (by kernel_rfl) (by kernel_rfl) (by kernel_rfl)
def mc (n:Nat):List Entry:=⟨140,Kj,some .ident,none⟩::Mn n
theorem Ed (n:Nat):AllOk Tryz.prog gl (mc n):=.cons Bk (au n)
def Of (n:Nat) {R:Type} (k:Unit→Option R):Option R:=k ()
def Id (n:Nat):Option Unit:=Of n some
theorem Wv (n:Nat) {S:Type}:∀ (φ:_→Option S),(Id n).bind φ=Of n φ:=by
  intros;unfold Id Of;first | (simp only [ia,ba,iB,bB,oL,oX,nB,Option.bind_some]) | rfl
def Ng (n:Nat):Hint OutS:={ live:=fun c=>[],run:=fun c=>none,xm:=fun c q=>none }
theorem Ip (n:Nat):ta tys (fa OutS (mc n)) (Ng n) n (aa Tryz.f116) 0:=oa (fun _=>rfl) _ _ (by kernel_rfl)
theorem tr (n:Nat):Enters Tryz.prog 116:=enters_of (c:=aa Tryz.f116) Tryz.func116 (by kernel_rfl) (by kernel_rfl)
def ej:List RSp:=[.one (.ptr 0 0 0)]
def dj:List RS:=[.box 126 2 true [.cn .nilp,.cn .nils]]
def ur:List Sl:=[.ptr 0 0 0]
def vr:List RSp:=[]
def Qc:List RS:=[.box 126 2 false [.ptr 0 0 0,.cn .nils]]
def Pf (y:Unit):OutS:=⟨false,un (Ue Qc ((),())) ur (),zD (pC (Ue Qc ((),())) vr ()),Qu (Ue Qc ((),())) Qc ((),())⟩
theorem du (n:Nat):EntryOk Tryz.prog gl ⟨116,Kj,none,some (rW ej dj (fun σ ρ=>Id n) Pf)⟩:=Ph (tr n) fun σ ρ y h=>ic tys_ok (Ed n) mixed (hint:=Ng n) (n:=n) Tryz.func116 (Ea (Ip n)) (na (φ:=fun y=>some (Pf y)) (by kernel_rfl) (Wv n _) h)
def kf (n:Nat):List Entry:=⟨116,Kj,none,some (rW ej dj (fun σ ρ=>Id n) Pf)⟩::mc n
theorem sg (n:Nat):AllOk Tryz.prog gl (kf n):=.cons (du n) (Ed n)
def Lf (n:Nat) {R:Type} (c:Int) (k:U6→Option R):Option R:=(Id n).bind fun v=>if Ya (0+1) 1=true then k ((⟨(0+1),fun q=>if q<0 then (fun _=>sa (.int .u8)) q else (fun q=>List.getD (α:=Int) [c] q (sa (.int .u8))) (q - 0)⟩:Sq Int),()) else none
def Ra (n:Nat) (c:Int):Option U6:=Lf n c some
theorem Uv (n:Nat) {S:Type}:∀ c (φ:_→Option S),(Ra n c).bind φ=Lf n c φ:=by
  intros;unfold Ra Lf;first | (simp only [ia,ba,iB,bB,oL,oX,nB,Option.bind_some]) | rfl
def Lg (n:Nat):Hint OutS:={ live:=fun c=>[],run:=fun c=>none,xm:=fun c q=>none }
theorem Gp (n:Nat):ta tys (fa OutS (kf n)) (Lg n) n (aa Tryz.f198) 0:=oa (fun _=>rfl) _ _ (by kernel_rfl)
theorem lr (n:Nat):Enters Tryz.prog 198:=enters_of (c:=aa Tryz.f198) Tryz.func198 (by kernel_rfl) (by kernel_rfl)
def aj:List RSp:=[.one (.ptr 0 0 0),.one (.dat (.int .u8))]
def Zi:List RS:=[.box 126 2 true [.cn .nilp,.cn .nils]]
def mr:List Sl:=[.ptr 0 0 0,.top]
def nr:List RSp:=[.one (.cn .nili)]
def Oc:List RS:=[.box 126 2 false [.ptr 0 0 0,.row 1],.row 5 1 (.int .u8) true false]
def Mf (y:U6):OutS:=⟨false,un (Ue Oc ((),(y.1,()))) mr (),zD (pC (Ue Oc ((),(y.1,()))) nr ((),())),Qu (Ue Oc ((),(y.1,()))) Oc ((),(y.1,()))⟩
theorem bu (n:Nat):EntryOk Tryz.prog gl ⟨198,Kj,none,some (rW aj Zi (fun σ ρ=>Ra n σ.2.1.1) Mf)⟩:=Ph (lr n) fun σ ρ y h=>ic tys_ok (sg n) mixed (hint:=Lg n) (n:=n) Tryz.func198 (Ea (Gp n)) (na (φ:=fun y=>some (Mf y)) (by kernel_rfl) (Uv n σ.2.1.1 _) h)
def jf (n:Nat):List Entry:=⟨198,Kj,none,some (rW aj Zi (fun σ ρ=>Ra n σ.2.1.1) Mf)⟩::kf n
theorem rg (n:Nat):AllOk Tryz.prog gl (jf n):=.cons (bu n) (sg n)
def fg (n:Nat) {R:Type} (r1:(Sq Int)) (k:(BA×Unit)→Option R):Option R:=if (r1.n:Int)=(r1.n:Int)∧(r1.n:Int)≤9223372036854775807 then k ((Sk r1.n r1.at'),()) else none
def Bc (n:Nat) (r1:(Sq Int)):Option (BA×Unit):=fg n r1 some
theorem KC (n:Nat) {S:Type}:∀ r1 (φ:_→Option S),(Bc n r1).bind φ=fg n r1 φ:=by
  intros;unfold Bc fg;first | (simp only [ia,ba,iB,bB,oL,oX,nB,Option.bind_some]) | rfl
def Kk (n:Nat):Hint OutS:={ live:=fun c=>[],run:=fun c=>none,xm:=fun c q=>none,sch:=fun c=>(cond (Nat.beq c 1) (some [(0,0),(1,0),(2,0),(5,0),(6,0),(7,0),(3,1),(8,1),(9,0),(4,3),(10,2),(11,0)]) none) }
theorem Tv (n:Nat):ta tys (fa OutS (jf n)) (Kk n) n (aa Tryz.f88) 0:=oa (fun _=>rfl) _ _ (by kernel_rfl)
theorem cy (n:Nat):Enters Tryz.prog 88:=enters_of (c:=aa Tryz.f88) Tryz.func88 (by kernel_rfl) (by kernel_rfl)
def Qn:List RSp:=[.one (.ptr 0 0 0)]
def Pn:List RS:=[.box 126 2 false [.ptr 0 0 0,.row 1],.row 5 1 (.int .u8) true false]
def dy:List Sl:=[.ptr 0 0 0]
def ey:List RSp:=[.one (.dat .str)]
def se:List RS:=[.box 126 2 false [.ptr 0 0 0,.top]]
def Sj (y:(BA×Unit)):OutS:=⟨false,un (Ue se ((),())) dy (),zD (pC (Ue se ((),())) ey ((y.1,()),())),Qu (Ue se ((),())) se ((),())⟩
theorem AA (n:Nat):EntryOk Tryz.prog gl ⟨88,Kj,none,some (rW Qn Pn (fun σ ρ=>Bc n ρ.2.1) Sj)⟩:=Ph (cy n) fun σ ρ y h=>ic tys_ok (rg n) mixed (hint:=Kk n) (n:=n) Tryz.func88 (Ea (Tv n)) (na (φ:=fun y=>some (Sj y)) (by kernel_rfl) (KC n ρ.2.1 _) h)
def ii (n:Nat):List Entry:=⟨88,Kj,none,some (rW Qn Pn (fun σ ρ=>Bc n ρ.2.1) Sj)⟩::jf n
theorem Yi (n:Nat):AllOk Tryz.prog gl (ii n):=.cons (AA n) (rg n)
def Yd (n:Nat) {R:Type} (r1:(Sq Int)) (k:U6→Option R):Option R:=k (r1,())
def tc (n:Nat) (r1:(Sq Int)):Option U6:=Yd n r1 some
theorem Xv (n:Nat) {S:Type}:∀ r1 (φ:_→Option S),(tc n r1).bind φ=Yd n r1 φ:=by
  intros;unfold tc Yd;first | (simp only [ia,ba,iB,bB,oL,oX,nB,Option.bind_some]) | rfl
def Og (n:Nat):Hint OutS:={ live:=fun c=>[],run:=fun c=>none,xm:=fun c q=>none }
theorem Jp (n:Nat):ta tys (fa OutS (ii n)) (Og n) n (aa Tryz.f116) 0:=oa (fun _=>rfl) _ _ (by kernel_rfl)
theorem xr (n:Nat):Enters Tryz.prog 116:=enters_of (c:=aa Tryz.f116) Tryz.func116 (by kernel_rfl) (by kernel_rfl)
def gj:List RSp:=[.one (.ptr 0 0 0)]
def fj:List RS:=[.box 126 2 false [.ptr 0 0 0,.row 1],.row 5 1 (.int .u8) true false]
def yr:List Sl:=[.ptr 0 0 0]
def zr:List RSp:=[]
def Rc:List RS:=[.box 126 2 false [.ptr 0 0 0,.row 1],.row 5 1 (.int .u8) true false]
def Qf (y:U6):OutS:=⟨false,un (Ue Rc ((),(y.1,()))) yr (),zD (pC (Ue Rc ((),(y.1,()))) zr ()),Qu (Ue Rc ((),(y.1,()))) Rc ((),(y.1,()))⟩
theorem eu (n:Nat):EntryOk Tryz.prog gl ⟨116,Kj,none,some (rW gj fj (fun σ ρ=>tc n ρ.2.1) Qf)⟩:=Ph (xr n) fun σ ρ y h=>ic tys_ok (Yi n) mixed (hint:=Og n) (n:=n) Tryz.func116 (Ea (Jp n)) (na (φ:=fun y=>some (Qf y)) (by kernel_rfl) (Xv n ρ.2.1 _) h)
def lf (n:Nat):List Entry:=⟨116,Kj,none,some (rW gj fj (fun σ ρ=>tc n ρ.2.1) Qf)⟩::ii n
theorem tg (n:Nat):AllOk Tryz.prog gl (lf n):=.cons (eu n) (Yi n)
def Xd (n:Nat) {R:Type} (c:Int) (r1:(Sq Int)) (k:U6→Option R):Option R:=(tc n r1).bind fun v=>if Ya (v.1.n+1) 1=true then k ((⟨(v.1.n+1),fun q=>if q<v.1.n then v.1.at' q else (fun q=>List.getD (α:=Int) [c] q (sa (.int .u8))) (q - v.1.n)⟩:Sq Int),()) else none
def Ga (n:Nat) (c:Int) (r1:(Sq Int)):Option U6:=Xd n c r1 some
theorem Vv (n:Nat) {S:Type}:∀ c r1 (φ:_→Option S),(Ga n c r1).bind φ=Xd n c r1 φ:=by
  intros;unfold Ga Xd;first | (simp only [ia,ba,iB,bB,oL,oX,nB,Option.bind_some]) | rfl
def Mg (n:Nat):Hint OutS:={ live:=fun c=>[],run:=fun c=>none,xm:=fun c q=>none }
theorem Hp (n:Nat):ta tys (fa OutS (lf n)) (Mg n) n (aa Tryz.f198) 0:=oa (fun _=>rfl) _ _ (by kernel_rfl)
theorem qr (n:Nat):Enters Tryz.prog 198:=enters_of (c:=aa Tryz.f198) Tryz.func198 (by kernel_rfl) (by kernel_rfl)
def cj:List RSp:=[.one (.ptr 0 0 0),.one (.dat (.int .u8))]
def bj:List RS:=[.box 126 2 false [.ptr 0 0 0,.row 1],.row 5 1 (.int .u8) true false]
def rr:List Sl:=[.ptr 0 0 0,.top]
def sr:List RSp:=[.one (.cn .nili)]
def Pc:List RS:=[.box 126 2 false [.ptr 0 0 0,.row 1],.row 5 1 (.int .u8) true false]
def Nf (y:U6):OutS:=⟨false,un (Ue Pc ((),(y.1,()))) rr (),zD (pC (Ue Pc ((),(y.1,()))) sr ((),())),Qu (Ue Pc ((),(y.1,()))) Pc ((),(y.1,()))⟩
theorem cu (n:Nat):EntryOk Tryz.prog gl ⟨198,Kj,none,some (rW cj bj (fun σ ρ=>Ga n σ.2.1.1 ρ.2.1) Nf)⟩:=Ph (qr n) fun σ ρ y h=>ic tys_ok (tg n) mixed (hint:=Mg n) (n:=n) Tryz.func198 (Ea (Hp n)) (na (φ:=fun y=>some (Nf y)) (by kernel_rfl) (Vv n σ.2.1.1 ρ.2.1 _) h)
def Ub (n:Nat):List Entry:=⟨198,Kj,none,some (rW cj bj (fun σ ρ=>Ga n σ.2.1.1 ρ.2.1) Nf)⟩::lf n
theorem Hd (n:Nat):AllOk Tryz.prog gl (Ub n):=.cons (cu n) (tg n)
def Va (n:Nat) {R:Type} (s1:BA) (i:Int) (r1:(Sq Int)) (kn:BA→Int→(Sq Int)→Option R) (ko:Unit→Option R) (kr:(BA×BA)→Option R) (kp:Int→Option R):Option R:=(Sa n (decide (i<(s1.size:Int)))).bind fun x_1=>eX x_1 (fun p3=>kp p3) (fun v5=>if 0≤i∧i<(s1.size:Int) then if ((bt s1 i)==(34:Int))=true then if 0≤(IntKind.wrap .i64 (i+(1:Int)))∧(IntKind.wrap .i64 (i+(1:Int)))≤(s1.size:Int) then (Bc n r1).bind fun v6=>kr (v6.1,(s1.extract (Int.toNat (IntKind.wrap .i64 (i+(1:Int)))) (Int.toNat (s1.size:Int)))) else none else if 0≤i∧i<(s1.size:Int) then if ((bt s1 i)==(92:Int))=true then (Sa n (decide ((IntKind.wrap .i64 (i+(1:Int)))<(s1.size:Int)))).bind fun x_2=>eX x_2 (fun p4=>kp p4) (fun v7=>if 0≤(IntKind.wrap .i64 (i+(1:Int)))∧(IntKind.wrap .i64 (i+(1:Int)))<(s1.size:Int) then if (decide ((bt s1 (IntKind.wrap .i64 (i+(1:Int))))≥(32:Int)))=true then if 0≤(IntKind.wrap .i64 (i+(1:Int)))∧(IntKind.wrap .i64 (i+(1:Int)))<(s1.size:Int) then (Sa n (decide ((bt s1 (IntKind.wrap .i64 (i+(1:Int))))≤(126:Int)))).bind fun x_3=>eX x_3 (fun p5=>kp p5) (fun v8=>if 0≤(IntKind.wrap .i64 (i+(1:Int)))∧(IntKind.wrap .i64 (i+(1:Int)))<(s1.size:Int) then (Ga n (bt s1 (IntKind.wrap .i64 (i+(1:Int)))) r1).bind fun v9=>
 kn s1 (IntKind.wrap .i64 ((IntKind.wrap .i64 (i+(1:Int)))+(1:Int))) v9.1 else none) else none else (Sa n false).bind fun x_4=>eX x_4 (fun p6=>kp p6) (fun v10=>if 0≤(IntKind.wrap .i64 (i+(1:Int)))∧(IntKind.wrap .i64 (i+(1:Int)))<(s1.size:Int) then (Ga n (bt s1 (IntKind.wrap .i64 (i+(1:Int)))) r1).bind fun v11=>kn s1 (IntKind.wrap .i64 ((IntKind.wrap .i64 (i+(1:Int)))+(1:Int))) v11.1 else none) else none) else if 0≤i∧i<(s1.size:Int) then if (decide ((bt s1 i)≥(32:Int)))=true then if 0≤i∧i<(s1.size:Int) then (Sa n (decide ((bt s1 i)≤(126:Int)))).bind fun x_5=>eX x_5 (fun p7=>kp p7) (fun v12=>if 0≤i∧i<(s1.size:Int) then (Ga n (bt s1 i) r1).bind fun v13=>kn s1 (IntKind.wrap .i64 (i+(1:Int))) v13.1 else none) else none else (Sa n false).bind fun x_6=>eX x_6 (fun p8=>kp p8) (fun v14=>if 0≤i∧i<(s1.size:Int) then (Ga n (bt s1 i) r1).bind fun v15=>kn s1 (IntKind.wrap .i64 (i+(1:Int))) v15.1 else none) else none else none else none)
def ya (n:Nat):Nat→BA→Int→(Sq Int)→Option (Lx Unit (BA×BA))
 | 0,_,_,_=>none
 | m+1,s1,i,r1=>Va n s1 i r1 (ya n m) (fun a=>some (.out a)) (fun a=>some (.ret a)) (fun p=>some (.pan p))
theorem SB (n m:Nat) {S:Type}:∀ s1 i r1 (φ:_→Option S),(ya n (m+1) s1 i r1).bind φ=Va n s1 i r1 (fun s1 i r1=>(ya n m s1 i r1).bind φ) (fun a=>φ (.out a)) (fun a=>φ (.ret a)) (fun p=>φ (.pan p)):=by
  intros;first | (simp only [ya,Va,ia,ba,iB,bB,oL,oX,nB,Option.bind_some]) | rfl
def Gh:List Sl:=.dat .str::.top::.top::.top::.ptr 0 0 0::.dat (.int .i64)::tp 42 []
def Fh:List RS:=[.box 126 2 false [.ptr 0 0 0,.row 1],.row 5 1 (.int .u8) true false]
def Fq:List Sl:=.top::.top::.dat .str::.dat .str::tp 44 []
def Dq:List RS:=[]
def Yb (K:XE→List AV→la→Option Out):Lx Unit (BA×BA)→Option Out:=fun x=>dX x (fun _=>none) (fun a=>Zh Fq Dq (a.1,(a.2,())) () (K .ret)) (fun p=>K (.panic (de 184 p)) (List.replicate 48 .top) [])
def Xb (n:Nat) {R:Type} (s:BA) (k:(BA×BA×Unit)→Option R) (kp:Int→Option R):Option R:=(Sa n (decide ((1:Int)<(s.size:Int)))).bind fun x_1=>eX x_1 (fun p=>kp p) (fun v=>if 0≤(1:Int)∧(1:Int)<(s.size:Int) then if ((bt s (1:Int))==(34:Int))=true then if 0≤(IntKind.wrap .i64 ((1:Int)+(1:Int)))∧(IntKind.wrap .i64 ((1:Int)+(1:Int)))≤(s.size:Int) then (Se n).bind fun v1=>k (v1.1,((s.extract (Int.toNat (IntKind.wrap .i64 ((1:Int)+(1:Int)))) (Int.toNat (s.size:Int))),())) else none else if 0≤(1:Int)∧(1:Int)<(s.size:Int) then if ((bt s (1:Int))==(92:Int))=true then (Sa n (decide ((IntKind.wrap .i64 ((1:Int)+(1:Int)))<(s.size:Int)))).bind fun x_2=>eX x_2 (fun p1=>kp p1) (fun v2=>if 0≤(IntKind.wrap .i64 ((1:Int)+(1:Int)))∧(IntKind.wrap .i64 ((1:Int)+(1:Int)))<(s.size:Int) then if (decide ((bt s (IntKind.wrap .i64 ((1:Int)+(1:Int))))≥(32:Int)))=true then if 0≤(IntKind.wrap .i64 ((1:Int)+(1:Int)))∧(IntKind.wrap .i64 ((1:Int)+(1:Int)))<(s.size:Int) then (Sa n (decide ((bt s (IntKind.wrap .i64 ((1:Int)+(1:Int))))≤(126:Int)))).bind fun x_3=>eX x_3 (fun p2=>kp p2) (fun v3=>if 0≤(IntKind.wrap .i64 ((1:Int)+(1:Int)))∧(IntKind.wrap .i64 ((1:Int)+(1:Int)))<(s.size:Int) then (Ra n (bt s (IntKind.wrap .i64 ((1:Int)+(1:Int))))).bind fun v4=>
 (ya n n s (IntKind.wrap .i64 ((IntKind.wrap .i64 ((1:Int)+(1:Int)))+(1:Int))) v4.1).bind fun x_4=>dX x_4 (fun _=>none) (fun a_5=>k (a_5.1,(a_5.2,()))) (fun p9=>kp p9) else none) else none else (Sa n false).bind fun x_6=>eX x_6 (fun p10=>kp p10) (fun v16=>if 0≤(IntKind.wrap .i64 ((1:Int)+(1:Int)))∧(IntKind.wrap .i64 ((1:Int)+(1:Int)))<(s.size:Int) then (Ra n (bt s (IntKind.wrap .i64 ((1:Int)+(1:Int))))).bind fun v17=>(ya n n s (IntKind.wrap .i64 ((IntKind.wrap .i64 ((1:Int)+(1:Int)))+(1:Int))) v17.1).bind fun x_7=>dX x_7 (fun _=>none) (fun a_8=>k (a_8.1,(a_8.2,()))) (fun p11=>kp p11) else none) else none) else if 0≤(1:Int)∧(1:Int)<(s.size:Int) then if (decide ((bt s (1:Int))≥(32:Int)))=true then if 0≤(1:Int)∧(1:Int)<(s.size:Int) then (Sa n (decide ((bt s (1:Int))≤(126:Int)))).bind fun x_9=>eX x_9 (fun p12=>kp p12) (fun v18=>if 0≤(1:Int)∧(1:Int)<(s.size:Int) then (Ra n (bt s (1:Int))).bind fun v19=>(ya n n s (IntKind.wrap .i64 ((1:Int)+(1:Int))) v19.1).bind fun x_10=>dX x_10 (fun _=>none) (fun a_11=>k (a_11.1,(a_11.2,()))) (fun p13=>kp p13) else none) else none else (Sa n false).bind fun x_12=>eX x_12 (fun p14=>kp p14) (fun v20=>if 0≤(1:Int)∧(1:Int)<(s.size:Int) then (Ra n (bt s (1:Int))).bind fun v21=>
 (ya n n s (IntKind.wrap .i64 ((1:Int)+(1:Int))) v21.1).bind fun x_13=>dX x_13 (fun _=>none) (fun a_14=>k (a_14.1,(a_14.2,()))) (fun p15=>kp p15) else none) else none else none else none)
def Kb (n:Nat) (s:BA):Option (Except Int (BA×BA×Unit)):=Xb n s (fun y=>some (.ok y)) (fun p=>some (.error p))
theorem nz (n:Nat) {S:Type}:∀ s (φ:_→Option S),(Kb n s).bind φ=Xb n s (fun y=>φ (.ok y)) (fun p=>φ (.error p)):=by
  intros;unfold Kb Xb;first | (simp only [ia,ba,iB,bB,oL,oX,nB,Option.bind_some]) | rfl
def je (n:Nat):Hint Out:={ live:=fun c=>(cond (Nat.beq c 0) (lv [0,4,5]) []),run:=fun c=>(cond (Nat.beq c 0) (some (pq Gh Fh fun σ ρ K=>(ya n n σ.1 σ.2.1 ρ.2.1).bind (Yb K))) none),xm:=fun c q=>(cond (Nat.beq c 1&&q.isNone) (some [(2,none),(3,none)]) none),sch:=fun c=>(cond (Nat.beq c 6) (some [(1,0),(2,0),(3,0),(4,0),(0,2),(5,0),(6,0)]) none),pl:=fun c=>Nat.beq c 0 }
def Vf (n:Nat) (K:XE→List AV→la→Option Out) (m:Nat) (s1:BA) (i:Int) (r1:(Sq Int)):Option Out:=cf tys (fa Out (Ub n)) (je n) n (Ba [1,1,1,0,0] (aa Tryz.f183)) 0 Gh Fh K m (s1,(i,())) ((),(r1,()))
theorem Up (n:Nat) (K:XE→List AV→la→Option Out):∀ (m:Nat) s1 i r1,Vf n K m s1 i r1=(ya n m s1 i r1).bind (Yb K)
  | 0,_,_,_=>by kernel_rfl
  | m+1,s1,i,r1=>by
    have h1:Vf n K (m+1) s1 i r1=Va n s1 i r1 (Vf n K m) (fun a=>Yb K (.out a)) (fun a=>Yb K (.ret a)) (fun p=>Yb K (.pan p)):=by kernel_rfl
    have h2:Vf n K m=fun s1 i r1=>(ya n m s1 i r1).bind (Yb K):=by
      repeat (refine funext fun _=>?_)
      exact Up n K m _ _ _
    rw [h1,h2];exact (SB n m _ _ _ (Yb K)).symm
theorem mz (n:Nat):ie tys (fa Out (Ub n)) (je n) n (Ba [1,1,1,0,0] (aa Tryz.f183)) 0:=La (sp:=Gh) (rp:=Fh) (by kernel_rfl) fun K σ ρ=>Up n K n σ.1 σ.2.1 ρ.2.1
theorem Vp (n:Nat):ta tys (fa Out (Ub n)) (je n) n (aa Tryz.f183) 0:=⟨trivial,⟨trivial,⟨trivial,⟨mz n,⟨⟨trivial,⟨⟨trivial,⟨⟨trivial,trivial⟩,trivial⟩⟩,⟨⟨trivial,⟨⟨trivial,trivial⟩,trivial⟩⟩,⟨trivial,trivial⟩⟩⟩⟩,trivial⟩⟩⟩⟩⟩
theorem YD (n:Nat):Enters Tryz.prog 183:=enters_of (c:=aa Tryz.f183) Tryz.func183 (by kernel_rfl) (by kernel_rfl)
def Ew (n:Nat):Entry:=⟨183,kX 184 (.pair .str .unit) (.many (.pair .str (.pair .str .unit))) (fun xs=>Kb n xs.1),none,none⟩
theorem dG (n:Nat):EntryOk Tryz.prog gl (Ew n):=Et (YD n) (fun xs y h=>ma tys_ok (Hd n) mixed (hint:=je n) (n:=n) Tryz.func183 (Ea (Vp n)) (na (φ:=(fun r=>eX r (fun p=>some (Out.pan (de 184 p))) fun y=>some (Out.ret (Qb (.many (.pair .str (.pair .str .unit))) y)))) (by kernel_rfl) (nz n xs.1 _) h)) (fun xs p h=>ma tys_ok (Hd n) mixed (hint:=je n) (n:=n) Tryz.func183 (Ea (Vp n)) (na (φ:=(fun r=>eX r (fun p=>some (Out.pan (de 184 p))) fun y=>some (Out.ret (Qb (.many (.pair .str (.pair .str .unit))) y)))) (by kernel_rfl) (nz n xs.1 _) h))
def Jm (n:Nat):List Entry:=Ew n::Ub n
theorem Km (n:Nat):AllOk Tryz.prog gl (Jm n):=.cons (dG n) (Hd n)
def jg (n:Nat) {R:Type} (s:BA) (c:Int) (k:Int→Option R):Option R:=(Dd n s c).bind fun v=>k v
def Dc (n:Nat) (s:BA) (c:Int):Option Int:=jg n s c some
theorem OC (n:Nat) {S:Type}:∀ s c (φ:_→Option S),(Dc n s c).bind φ=jg n s c φ:=by
  intros;unfold Dc jg;first | (simp only [ia,ba,iB,bB,oL,oX,nB,Option.bind_some]) | rfl
def Qk (n:Nat):Hint Out:={ live:=fun c=>[],run:=fun c=>none,xm:=fun c q=>none }
theorem dw (n:Nat):ta tys (fa Out (Jm n)) (Qk n) n (aa Tryz.f185) 0:=oa (fun _=>rfl) _ _ (by kernel_rfl)
theorem my (n:Nat):Enters Tryz.prog 185:=enters_of (c:=aa Tryz.f185) Tryz.func185 (by kernel_rfl) (by kernel_rfl)
def Zn (n:Nat):Entry:=⟨185,jX (.pair .str (.pair (.int .u8) .unit)) (.one (.int .i64)) (fun xs=>Dc n xs.1 xs.2.1),none,none⟩
theorem NA (n:Nat):EntryOk Tryz.prog gl (Zn n):=Aa (my n) fun xs y h=>ma tys_ok (Km n) mixed (hint:=Qk n) (n:=n) Tryz.func185 (Ea (dw n)) (na (φ:=(fun y=>some (Out.ret (Qb (.one (.int .i64)) y)))) (by kernel_rfl) (OC n xs.1 xs.2.1 _) h)
def pi (n:Nat):List Entry:=Zn n::Jm n
theorem jj (n:Nat):AllOk Tryz.prog gl (pi n):=.cons (NA n) (Km n)
def Nr (n:Nat) {R:Type} (c:Int) (k:Bool→Option R):Option R:=(Gq n c).bind fun v=>if v=false then if (decide (c≥(65:Int)))=true then if (decide (c≤(90:Int)))=false then (Dc n (⟨#[33,35,36,37,38,39,42,43,45,47,61,63,94,95,96,123,124,125,126]⟩:BA) c).bind fun v1=>k (decide (v1≥(0:Int))) else k true else (Dc n (⟨#[33,35,36,37,38,39,42,43,45,47,61,63,94,95,96,123,124,125,126]⟩:BA) c).bind fun v2=>k (decide (v2≥(0:Int))) else k true
def Bq (n:Nat) (c:Int):Option Bool:=Nr n c some
theorem BN (n:Nat) {S:Type}:∀ c (φ:_→Option S),(Bq n c).bind φ=Nr n c φ:=by
  intros;unfold Bq Nr;first | (simp only [ia,ba,iB,bB,oL,oX,nB,Option.bind_some]) | rfl
def Cw (n:Nat):Hint Out:={ live:=fun c=>[],run:=fun c=>none,xm:=fun c q=>none }
theorem WF (n:Nat):ta tys (fa Out (pi n)) (Cw n) n (aa Tryz.f199) 0:=oa (fun _=>rfl) _ _ (by kernel_rfl)
theorem DI (n:Nat):Enters Tryz.prog 199:=enters_of (c:=aa Tryz.f199) Tryz.func199 (by kernel_rfl) (by kernel_rfl)
def XC (n:Nat):Entry:=⟨199,jX (.pair (.int .u8) .unit) (.one .bool) (fun xs=>Bq n xs.1),none,none⟩
theorem PL (n:Nat):EntryOk Tryz.prog gl (XC n):=Aa (DI n) fun xs y h=>ma tys_ok (jj n) mixed (hint:=Cw n) (n:=n) Tryz.func199 (Ea (WF n)) (na (φ:=(fun y=>some (Out.ret (Qb (.one .bool) y)))) (by kernel_rfl) (BN n xs.1 _) h)
def ik (n:Nat):List Entry:=XC n::pi n
theorem Pr (n:Nat):AllOk Tryz.prog gl (ik n):=.cons (PL n) (jj n)
def Gf (n:Nat) {R:Type} (s1:BA) (word t6 t7:Int) (kn:BA→Int→Int→Int→Option R) (ko:(Int)→Option R) (kr:(Bool)→Option R) (kp:Int→Option R):Option R:=if (decide (t7<t6))=true then if 0≤t7∧t7<(s1.size:Int) then if ((bt s1 t7)==(46:Int))=true then if (word==(0:Int))=false then if 0≤t7∧t7<(s1.size:Int) then if ((bt s1 t7) !=(46:Int))=true then if 0≤t7∧t7<(s1.size:Int) then (Bq n (bt s1 t7)).bind fun v=>if (!v)=true then kr false else if 0≤t7∧t7<(s1.size:Int) then if ((bt s1 t7)==(46:Int))=true then kn s1 (0:Int) t6 (IntKind.wrap .i64 (t7+(1:Int))) else kn s1 (IntKind.wrap .i64 (word+(1:Int))) t6 (IntKind.wrap .i64 (t7+(1:Int))) else none else none else if 0≤t7∧t7<(s1.size:Int) then if ((bt s1 t7)==(46:Int))=true then kn s1 (0:Int) t6 (IntKind.wrap .i64 (t7+(1:Int))) else kn s1 (IntKind.wrap .i64 (word+(1:Int))) t6 (IntKind.wrap .i64 (t7+(1:Int))) else none else none else kr false else if 0≤t7∧t7<(s1.size:Int) then if ((bt s1 t7) !=(46:Int))=true then if 0≤t7∧t7<(s1.size:Int) then (Bq n (bt s1 t7)).bind fun v1=>if (!v1)=true then kr false else if 0≤t7∧t7<(s1.size:Int) then if ((bt s1 t7)==(46:Int))=true then kn s1 (0:Int) t6 (IntKind.wrap .i64 (t7+(1:Int))) else kn s1 (IntKind.wrap .i64 (word+(1:Int))) t6 (IntKind.wrap .i64 (t7+(1:Int))) else none else none
 else if 0≤t7∧t7<(s1.size:Int) then if ((bt s1 t7)==(46:Int))=true then kn s1 (0:Int) t6 (IntKind.wrap .i64 (t7+(1:Int))) else kn s1 (IntKind.wrap .i64 (word+(1:Int))) t6 (IntKind.wrap .i64 (t7+(1:Int))) else none else none else none else ko word
def Jb (n:Nat):Nat→BA→Int→Int→Int→Option (Lx (Int) (Bool))
 | 0,_,_,_,_=>none
 | m+1,s1,word,t6,t7=>Gf n s1 word t6 t7 (Jb n m) (fun a=>some (.out a)) (fun a=>some (.ret a)) (fun p=>some (.pan p))
theorem UD (n m:Nat) {S:Type}:∀ s1 word t6 t7 (φ:_→Option S),(Jb n (m+1) s1 word t6 t7).bind φ=Gf n s1 word t6 t7 (fun s1 word t6 t7=>(Jb n m s1 word t6 t7).bind φ) (fun a=>φ (.out a)) (fun a=>φ (.ret a)) (fun p=>φ (.pan p)):=by
  intros;first | (simp only [Jb,Gf,ia,ba,iB,bB,oL,oX,nB,Option.bind_some]) | rfl
def Aj:List Sl:=.dat .str::.top::.top::.dat (.int .i64)::.top::.top::.dat (.int .i64)::.dat (.int .i64)::tp 32 []
def zj:List RS:=[]
def ws:List Sl:=.top::.top::.top::.dat (.int .i64)::tp 36 []
def ss:List RS:=[]
def Bs:List Sl:=.top::.top::.dat .bool::tp 37 []
def As:List RS:=[]
def Fc (K:XE→List AV→la→Option Out):Lx (Int) (Bool)→Option Out:=fun x=>dX x (fun a=>Zh ws ss (a,()) () (K (.exit 0))) (fun a=>Zh Bs As (a,()) () (K .ret)) (fun _=>none)
def Eo (n:Nat) {R:Type} (s:BA) (k:Bool→Option R):Option R:=(Jb n n s (0:Int) (s.size:Int) (0:Int)).bind fun x_1=>dX x_1 (fun a_2=>k (decide (a_2>(0:Int)))) (fun a_3=>k a_3) (fun _=>none)
def Ei (n:Nat) (s:BA):Option Bool:=Eo n s some
theorem SL (n:Nat) {S:Type}:∀ s (φ:_→Option S),(Ei n s).bind φ=Eo n s φ:=by
  intros;unfold Ei Eo;first | (simp only [ia,ba,iB,bB,oL,oX,nB,Option.bind_some]) | rfl
def Xg (n:Nat):Hint Out:={ live:=fun c=>(cond (Nat.beq c 0) (lv [0,3,6,7]) []),run:=fun c=>(cond (Nat.beq c 0) (some (pq Aj zj fun σ ρ K=>(Jb n n σ.1 σ.2.1 σ.2.2.1 σ.2.2.2.1).bind (Fc K))) none),xm:=fun c q=>(cond (Nat.beq c 0&&Nat.beq (q.getD 1000000) 0&&q.isSome) (some [(3,none)]) (cond (Nat.beq c 1&&q.isNone) (some [(2,none)]) none)) }
def Wg (n:Nat) (K:XE→List AV→la→Option Out) (m:Nat) (s1:BA) (word:Int) (t6:Int) (t7:Int):Option Out:=cf tys (fa Out (ik n)) (Xg n) n (Ba [1,1,0,1,0,0] (aa Tryz.f186)) 0 Aj zj K m (s1,(word,(t6,(t7,())))) ()
theorem ks (n:Nat) (K:XE→List AV→la→Option Out):∀ (m:Nat) s1 word t6 t7,Wg n K m s1 word t6 t7=(Jb n m s1 word t6 t7).bind (Fc K)
  | 0,_,_,_,_=>by kernel_rfl
  | m+1,s1,word,t6,t7=>by
    have h1:Wg n K (m+1) s1 word t6 t7=Gf n s1 word t6 t7 (Wg n K m) (fun a=>Fc K (.out a)) (fun a=>Fc K (.ret a)) (fun p=>Fc K (.pan p)):=by kernel_rfl
    have h2:Wg n K m=fun s1 word t6 t7=>(Jb n m s1 word t6 t7).bind (Fc K):=by
      repeat (refine funext fun _=>?_)
      exact ks n K m _ _ _ _
    rw [h1,h2];exact (UD n m _ _ _ _ (Fc K)).symm
theorem QB (n:Nat):ie tys (fa Out (ik n)) (Xg n) n (Ba [1,1,0,1,0,0] (aa Tryz.f186)) 0:=La (sp:=Aj) (rp:=zj) (by kernel_rfl) fun K σ ρ=>ks n K n σ.1 σ.2.1 σ.2.2.1 σ.2.2.2.1
theorem VD (n:Nat):ta tys (fa Out (ik n)) (Xg n) n (aa Tryz.f186) 0:=⟨trivial,⟨trivial,⟨⟨trivial,⟨QB n,⟨trivial,⟨⟨trivial,trivial⟩,⟨⟨trivial,⟨⟨trivial,⟨⟨trivial,trivial⟩,trivial⟩⟩,⟨trivial,⟨trivial,⟨trivial,trivial⟩⟩⟩⟩⟩,trivial⟩⟩⟩⟩⟩,⟨trivial,trivial⟩⟩⟩⟩
theorem bG (n:Nat):Enters Tryz.prog 186:=enters_of (c:=aa Tryz.f186) Tryz.func186 (by kernel_rfl) (by kernel_rfl)
def kz (n:Nat):Entry:=⟨186,jX (.pair .str .unit) (.one .bool) (fun xs=>Ei n xs.1),none,none⟩
theorem GI (n:Nat):EntryOk Tryz.prog gl (kz n):=Aa (bG n) fun xs y h=>ma tys_ok (Pr n) mixed (hint:=Xg n) (n:=n) Tryz.func186 (Ea (VD n)) (na (φ:=(fun y=>some (Out.ret (Qb (.one .bool) y)))) (by kernel_rfl) (SL n xs.1 _) h)
def Eh (n:Nat):List Entry:=kz n::ik n
theorem Tp (n:Nat):AllOk Tryz.prog gl (Eh n):=.cons (GI n) (Pr n)
def ud (n:Nat) {R:Type} (s1:BA) (t10 t11:Int) (r1:(Sq Int)) (kn:BA→Int→Int→(Sq Int)→Option R) (ko:((Sq Int))→Option R) (kr:Unit→Option R) (kp:Int→Option R):Option R:=if (decide (t11<t10))=true then if 0≤t11∧t11<(s1.size:Int) then if ((bt s1 t11)==(34:Int))=false then if 0≤t11∧t11<(s1.size:Int) then if ((bt s1 t11)==(92:Int))=true then (Ga n (92:Int) r1).bind fun v2=>if 0≤t11∧t11<(s1.size:Int) then (Ga n (bt s1 t11) v2.1).bind fun v3=>kn s1 t10 (IntKind.wrap .i64 (t11+(1:Int))) v3.1 else none else if 0≤t11∧t11<(s1.size:Int) then (Ga n (bt s1 t11) r1).bind fun v4=>kn s1 t10 (IntKind.wrap .i64 (t11+(1:Int))) v4.1 else none else none else (Ga n (92:Int) r1).bind fun v5=>if 0≤t11∧t11<(s1.size:Int) then (Ga n (bt s1 t11) v5.1).bind fun v6=>kn s1 t10 (IntKind.wrap .i64 (t11+(1:Int))) v6.1 else none else none else ko r1
def tb (n:Nat):Nat→BA→Int→Int→(Sq Int)→Option (Lx ((Sq Int)) Unit)
 | 0,_,_,_,_=>none
 | m+1,s1,t10,t11,r1=>ud n s1 t10 t11 r1 (tb n m) (fun a=>some (.out a)) (fun a=>some (.ret a)) (fun p=>some (.pan p))
theorem WD (n m:Nat) {S:Type}:∀ s1 t10 t11 r1 (φ:_→Option S),(tb n (m+1) s1 t10 t11 r1).bind φ=ud n s1 t10 t11 r1 (fun s1 t10 t11 r1=>(tb n m s1 t10 t11 r1).bind φ) (fun a=>φ (.out a)) (fun a=>φ (.ret a)) (fun p=>φ (.pan p)):=by
  intros;first | (simp only [tb,ud,ia,ba,iB,bB,oL,oX,nB,Option.bind_some]) | rfl
def Cj:List Sl:=.dat .str::.top::.top::.ptr 0 0 0::tp 6 (.dat (.int .i64)::.dat (.int .i64)::tp 20 [])
def Bj:List RS:=[.box 126 2 false [.ptr 0 0 0,.row 1],.row 5 1 (.int .u8) true false]
def Es:List Sl:=.top::.top::.top::.ptr 0 0 0::tp 28 []
def Ds:List RS:=[.box 126 2 false [.ptr 0 0 0,.row 1],.row 5 1 (.int .u8) true false]
def Gc (K:XE→List AV→la→Option Out):Lx ((Sq Int)) Unit→Option Out:=fun x=>dX x (fun a=>Zh Es Ds () ((),(a,())) (K (.exit 0))) (fun _=>none) (fun _=>none)
def Ho (n:Nat) {R:Type} (s:BA) (k:BA→Option R):Option R:=(Ei n s).bind fun v=>if v=true then k s else (Ra n (34:Int)).bind fun v1=>(tb n n s (s.size:Int) (0:Int) v1.1).bind fun x_1=>dX x_1 (fun a_2=>(Bc n a_2).bind fun v7=>if qf v7.1 (⟨#[34]⟩:BA)=true then k (v7.1++(⟨#[34]⟩:BA)) else none) (fun _=>none) (fun _=>none)
def Fo (n:Nat) (s:BA):Option BA:=Ho n s some
theorem TL (n:Nat) {S:Type}:∀ s (φ:_→Option S),(Fo n s).bind φ=Ho n s φ:=by
  intros;unfold Fo Ho;first | (simp only [ia,ba,iB,bB,oL,oX,nB,Option.bind_some]) | rfl
def Zg (n:Nat):Hint Out:={ live:=fun c=>(cond (Nat.beq c 0) (lv [0,3,10,11]) []),run:=fun c=>(cond (Nat.beq c 0) (some (pq Cj Bj fun σ ρ K=>(tb n n σ.1 σ.2.1 σ.2.2.1 ρ.2.1).bind (Gc K))) none),xm:=fun c q=>(cond (Nat.beq c 0&&Nat.beq (q.getD 1000000) 0&&q.isSome) (some [(3,none)]) none) }
def Yg (n:Nat) (K:XE→List AV→la→Option Out) (m:Nat) (s1:BA) (t10:Int) (t11:Int) (r1:(Sq Int)):Option Out:=cf tys (fa Out (Eh n)) (Zg n) n (Ba [1,1,1,1,0,1,0,0] (aa Tryz.f184)) 0 Cj Bj K m (s1,(t10,(t11,()))) ((),(r1,()))
theorem Cs (n:Nat) (K:XE→List AV→la→Option Out):∀ (m:Nat) s1 t10 t11 r1,Yg n K m s1 t10 t11 r1=(tb n m s1 t10 t11 r1).bind (Gc K)
  | 0,_,_,_,_=>by kernel_rfl
  | m+1,s1,t10,t11,r1=>by
    have h1:Yg n K (m+1) s1 t10 t11 r1=ud n s1 t10 t11 r1 (Yg n K m) (fun a=>Gc K (.out a)) (fun a=>Gc K (.ret a)) (fun p=>Gc K (.pan p)):=by kernel_rfl
    have h2:Yg n K m=fun s1 t10 t11 r1=>(tb n m s1 t10 t11 r1).bind (Gc K):=by
      repeat (refine funext fun _=>?_)
      exact Cs n K m _ _ _ _
    rw [h1,h2];exact (WD n m _ _ _ _ (Gc K)).symm
theorem RB (n:Nat):ie tys (fa Out (Eh n)) (Zg n) n (Ba [1,1,1,1,0,1,0,0] (aa Tryz.f184)) 0:=La (sp:=Cj) (rp:=Bj) (by kernel_rfl) fun K σ ρ=>Cs n K n σ.1 σ.2.1 σ.2.2.1 ρ.2.1
theorem XD (n:Nat):ta tys (fa Out (Eh n)) (Zg n) n (aa Tryz.f184) 0:=⟨trivial,⟨⟨trivial,⟨⟨trivial,trivial⟩,trivial⟩⟩,⟨trivial,⟨trivial,⟨⟨trivial,⟨RB n,⟨trivial,⟨⟨trivial,trivial⟩,⟨⟨trivial,⟨⟨trivial,⟨trivial,trivial⟩⟩,trivial⟩⟩,trivial⟩⟩⟩⟩⟩,⟨trivial,trivial⟩⟩⟩⟩⟩⟩
theorem cG (n:Nat):Enters Tryz.prog 184:=enters_of (c:=aa Tryz.f184) Tryz.func184 (by kernel_rfl) (by kernel_rfl)
def lz (n:Nat):Entry:=⟨184,jX (.pair .str .unit) (.one .str) (fun xs=>Fo n xs.1),none,none⟩
theorem HI (n:Nat):EntryOk Tryz.prog gl (lz n):=Aa (cG n) fun xs y h=>ma tys_ok (Tp n) mixed (hint:=Zg n) (n:=n) Tryz.func184 (Ea (XD n)) (na (φ:=(fun y=>some (Out.ret (Qb (.one .str) y)))) (by kernel_rfl) (TL n xs.1 _) h)
def Cq (n:Nat):List Entry:=lz n::Eh n
theorem Dj (n:Nat):AllOk Tryz.prog gl (Cq n):=.cons (HI n) (Tp n)
def Pe (n:Nat) {R:Type} (s:BA) (k:(BA×BA×Unit)→Option R) (kp:Int→Option R):Option R:=(mb n s (⟨#[34]⟩:BA)).bind fun v=>if v=true then (Kb n s).bind fun x_1=>eX x_1 (fun p=>kp p) (fun v1=>(Fo n v1.1).bind fun v2=>k (v2,(v1.2.1,()))) else (Dc n s (64:Int)).bind fun v3=>if (decide (v3≥(0:Int)))=true then if 0≤v3∧v3≤(s.size:Int) then (Ei n (s.extract (Int.toNat (0:Int)) (Int.toNat v3))).bind fun v4=>(Sa n v4).bind fun x_2=>eX x_2 (fun p1=>kp p1) (fun v5=>if 0≤v3∧v3≤(s.size:Int) then if 0≤v3∧v3≤(s.size:Int) then k ((s.extract (Int.toNat (0:Int)) (Int.toNat v3)),((s.extract (Int.toNat v3) (Int.toNat (s.size:Int))),())) else none else none) else none else (Sa n false).bind fun x_3=>eX x_3 (fun p2=>kp p2) (fun v6=>if 0≤v3∧v3≤(s.size:Int) then if 0≤v3∧v3≤(s.size:Int) then k ((s.extract (Int.toNat (0:Int)) (Int.toNat v3)),((s.extract (Int.toNat v3) (Int.toNat (s.size:Int))),())) else none else none)
def Ye (n:Nat) (s:BA):Option (Except Int (BA×BA×Unit)):=Pe n s (fun y=>some (.ok y)) (fun p=>some (.error p))
theorem YC (n:Nat) {S:Type}:∀ s (φ:_→Option S),(Ye n s).bind φ=Pe n s (fun y=>φ (.ok y)) (fun p=>φ (.error p)):=by
  intros;unfold Ye Pe;first | (simp only [ia,ba,iB,bB,oL,oX,nB,Option.bind_some]) | rfl
def nl (n:Nat):Hint Out:={ live:=fun c=>[],run:=fun c=>none,xm:=fun c q=>none }
theorem Yr (n:Nat):ta tys (fa Out (Cq n)) (nl n) n (aa Tryz.f166) 0:=oa (fun _=>rfl) _ _ (by kernel_rfl)
theorem ZF (n:Nat):Enters Tryz.prog 166:=enters_of (c:=aa Tryz.f166) Tryz.func166 (by kernel_rfl) (by kernel_rfl)
def jz (n:Nat):Entry:=⟨166,kX 184 (.pair .str .unit) (.many (.pair .str (.pair .str .unit))) (fun xs=>Ye n xs.1),none,none⟩
theorem EI (n:Nat):EntryOk Tryz.prog gl (jz n):=Et (ZF n) (fun xs y h=>ma tys_ok (Dj n) mixed (hint:=nl n) (n:=n) Tryz.func166 (Ea (Yr n)) (na (φ:=(fun r=>eX r (fun p=>some (Out.pan (de 184 p))) fun y=>some (Out.ret (Qb (.many (.pair .str (.pair .str .unit))) y)))) (by kernel_rfl) (YC n xs.1 _) h)) (fun xs p h=>ma tys_ok (Dj n) mixed (hint:=nl n) (n:=n) Tryz.func166 (Ea (Yr n)) (na (φ:=(fun r=>eX r (fun p=>some (Out.pan (de 184 p))) fun y=>some (Out.ret (Qb (.many (.pair .str (.pair .str .unit))) y)))) (by kernel_rfl) (YC n xs.1 _) h))
def Dh (n:Nat):List Entry:=jz n::Cq n
theorem Sp (n:Nat):AllOk Tryz.prog gl (Dh n):=.cons (EI n) (Dj n)
def vd (n:Nat) {R:Type} (t9 t10:Int) (b:(Sq Int)) (kn:Int→Int→(Sq Int)→Option R) (ko:((Sq Int))→Option R) (kr:Unit→Option R) (kp:Int→Option R):Option R:=if (decide (t10<t9))=true then if 0≤t10∧t10<(b.n:Int) then if (decide ((b.at' (Int.toNat t10))≥(65:Int)))=true then if (decide ((b.at' (Int.toNat t10))≤(90:Int)))=true then if 0≤t10∧t10<(b.n:Int) then kn t9 (IntKind.wrap .i64 (t10+(1:Int))) (⟨b.n,fun q=>if q=(Int.toNat t10)∧q<b.n then (IntKind.wrap .u8 ((IntKind.wrap .u8 ((b.at' (Int.toNat t10))+(97:Int))) - (65:Int))) else b.at' q⟩:Sq Int) else none else kn t9 (IntKind.wrap .i64 (t10+(1:Int))) b else kn t9 (IntKind.wrap .i64 (t10+(1:Int))) b else none else ko b
def db (n:Nat):Nat→Int→Int→(Sq Int)→Option (Lx ((Sq Int)) Unit)
 | 0,_,_,_=>none
 | m+1,t9,t10,b=>vd n t9 t10 b (db n m) (fun a=>some (.out a)) (fun a=>some (.ret a)) (fun p=>some (.pan p))
theorem ZD (n m:Nat) {S:Type}:∀ t9 t10 b (φ:_→Option S),(db n (m+1) t9 t10 b).bind φ=vd n t9 t10 b (fun t9 t10 b=>(db n m t9 t10 b).bind φ) (fun a=>φ (.out a)) (fun a=>φ (.ret a)) (fun p=>φ (.pan p)):=by
  intros;first | (simp only [db,vd,ia,ba,iB,bB,oL,oX,nB,Option.bind_some]) | rfl
def Fj:List Sl:=.top::.top::.top::.row 0::tp 4 (.row 0::.dat (.int .i64)::.dat (.int .i64)::tp 19 [])
def Ej:List RS:=[.row 5 1 (.int .u8) false true]
def Ls:List Sl:=.top::.top::.top::.row 0::tp 26 []
def Ks:List RS:=[.row 5 1 (.int .u8) false true]
def Hc (K:XE→List AV→la→Option Out):Lx ((Sq Int)) Unit→Option Out:=fun x=>dX x (fun a=>Zh Ls Ks () (a,()) (K (.exit 0))) (fun _=>none) (fun _=>none)
def Io (n:Nat) {R:Type} (s:BA) (k:BA→Option R):Option R:=(db n n (s.size:Int) (0:Int) (⟨s.size,fun q=>bt s q⟩:Sq Int)).bind fun x_1=>dX x_1 (fun a_2=>k (Sk a_2.n a_2.at')) (fun _=>none) (fun _=>none)
def ah (n:Nat) (s:BA):Option BA:=Io n s some
theorem WL (n:Nat) {S:Type}:∀ s (φ:_→Option S),(ah n s).bind φ=Io n s φ:=by
  intros;unfold ah Io;first | (simp only [ia,ba,iB,bB,oL,oX,nB,Option.bind_some]) | rfl
def ch (n:Nat):Hint Out:={ live:=fun c=>(cond (Nat.beq c 0) [(3,some (.sl (.int .u8))),(8,some (.sl (.int .u8))),(9,none),(10,none)] []),run:=fun c=>(cond (Nat.beq c 0) (some (pq Fj Ej fun σ ρ K=>(db n n σ.1 σ.2.1 ρ.1).bind (Hc K))) none),xm:=fun c q=>(cond (Nat.beq c 0&&Nat.beq (q.getD 1000000) 0&&q.isSome) (some [(3,some (.sl (.int .u8)))]) none) }
def bh (n:Nat) (K:XE→List AV→la→Option Out) (m:Nat) (t9:Int) (t10:Int) (b:(Sq Int)):Option Out:=cf tys (fa Out (Dh n)) (ch n) n (Ba [1,1,0,1,0,0] (aa Tryz.f159)) 0 Fj Ej K m (t9,(t10,())) (b,())
theorem Js (n:Nat) (K:XE→List AV→la→Option Out):∀ (m:Nat) t9 t10 b,bh n K m t9 t10 b=(db n m t9 t10 b).bind (Hc K)
  | 0,_,_,_=>by kernel_rfl
  | m+1,t9,t10,b=>by
    have h1:bh n K (m+1) t9 t10 b=vd n t9 t10 b (bh n K m) (fun a=>Hc K (.out a)) (fun a=>Hc K (.ret a)) (fun p=>Hc K (.pan p)):=by kernel_rfl
    have h2:bh n K m=fun t9 t10 b=>(db n m t9 t10 b).bind (Hc K):=by
      repeat (refine funext fun _=>?_)
      exact Js n K m _ _ _
    rw [h1,h2];exact (ZD n m _ _ _ (Hc K)).symm
theorem TB (n:Nat):ie tys (fa Out (Dh n)) (ch n) n (Ba [1,1,0,1,0,0] (aa Tryz.f159)) 0:=La (sp:=Fj) (rp:=Ej) (by kernel_rfl) fun K σ ρ=>Js n K n σ.1 σ.2.1 ρ.1
theorem aE (n:Nat):ta tys (fa Out (Dh n)) (ch n) n (aa Tryz.f159) 0:=⟨trivial,⟨trivial,⟨⟨trivial,⟨TB n,⟨trivial,⟨⟨trivial,trivial⟩,⟨⟨trivial,⟨trivial,⟨trivial,trivial⟩⟩⟩,trivial⟩⟩⟩⟩⟩,⟨trivial,trivial⟩⟩⟩⟩
theorem gG (n:Nat):Enters Tryz.prog 159:=enters_of (c:=aa Tryz.f159) Tryz.func159 (by kernel_rfl) (by kernel_rfl)
def oz (n:Nat):Entry:=⟨159,jX (.pair .str .unit) (.one .str) (fun xs=>ah n xs.1),none,none⟩
theorem KI (n:Nat):EntryOk Tryz.prog gl (oz n):=Aa (gG n) fun xs y h=>ma tys_ok (Sp n) mixed (hint:=ch n) (n:=n) Tryz.func159 (Ea (aE n)) (na (φ:=(fun y=>some (Out.ret (Qb (.one .str) y)))) (by kernel_rfl) (WL n xs.1 _) h)
def Hq (n:Nat):List Entry:=oz n::Dh n
theorem Gj (n:Nat):AllOk Tryz.prog gl (Hq n):=.cons (KI n) (Sp n)
def kg (n:Nat) {R:Type} (s:BA) (k:U0→Option R) (kp:Int→Option R):Option R:=(Ye n s).bind fun x_1=>eX x_1 (fun p=>kp p) (fun v=>if (decide ((v.1.size:Int)≤(64:Int)))=true then (mb n v.2.1 (⟨#[64]⟩:BA)).bind fun v1=>(Sa n v1).bind fun x_2=>eX x_2 (fun p1=>kp p1) (fun v2=>if 0≤(1:Int)∧(1:Int)≤(v.2.1.size:Int) then (ah n (v.2.1.extract (Int.toNat (1:Int)) (Int.toNat (v.2.1.size:Int)))).bind fun v3=>(rb n v3).bind fun v4=>(Sa n v4).bind fun x_3=>eX x_3 (fun p2=>kp p2) (fun v5=>k (v.1,(v3,()))) else none) else (Sa n false).bind fun x_4=>eX x_4 (fun p3=>kp p3) (fun v6=>if 0≤(1:Int)∧(1:Int)≤(v.2.1.size:Int) then (ah n (v.2.1.extract (Int.toNat (1:Int)) (Int.toNat (v.2.1.size:Int)))).bind fun v7=>(rb n v7).bind fun v8=>(Sa n v8).bind fun x_5=>eX x_5 (fun p4=>kp p4) (fun v9=>k (v.1,(v7,()))) else none))
def Hh (n:Nat) (s:BA):Option (Except Int U0):=kg n s (fun y=>some (.ok y)) (fun p=>some (.error p))
theorem eG (n:Nat) {S:Type}:∀ s (φ:_→Option S),(Hh n s).bind φ=kg n s (fun y=>φ (.ok y)) (fun p=>φ (.error p)):=by
  intros;unfold Hh kg;first | (simp only [ia,ba,iB,bB,oL,oX,nB,Option.bind_some]) | rfl
def Lm (n:Nat):Hint Out:={ live:=fun c=>[],run:=fun c=>none,xm:=fun c q=>none }
theorem Fw (n:Nat):ta tys (fa Out (Hq n)) (Lm n) n (aa Tryz.f147) 0:=oa (fun _=>rfl) _ _ (by kernel_rfl)
theorem II (n:Nat):Enters Tryz.prog 147:=enters_of (c:=aa Tryz.f147) Tryz.func147 (by kernel_rfl) (by kernel_rfl)
def aD (n:Nat):Entry:=⟨147,kX 184 (.pair .str .unit) (.one (.pair .str (.pair .str .unit))) (fun xs=>Hh n xs.1),none,none⟩
theorem UL (n:Nat):EntryOk Tryz.prog gl (aD n):=Et (II n) (fun xs y h=>ma tys_ok (Gj n) mixed (hint:=Lm n) (n:=n) Tryz.func147 (Ea (Fw n)) (na (φ:=(fun r=>eX r (fun p=>some (Out.pan (de 184 p))) fun y=>some (Out.ret (Qb (.one (.pair .str (.pair .str .unit))) y)))) (by kernel_rfl) (eG n xs.1 _) h)) (fun xs p h=>ma tys_ok (Gj n) mixed (hint:=Lm n) (n:=n) Tryz.func147 (Ea (Fw n)) (na (φ:=(fun r=>eX r (fun p=>some (Out.pan (de 184 p))) fun y=>some (Out.ret (Qb (.one (.pair .str (.pair .str .unit))) y)))) (by kernel_rfl) (eG n xs.1 _) h))
def yh (n:Nat):List Entry:=aD n::Hq n
theorem Fs (n:Nat):AllOk Tryz.prog gl (yh n):=.cons (UL n) (Gj n)
def xh (n:Nat) {R:Type} (s:BA) (k:(U0×Int×Unit)→Option R):Option R:=(Hh n s).bind fun x_1=>eX x_1 (fun p=>k (((⟨#[]⟩:BA),((⟨#[]⟩:BA),())),(p,()))) (fun v=>k ((v.1,(v.2.1,())),((0:Int),())))
def Sg (n:Nat) (s:BA):Option (U0×Int×Unit):=xh n s some
theorem NL (n:Nat) {S:Type}:∀ s (φ:_→Option S),(Sg n s).bind φ=xh n s φ:=by
  intros;unfold Sg xh;first | (simp only [ia,ba,iB,bB,oL,oX,nB,Option.bind_some]) | rfl
def Tg (n:Nat):Hint Out:={ live:=fun c=>[],run:=fun c=>none,xm:=fun c q=>none,pm:=some [(2,none),(3,none)] }
theorem QD (n:Nat):ta tys (fa Out (yh n)) (Tg n) n (Ba [0] (aa Tryz.f120)) 0∧ta tys (fa Out (yh n)) (Tg n) n (Ba [1,1] (aa Tryz.f120)) 0:=⟨trivial,⟨trivial,trivial⟩⟩
theorem UF (n:Nat):Enters Tryz.prog 120:=enters_of (c:=aa Tryz.f120) Tryz.func120 (by kernel_rfl) (by kernel_rfl)
theorem Aw:Tryz.prog.funcs[146]?=some Tryz.f146:=by kernel_rfl
theorem PD:Enters Tryz.prog 146:=enters_of (c:=aa Tryz.f146) Aw (by kernel_rfl) (by kernel_rfl)
theorem MB (n:Nat):ta tys (fa Out (yh n)) DE n (Ba [1] (aa Tryz.f146)) 0:=⟨⟨trivial,⟨trivial,trivial⟩⟩,⟨trivial,⟨⟨trivial,⟨trivial,trivial⟩⟩,trivial⟩⟩⟩
theorem ML (n:Nat) (s:BA):BW tys (fa Out (yh n)) (Tg n) n 146 Tryz.f146 Tryz.f120 (tM (.pair .str .unit) (s,())) (OJ fun v=>some (.ret v))=xh n s (fun y=>some (.ret (Qb (.many (.pair (.pair .str (.pair .str .unit)) (.pair (.int .i64) .unit))) y))):=by kernel_rfl
def az (n:Nat):Entry:=⟨120,jX (.pair .str .unit) (.many (.pair (.pair .str (.pair .str .unit)) (.pair (.int .i64) .unit))) (fun xs=>Sg n xs.1),none,none⟩
theorem BI (n:Nat):EntryOk Tryz.prog gl (az n):=Aa (UF n) fun xs y h=>cD tys_ok (Fs n) mixed (hint:=Tg n) (n:=n) (fn:=Tryz.f120) (f2:=Tryz.f146) Tryz.func120 Aw PD (NT (QD n)) (kR (MB n)) (na (φ:=(fun y=>some (Out.ret (Qb (.many (.pair (.pair .str (.pair .str .unit)) (.pair (.int .i64) .unit))) y)))) (ML n xs.1) (NL n xs.1 _) h)
def Aq (n:Nat):List Entry:=az n::yh n
theorem Rp (n:Nat):AllOk Tryz.prog gl (Aq n):=.cons (BI n) (Fs n)
def Hy (n:Nat) {R:Type} (m0:U0) (k:Bool→Option R):Option R:=(VC n (m0.1,(m0.2.1,()))).bind fun v=>(Sg n v).bind fun v1=>if (v1.2.1==(0:Int))=true then k ((v1.1.1.toList==m0.1.toList)&&((v1.1.2.1.toList==m0.2.1.toList)&&true)) else k false
def Bi (n:Nat) (m0:U0):Option Bool:=Hy n m0 some
theorem EP (n:Nat) {S:Type}:∀ m0 (φ:_→Option S),(Bi n m0).bind φ=Hy n m0 φ:=by
  intros;unfold Bi Hy;first | (simp only [ia,ba,iB,bB,oL,oX,nB,Option.bind_some]) | rfl
def Zy (n:Nat):Hint Out:={ live:=fun c=>[],run:=fun c=>none,xm:=fun c q=>none }
theorem AI (n:Nat):ta tys (fa Out (Aq n)) (Zy n) n (aa Tryz.f104) 0:=oa (fun _=>rfl) _ _ (by kernel_rfl)
theorem LL (n:Nat):Enters Tryz.prog 104:=enters_of (c:=aa Tryz.f104) Tryz.func104 (by kernel_rfl) (by kernel_rfl)
def TF (n:Nat):Entry:=⟨104,jX (.pair (.pair .str (.pair .str .unit)) .unit) (.one .bool) (fun xs=>Bi n xs.1),none,none⟩
theorem zN (n:Nat):EntryOk Tryz.prog gl (TF n):=Aa (LL n) fun xs y h=>ma tys_ok (Rp n) mixed (hint:=Zy n) (n:=n) Tryz.func104 (Ea (AI n)) (na (φ:=(fun y=>some (Out.ret (Qb (.one .bool) y)))) (by kernel_rfl) (EP n xs.1 _) h)
def Gm (n:Nat):List Entry:=TF n::Aq n
theorem zw (n:Nat):AllOk Tryz.prog gl (Gm n):=.cons (zN n) (Rp n)
def FA (n:Nat) {R:Type} (s1:(Sq U0)) (t7 t8:Int) (v1 v2:BA) (kn:(Sq U0)→Int→Int→BA→BA→Option R) (ko:(Unit)→Option R) (kr:(Int)→Option R) (kp:Int→Option R):Option R:=if (decide (t8<t7))=true then if 0≤t8∧t8<(s1.n:Int) then if ((v1.toList==(((s1.at' (Int.toNat t8))).1).toList)&&((v2.toList==((((s1.at' (Int.toNat t8))).2).1).toList)&&true))=true then kr t8 else kn s1 t7 (IntKind.wrap .i64 (t8+(1:Int))) v1 v2 else none else ko ()
def qm (n:Nat):Nat→(Sq U0)→Int→Int→BA→BA→Option (Lx (Unit) (Int))
 | 0,_,_,_,_,_=>none
 | m+1,s1,t7,t8,v1,v2=>FA n s1 t7 t8 v1 v2 (qm n m) (fun a=>some (.out a)) (fun a=>some (.ret a)) (fun p=>some (.pan p))
theorem xQ (n m:Nat) {S:Type}:∀ s1 t7 t8 v1 v2 (φ:_→Option S),(qm n (m+1) s1 t7 t8 v1 v2).bind φ=FA n s1 t7 t8 v1 v2 (fun s1 t7 t8 v1 v2=>(qm n m s1 t7 t8 v1 v2).bind φ) (fun a=>φ (.out a)) (fun a=>φ (.ret a)) (fun p=>φ (.pan p)):=by
  intros;first | (simp only [qm,FA,ia,ba,iB,bB,oL,oX,nB,Option.bind_some]) | rfl
def HA:List Sl:=.dat (.sl (.pair .str (.pair .str .unit)))::.top::.top::.ptr 0 0 0::.top::.top::.top::.dat (.int .i64)::.dat (.int .i64)::tp 10 []
def GA:List RS:=[.box 47 2 true [.dat .str,.dat .str]]
def cF:List Sl:=tp 19 []
def bF:List RS:=[]
def eF:List Sl:=tp 4 (.dat (.int .i64)::tp 14 [])
def dF:List RS:=[]
def Ml (K:XE→List AV→la→Option Out):Lx (Unit) (Int)→Option Out:=fun x=>dX x (fun a=>Zh cF bF () () (K (.exit 0))) (fun a=>Zh eF dF (a,()) () (K .ret)) (fun _=>none)
def wQ (n:Nat) {R:Type} (s:(Sq U0)) (v:U0) (k:Int→Option R):Option R:=(qm n n s (s.n:Int) (0:Int) v.1 v.2.1).bind fun x_1=>dX x_1 (fun a_2=>k (-1:Int)) (fun a_3=>k a_3) (fun _=>none)
def pX (n:Nat) (s:(Sq U0)) (v:U0):Option Int:=wQ n s v some
theorem YU (n:Nat) {S:Type}:∀ s v (φ:_→Option S),(pX n s v).bind φ=wQ n s v φ:=by
  intros;unfold pX wQ;first | (simp only [ia,ba,iB,bB,oL,oX,nB,Option.bind_some]) | rfl
def Uy (n:Nat):Hint Out:={ live:=fun c=>(cond (Nat.beq c 0) [(0,some (.sl (.pair .str (.pair .str .unit)))),(3,none),(7,none),(8,none)] []),run:=fun c=>(cond (Nat.beq c 0) (some (pq HA GA fun σ ρ K=>(qm n n σ.1 σ.2.1 σ.2.2.1 ρ.1.1 ρ.1.2.1).bind (Ml K))) none),xm:=fun c q=>(cond (Nat.beq c 0&&Nat.beq (q.getD 1000000) 0&&q.isSome) (some []) (cond (Nat.beq c 1&&q.isNone) (some [(4,none)]) none)) }
def Sy (n:Nat) (K:XE→List AV→la→Option Out) (m:Nat) (s1:(Sq U0)) (t7:Int) (t8:Int) (v1:BA) (v2:BA):Option Out:=cf tys (fa Out (Gm n)) (Uy n) n (Ba [1,0,1,0,0] (aa Tryz.f82)) 0 HA GA K m (s1,(t7,(t8,()))) ((v1,(v2,())),())
theorem uL (n:Nat) (K:XE→List AV→la→Option Out):∀ (m:Nat) s1 t7 t8 v1 v2,Sy n K m s1 t7 t8 v1 v2=(qm n m s1 t7 t8 v1 v2).bind (Ml K)
  | 0,_,_,_,_,_=>by kernel_rfl
  | m+1,s1,t7,t8,v1,v2=>by
    have h1:Sy n K (m+1) s1 t7 t8 v1 v2=FA n s1 t7 t8 v1 v2 (Sy n K m) (fun a=>Ml K (.out a)) (fun a=>Ml K (.ret a)) (fun p=>Ml K (.pan p)):=by kernel_rfl
    have h2:Sy n K m=fun s1 t7 t8 v1 v2=>(qm n m s1 t7 t8 v1 v2).bind (Ml K):=by
      repeat (refine funext fun _=>?_)
      exact uL n K m _ _ _ _ _
    rw [h1,h2];exact (xQ n m _ _ _ _ _ (Ml K)).symm
theorem QO (n:Nat):ie tys (fa Out (Gm n)) (Uy n) n (Ba [1,0,1,0,0] (aa Tryz.f82)) 0:=La (sp:=HA) (rp:=GA) (by kernel_rfl) fun K σ ρ=>uL n K n σ.1 σ.2.1 σ.2.2.1 ρ.1.1 ρ.1.2.1
theorem yQ (n:Nat):ta tys (fa Out (Gm n)) (Uy n) n (aa Tryz.f82) 0:=⟨trivial,⟨⟨trivial,⟨QO n,⟨trivial,⟨⟨trivial,trivial⟩,⟨⟨trivial,⟨trivial,⟨⟨trivial,trivial⟩,trivial⟩⟩⟩,trivial⟩⟩⟩⟩⟩,⟨trivial,trivial⟩⟩⟩
theorem BS (n:Nat):Enters Tryz.prog 82:=enters_of (c:=aa Tryz.f82) Tryz.func82 (by kernel_rfl) (by kernel_rfl)
def mR (n:Nat):Entry:=⟨82,jX K7 (.one (.int .i64)) (fun xs=>pX n xs.1 xs.2.1),none,none⟩
theorem PT (n:Nat):EntryOk Tryz.prog gl (mR n):=Aa (BS n) fun xs y h=>ma tys_ok (zw n) mixed (hint:=Uy n) (n:=n) Tryz.func82 (Ea (yQ n)) (na (φ:=(fun y=>some (Out.ret (Qb (.one (.int .i64)) y)))) (by kernel_rfl) (YU n xs.1 xs.2.1 _) h)
def RO (n:Nat):List Entry:=mR n::Gm n
theorem GH (n:Nat):AllOk Tryz.prog gl (RO n):=.cons (PT n) (zw n)
def tQ (n:Nat) {R:Type} (s:(Sq U0)) (v:U0) (k:Bool→Option R):Option R:=(pX n s (v.1,(v.2.1,()))).bind fun v1=>k (decide (v1≥(0:Int)))
def nX (n:Nat) (s:(Sq U0)) (v:U0):Option Bool:=tQ n s v some
theorem XU (n:Nat) {S:Type}:∀ s v (φ:_→Option S),(nX n s v).bind φ=tQ n s v φ:=by
  intros;unfold nX tQ;first | (simp only [ia,ba,iB,bB,oL,oX,nB,Option.bind_some]) | rfl
def tL (n:Nat):Hint Out:={ live:=fun c=>[],run:=fun c=>none,xm:=fun c q=>none }
theorem uQ (n:Nat):ta tys (fa Out (RO n)) (tL n) n (aa Tryz.f44) 0:=oa (fun _=>rfl) _ _ (by kernel_rfl)
theorem AS (n:Nat):Enters Tryz.prog 44:=enters_of (c:=aa Tryz.f44) Tryz.func44 (by kernel_rfl) (by kernel_rfl)
def lR (n:Nat):Entry:=⟨44,jX K7 (.one .bool) (fun xs=>nX n xs.1 xs.2.1),none,none⟩
theorem OT (n:Nat):EntryOk Tryz.prog gl (lR n):=Aa (AS n) fun xs y h=>ma tys_ok (GH n) mixed (hint:=tL n) (n:=n) Tryz.func44 (Ea (uQ n)) (na (φ:=(fun y=>some (Out.ret (Qb (.one .bool) y)))) (by kernel_rfl) (XU n xs.1 xs.2.1 _) h)
def BH (n:Nat):List Entry:=lR n::RO n
theorem CH (n:Nat):AllOk Tryz.prog gl (BH n):=.cons (OT n) (GH n)
def sv (n:Nat) {R:Type} (l1 t5:(Sq U0)) (t6 t7:Int) (kn:(Sq U0)→(Sq U0)→Int→Int→Option R) (ko:((Sq U0))→Option R) (kr:(Bool)→Option R) (kp:Int→Option R):Option R:=if (decide (t7<t6))=true then if 0≤t7∧t7<(t5.n:Int) then (Bi n (((t5.at' (Int.toNat t7))).1,((((t5.at' (Int.toNat t7))).2).1,()))).bind fun v=>if (!v)=false then if 0≤t7∧t7≤(l1.n:Int) then (nX n (⟨((Int.toNat t7) - (Int.toNat (0:Int))),fun i=>l1.at' ((Int.toNat (0:Int))+i)⟩:Sq U0) (((t5.at' (Int.toNat t7))).1,((((t5.at' (Int.toNat t7))).2).1,()))).bind fun v1=>if v1=true then kr false else kn l1 t5 t6 (IntKind.wrap .i64 (t7+(1:Int))) else none else kr false else none else ko l1
def Nh (n:Nat):Nat→(Sq U0)→(Sq U0)→Int→Int→Option (Lx ((Sq U0)) (Bool))
 | 0,_,_,_,_=>none
 | m+1,l1,t5,t6,t7=>sv n l1 t5 t6 t7 (Nh n m) (fun a=>some (.out a)) (fun a=>some (.ret a)) (fun p=>some (.pan p))
theorem QN (n m:Nat) {S:Type}:∀ l1 t5 t6 t7 (φ:_→Option S),(Nh n (m+1) l1 t5 t6 t7).bind φ=sv n l1 t5 t6 t7 (fun l1 t5 t6 t7=>(Nh n m l1 t5 t6 t7).bind φ) (fun a=>φ (.out a)) (fun a=>φ (.ret a)) (fun p=>φ (.pan p)):=by
  intros;first | (simp only [Nh,sv,ia,ba,iB,bB,oL,oX,nB,Option.bind_some]) | rfl
def uv:List Sl:=.dat (.sl (.pair .str (.pair .str .unit)))::tp 4 (.dat (.sl (.pair .str (.pair .str .unit)))::.dat (.int .i64)::.dat (.int .i64)::tp 18 [])
def tv:List RS:=[]
def fC:List Sl:=.dat (.sl (.pair .str (.pair .str .unit)))::tp 25 []
def eC:List RS:=[]
def iC:List Sl:=.top::.top::.dat .bool::tp 23 []
def gC:List RS:=[]
def Oh (K:XE→List AV→la→Option Out):Lx ((Sq U0)) (Bool)→Option Out:=fun x=>dX x (fun a=>Zh fC eC (a,()) () (K (.exit 0))) (fun a=>Zh iC gC (a,()) () (K .ret)) (fun _=>none)
def KK (n:Nat) {R:Type} (l:(Sq U0)) (k:Bool→Option R):Option R:=(Nh n n l l (l.n:Int) (0:Int)).bind fun x_1=>dX x_1 (fun a_2=>k (decide ((a_2.n:Int)≤(8:Int)))) (fun a_3=>k a_3) (fun _=>none)
def SP (n:Nat) (l:(Sq U0)):Option Bool:=KK n l some
theorem oT (n:Nat) {S:Type}:∀ l (φ:_→Option S),(SP n l).bind φ=KK n l φ:=by
  intros;unfold SP KK;first | (simp only [ia,ba,iB,bB,oL,oX,nB,Option.bind_some]) | rfl
def mt (n:Nat):Hint Out:={ live:=fun c=>(cond (Nat.beq c 0) [(0,some (.sl (.pair .str (.pair .str .unit)))),(5,some (.sl (.pair .str (.pair .str .unit)))),(6,none),(7,none)] []),run:=fun c=>(cond (Nat.beq c 0) (some (pq uv tv fun σ ρ K=>(Nh n n σ.1 σ.2.1 σ.2.2.1 σ.2.2.2.1).bind (Oh K))) none),xm:=fun c q=>(cond (Nat.beq c 0&&Nat.beq (q.getD 1000000) 0&&q.isSome) (some [(0,some (.sl (.pair .str (.pair .str .unit))))]) (cond (Nat.beq c 1&&q.isNone) (some [(2,none)]) none)) }
def kt (n:Nat) (K:XE→List AV→la→Option Out) (m:Nat) (l1:(Sq U0)) (t5:(Sq U0)) (t6:Int) (t7:Int):Option Out:=cf tys (fa Out (BH n)) (mt n) n (Ba [1,0,1,0,0] (aa Tryz.f105)) 0 uv tv K m (l1,(t5,(t6,(t7,())))) ()
theorem JG (n:Nat) (K:XE→List AV→la→Option Out):∀ (m:Nat) l1 t5 t6 t7,kt n K m l1 t5 t6 t7=(Nh n m l1 t5 t6 t7).bind (Oh K)
  | 0,_,_,_,_=>by kernel_rfl
  | m+1,l1,t5,t6,t7=>by
    have h1:kt n K (m+1) l1 t5 t6 t7=sv n l1 t5 t6 t7 (kt n K m) (fun a=>Oh K (.out a)) (fun a=>Oh K (.ret a)) (fun p=>Oh K (.pan p)):=by kernel_rfl
    have h2:kt n K m=fun l1 t5 t6 t7=>(Nh n m l1 t5 t6 t7).bind (Oh K):=by
      repeat (refine funext fun _=>?_)
      exact JG n K m _ _ _ _
    rw [h1,h2];exact (QN n m _ _ _ _ (Oh K)).symm
theorem mM (n:Nat):ie tys (fa Out (BH n)) (mt n) n (Ba [1,0,1,0,0] (aa Tryz.f105)) 0:=La (sp:=uv) (rp:=tv) (by kernel_rfl) fun K σ ρ=>JG n K n σ.1 σ.2.1 σ.2.2.1 σ.2.2.2.1
theorem SN (n:Nat):ta tys (fa Out (BH n)) (mt n) n (aa Tryz.f105) 0:=⟨trivial,⟨⟨trivial,⟨mM n,⟨trivial,⟨⟨trivial,trivial⟩,⟨⟨trivial,⟨trivial,⟨⟨trivial,trivial⟩,trivial⟩⟩⟩,trivial⟩⟩⟩⟩⟩,⟨trivial,trivial⟩⟩⟩
theorem TP (n:Nat):Enters Tryz.prog 105:=enters_of (c:=aa Tryz.f105) Tryz.func105 (by kernel_rfl) (by kernel_rfl)
def RN (n:Nat):Entry:=⟨105,jX (.pair (.sl (.pair .str (.pair .str .unit))) .unit) (.one .bool) (fun xs=>SP n xs.1),none,none⟩
theorem MR (n:Nat):EntryOk Tryz.prog gl (RN n):=Aa (TP n) fun xs y h=>ma tys_ok (CH n) mixed (hint:=mt n) (n:=n) Tryz.func105 (Ea (SN n)) (na (φ:=(fun y=>some (Out.ret (Qb (.one .bool) y)))) (by kernel_rfl) (oT n xs.1 _) h)
def dJ (n:Nat):List Entry:=RN n::BH n
theorem kD (n:Nat):AllOk Tryz.prog gl (dJ n):=.cons (MR n) (CH n)
def Ii (n:Nat) {R:Type} (c:T0) (k:Bool→Option R):Option R:=if (decide (c.2.2.2.2.1<(2:Int)))=false then if (decide (c.2.2.2.2.1>(4:Int)))=true then if (!c.2.2.2.2.2.2.1)=true then if ((c.2.2.2.2.2.2.2.1.1.toList==(⟨#[]⟩:BA).toList)&&((c.2.2.2.2.2.2.2.1.2.1.toList==(⟨#[]⟩:BA).toList)&&true))=true then k ((c.2.2.2.2.2.2.2.2.1.n:Int)==(0:Int)) else k false else k false else if c.2.2.2.2.2.2.1=true then if (!((c.2.2.2.2.2.2.2.1.1.toList==(⟨#[]⟩:BA).toList)&&((c.2.2.2.2.2.2.2.1.2.1.toList==(⟨#[]⟩:BA).toList)&&true)))=false then if (!c.2.2.2.2.2.2.1)=true then (Bi n c.2.2.2.2.2.2.2.1).bind fun v=>if (!v)=true then k false else (SP n c.2.2.2.2.2.2.2.2.1).bind fun v1=>if v1=true then k (((c.2.2.2.2.2.2.2.2.1.n:Int)==(0:Int))==(c.2.2.2.2.1==(2:Int))) else k false else (SP n c.2.2.2.2.2.2.2.2.1).bind fun v2=>if v2=true then k (((c.2.2.2.2.2.2.2.2.1.n:Int)==(0:Int))==(c.2.2.2.2.1==(2:Int))) else k false else k false else if (!c.2.2.2.2.2.2.1)=true then (Bi n c.2.2.2.2.2.2.2.1).bind fun v3=>if (!v3)=true then k false else (SP n c.2.2.2.2.2.2.2.2.1).bind fun v4=>if v4=true then k (((c.2.2.2.2.2.2.2.2.1.n:Int)==(0:Int))==(c.2.2.2.2.1==(2:Int))) else k false else (SP n c.2.2.2.2.2.2.2.2.1).bind fun v5=>if v5=true then k (((c.2.2.2.2.2.2.2.2.1.n:Int)==(0:Int))==(c.2.2.2.2.1==(2:Int)))
 else k false else if (!c.2.2.2.2.2.2.1)=true then if ((c.2.2.2.2.2.2.2.1.1.toList==(⟨#[]⟩:BA).toList)&&((c.2.2.2.2.2.2.2.1.2.1.toList==(⟨#[]⟩:BA).toList)&&true))=true then k ((c.2.2.2.2.2.2.2.2.1.n:Int)==(0:Int)) else k false else k false
def Wa (n:Nat) (c:T0):Option Bool:=Ii n c some
theorem AG (n:Nat) {S:Type}:∀ c (φ:_→Option S),(Wa n c).bind φ=Ii n c φ:=by
  intros;unfold Wa Ii;first | (simp only [ia,ba,iB,bB,oL,oX,nB,Option.bind_some]) | rfl
def Wm (n:Nat):Hint Out:={ live:=fun c=>[],run:=fun c=>none,xm:=fun c q=>none }
theorem Hz (n:Nat):ta tys (fa Out (dJ n)) (Wm n) n (aa Tryz.f75) 0:=oa (fun _=>rfl) _ _ (by kernel_rfl)
theorem cC (n:Nat):Enters Tryz.prog 75:=enters_of (c:=aa Tryz.f75) Tryz.func75 (by kernel_rfl) (by kernel_rfl)
def Ys (n:Nat):Entry:=⟨75,jX K1 (.one .bool) (fun xs=>Wa n xs.1),none,none⟩
theorem oE (n:Nat):EntryOk Tryz.prog gl (Ys n):=Aa (cC n) fun xs y h=>ma tys_ok (kD n) mixed (hint:=Wm n) (n:=n) Tryz.func75 (Ea (Hz n)) (na (φ:=(fun y=>some (Out.ret (Qb (.one .bool) y)))) (by kernel_rfl) (AG n xs.1 _) h)
def Zs (n:Nat):List Entry:=Ys n::dJ n
theorem Gx (n:Nat):AllOk Tryz.prog gl (Zs n):=.cons (oE n) (kD n)
def Rf (n:Nat):List Entry:=⟨133,jX (.pair .str (.pair .str .unit)) (.one .bool) (fun xs=>qM xs.1 xs.2.1),none,none⟩::Zs n
theorem Pg (n:Nat):AllOk Tryz.prog gl (Rf n):=.cons lC (Gx n)
def zl (n:Nat) {R:Type} (s:BA) (k:Bool→Option R):Option R:=if (decide ((s.size:Int)≤(509:Int)))=true then (qM s (⟨#[13,10]⟩:BA)).bind fun v=>k (!v) else k false
def og (n:Nat) (s:BA):Option Bool:=zl n s some
theorem lJ (n:Nat) {S:Type}:∀ s (φ:_→Option S),(og n s).bind φ=zl n s φ:=by
  intros;unfold og zl;first | (simp only [ia,ba,iB,bB,oL,oX,nB,Option.bind_some]) | rfl
def bq (n:Nat):Hint Out:={ live:=fun c=>[],run:=fun c=>none,xm:=fun c q=>none }
theorem mC (n:Nat):ta tys (fa Out (Rf n)) (bq n) n (aa Tryz.f108) 0:=oa (fun _=>rfl) _ _ (by kernel_rfl)
theorem wE (n:Nat):Enters Tryz.prog 108:=enters_of (c:=aa Tryz.f108) Tryz.func108 (by kernel_rfl) (by kernel_rfl)
def Uw (n:Nat):Entry:=⟨108,jX (.pair .str .unit) (.one .bool) (fun xs=>og n xs.1),none,none⟩
theorem OG (n:Nat):EntryOk Tryz.prog gl (Uw n):=Aa (wE n) fun xs y h=>ma tys_ok (Pg n) mixed (hint:=bq n) (n:=n) Tryz.func108 (Ea (mC n)) (na (φ:=(fun y=>some (Out.ret (Qb (.one .bool) y)))) (by kernel_rfl) (lJ n xs.1 _) h)
def qn (n:Nat):List Entry:=Uw n::Rf n
theorem rn (n:Nat):AllOk Tryz.prog gl (qn n):=.cons (OG n) (Pg n)
def No (n:Nat) {R:Type} (s:BA) (k:Bool→Option R):Option R:=(og n s).bind fun v=>k (!v)
def Mo (n:Nat) (s:BA):Option Bool:=No n s some
theorem kM (n:Nat) {S:Type}:∀ s (φ:_→Option S),(Mo n s).bind φ=No n s φ:=by
  intros;unfold Mo No;first | (simp only [ia,ba,iB,bB,oL,oX,nB,Option.bind_some]) | rfl
def jt (n:Nat):Hint Out:={ live:=fun c=>[],run:=fun c=>none,xm:=fun c q=>none }
theorem qE (n:Nat):ta tys (fa Out (qn n)) (jt n) n (aa Tryz.f107) 0:=oa (fun _=>rfl) _ _ (by kernel_rfl)
theorem GG (n:Nat):Enters Tryz.prog 107:=enters_of (c:=aa Tryz.f107) Tryz.func107 (by kernel_rfl) (by kernel_rfl)
def Lz (n:Nat):Entry:=⟨107,jX (.pair .str .unit) (.one .bool) (fun xs=>Mo n xs.1),none,none⟩
theorem bJ (n:Nat):EntryOk Tryz.prog gl (Lz n):=Aa (GG n) fun xs y h=>ma tys_ok (rn n) mixed (hint:=jt n) (n:=n) Tryz.func107 (Ea (qE n)) (na (φ:=(fun y=>some (Out.ret (Qb (.one .bool) y)))) (by kernel_rfl) (kM n xs.1 _) h)
def Lh (n:Nat):List Entry:=Lz n::qn n
theorem aq (n:Nat):AllOk Tryz.prog gl (Lh n):=.cons (bJ n) (rn n)
def ji (n:Nat) {R:Type} (s1:(Sq BA)) (t7 t8:Int) (kn:(Sq BA)→Int→Int→Option R) (ko:(Unit)→Option R) (kr:(Int)→Option R) (kp:Int→Option R):Option R:=if (decide (t8<t7))=true then if 0≤t8∧t8<(s1.n:Int) then (Mo n (s1.at' (Int.toNat t8))).bind fun v=>if v=true then kr t8 else kn s1 t7 (IntKind.wrap .i64 (t8+(1:Int))) else none else ko ()
def Zc (n:Nat):Nat→(Sq BA)→Int→Int→Option (Lx (Unit) (Int))
 | 0,_,_,_=>none
 | m+1,s1,t7,t8=>ji n s1 t7 t8 (Zc n m) (fun a=>some (.out a)) (fun a=>some (.ret a)) (fun p=>some (.pan p))
theorem MJ (n m:Nat) {S:Type}:∀ s1 t7 t8 (φ:_→Option S),(Zc n (m+1) s1 t7 t8).bind φ=ji n s1 t7 t8 (fun s1 t7 t8=>(Zc n m s1 t7 t8).bind φ) (fun a=>φ (.out a)) (fun a=>φ (.ret a)) (fun p=>φ (.pan p)):=by
  intros;first | (simp only [Zc,ji,ia,ba,iB,bB,oL,oX,nB,Option.bind_some]) | rfl
def Tn:List Sl:=.dat (.sl .str)::.fnc 107::tp 5 (.dat (.int .i64)::.dat (.int .i64)::tp 10 [])
def Sn:List RS:=[.ghost [.top,.top]]
def gy:List Sl:=tp 19 []
def fy:List RS:=[.ghost [.top,.top]]
def jy:List Sl:=tp 4 (.dat (.int .i64)::tp 14 [])
def iy:List RS:=[.ghost [.top,.top]]
def Fe (K:XE→List AV→la→Option OutS):Lx (Unit) (Int)→Option OutS:=fun x=>dX x (fun a=>Zh gy fy () ((),()) (K (.exit 0))) (fun a=>Zh jy iy (a,()) ((),()) (K .ret)) (fun _=>none)
def Ry (n:Nat) {R:Type} (s:(Sq BA)) (k:(Int×Unit)→Option R):Option R:=(Zc n n s (s.n:Int) (0:Int)).bind fun x_1=>dX x_1 (fun a_2=>k ((-1:Int),())) (fun a_3=>k (a_3,())) (fun _=>none)
def vD (n:Nat) (s:(Sq BA)):Option (Int×Unit):=Ry n s some
theorem vQ (n:Nat) {S:Type}:∀ s (φ:_→Option S),(vD n s).bind φ=Ry n s φ:=by
  intros;unfold vD Ry;first | (simp only [ia,ba,iB,bB,oL,oX,nB,Option.bind_some]) | rfl
def Ll (n:Nat):Hint OutS:={ live:=fun c=>(cond (Nat.beq c 0) [(0,some (.sl .str)),(1,none),(7,none),(8,none)] []),run:=fun c=>(cond (Nat.beq c 0) (some (pq Tn Sn fun σ ρ K=>(Zc n n σ.1 σ.2.1 σ.2.2.1).bind (Fe K))) none),xm:=fun c q=>(cond (Nat.beq c 0&&Nat.beq (q.getD 1000000) 0&&q.isSome) (some []) (cond (Nat.beq c 1&&q.isNone) (some [(4,none)]) none)) }
def Kl (n:Nat) (K:XE→List AV→la→Option OutS) (m:Nat) (s1:(Sq BA)) (t7:Int) (t8:Int):Option OutS:=cf tys (fa OutS (Lh n)) (Ll n) n (Ba [1,0,1,0,0] (aa Tryz.f132)) 0 Tn Sn K m (s1,(t7,(t8,()))) ((),())
theorem DA (n:Nat) (K:XE→List AV→la→Option OutS):∀ (m:Nat) s1 t7 t8,Kl n K m s1 t7 t8=(Zc n m s1 t7 t8).bind (Fe K)
  | 0,_,_,_=>by kernel_rfl
  | m+1,s1,t7,t8=>by
    have h1:Kl n K (m+1) s1 t7 t8=ji n s1 t7 t8 (Kl n K m) (fun a=>Fe K (.out a)) (fun a=>Fe K (.ret a)) (fun p=>Fe K (.pan p)):=by kernel_rfl
    have h2:Kl n K m=fun s1 t7 t8=>(Zc n m s1 t7 t8).bind (Fe K):=by
      repeat (refine funext fun _=>?_)
      exact DA n K m _ _ _
    rw [h1,h2];exact (MJ n m _ _ _ (Fe K)).symm
theorem DH (n:Nat):ie tys (fa OutS (Lh n)) (Ll n) n (Ba [1,0,1,0,0] (aa Tryz.f132)) 0:=La (sp:=Tn) (rp:=Sn) (by kernel_rfl) fun K σ ρ=>DA n K n σ.1 σ.2.1 σ.2.2.1
theorem NJ (n:Nat):ta tys (fa OutS (Lh n)) (Ll n) n (aa Tryz.f132) 0:=⟨trivial,⟨⟨trivial,⟨DH n,⟨trivial,⟨⟨trivial,trivial⟩,⟨⟨trivial,⟨trivial,⟨⟨trivial,trivial⟩,trivial⟩⟩⟩,trivial⟩⟩⟩⟩⟩,⟨trivial,trivial⟩⟩⟩
theorem MM (n:Nat):Enters Tryz.prog 132:=enters_of (c:=aa Tryz.f132) Tryz.func132 (by kernel_rfl) (by kernel_rfl)
def FH:List RSp:=[.one (.dat (.sl .str)),.one (.fnc 107)]
def EH:List RS:=[]
def NM:List Sl:=[.top,.top]
def OM:List RSp:=[.one (.dat (.int .i64))]
def ap:List RS:=[]
def aF (y:(Int×Unit)):OutS:=⟨false,un (Ue ap ()) NM (),zD (pC (Ue ap ()) OM ((y.1,()),())),Qu (Ue ap ()) ap ()⟩
theorem PO (n:Nat):EntryOk Tryz.prog gl ⟨132,Kj,none,some (rW FH EH (fun σ ρ=>vD n σ.1.1) aF)⟩:=Ph (MM n) fun σ ρ y h=>ic tys_ok (aq n) mixed (hint:=Ll n) (n:=n) Tryz.func132 (Ea (NJ n)) (na (φ:=fun y=>some (aF y)) (by kernel_rfl) (vQ n σ.1.1 _) h)
def EA (n:Nat):List Entry:=⟨132,Kj,none,some (rW FH EH (fun σ ρ=>vD n σ.1.1) aF)⟩::Lh n
theorem lx (n:Nat):AllOk Tryz.prog gl (EA n):=.cons (PO n) (aq n)
def Qy (n:Nat) {R:Type} (s:(Sq BA)) (k:(Bool×Unit)→Option R):Option R:=(vD n s).bind fun v=>k ((decide (v.1≥(0:Int))),())
def jx (n:Nat) (s:(Sq BA)):Option (Bool×Unit):=Qy n s some
theorem sQ (n:Nat) {S:Type}:∀ s (φ:_→Option S),(jx n s).bind φ=Qy n s φ:=by
  intros;unfold jx Qy;first | (simp only [ia,ba,iB,bB,oL,oX,nB,Option.bind_some]) | rfl
def CA (n:Nat):Hint OutS:={ live:=fun c=>[],run:=fun c=>none,xm:=fun c q=>none }
theorem LJ (n:Nat):ta tys (fa OutS (EA n)) (CA n) n (aa Tryz.f106) 0:=oa (fun _=>rfl) _ _ (by kernel_rfl)
theorem JM (n:Nat):Enters Tryz.prog 106:=enters_of (c:=aa Tryz.f106) Tryz.func106 (by kernel_rfl) (by kernel_rfl)
def AH:List RSp:=[.one (.dat (.sl .str)),.one (.fnc 107)]
def zH:List RS:=[]
def KM:List Sl:=[.top,.top]
def LM:List RSp:=[.one (.dat .bool)]
def Zo:List RS:=[]
def ZE (y:(Bool×Unit)):OutS:=⟨false,un (Ue Zo ()) KM (),zD (pC (Ue Zo ()) LM ((y.1,()),())),Qu (Ue Zo ()) Zo ()⟩
theorem OO (n:Nat):EntryOk Tryz.prog gl ⟨106,Kj,none,some (rW AH zH (fun σ ρ=>jx n σ.1.1) ZE)⟩:=Ph (JM n) fun σ ρ y h=>ic tys_ok (lx n) mixed (hint:=CA n) (n:=n) Tryz.func106 (Ea (LJ n)) (na (φ:=fun y=>some (ZE y)) (by kernel_rfl) (sQ n σ.1.1 _) h)
def Rn (n:Nat):List Entry:=⟨106,Kj,none,some (rW AH zH (fun σ ρ=>jx n σ.1.1) ZE)⟩::EA n
theorem kx (n:Nat):AllOk Tryz.prog gl (Rn n):=.cons (OO n) (lx n)
def nk (n:Nat) {R:Type} (n0:Int) (t5:(Sq BA)) (t6 t7:Int) (kn:Int→(Sq BA)→Int→Int→Option R) (ko:(Int)→Option R) (kr:Unit→Option R) (kp:Int→Option R):Option R:=if (decide (t7<t6))=true then if 0≤t7∧t7<(t5.n:Int) then kn (IntKind.wrap .i64 (n0+(IntKind.wrap .i64 (((t5.at' (Int.toNat t7)).size:Int)+(2:Int))))) t5 t6 (IntKind.wrap .i64 (t7+(1:Int))) else none else ko n0
def zd (n:Nat):Nat→Int→(Sq BA)→Int→Int→Option (Lx (Int) Unit)
 | 0,_,_,_,_=>none
 | m+1,n0,t5,t6,t7=>nk n n0 t5 t6 t7 (zd n m) (fun a=>some (.out a)) (fun a=>some (.ret a)) (fun p=>some (.pan p))
theorem ZI (n m:Nat) {S:Type}:∀ n0 t5 t6 t7 (φ:_→Option S),(zd n (m+1) n0 t5 t6 t7).bind φ=nk n n0 t5 t6 t7 (fun n0 t5 t6 t7=>(zd n m n0 t5 t6 t7).bind φ) (fun a=>φ (.out a)) (fun a=>φ (.ret a)) (fun p=>φ (.pan p)):=by
  intros;first | (simp only [zd,nk,ia,ba,iB,bB,oL,oX,nB,Option.bind_some]) | rfl
def Ym:List Sl:=.top::.top::.dat (.int .i64)::.top::.top::.dat (.sl .str)::.dat (.int .i64)::.dat (.int .i64)::tp 10 []
def Xm:List RS:=[]
def Kx:List Sl:=.top::.top::.dat (.int .i64)::tp 15 []
def Ix:List RS:=[]
def Be (K:XE→List AV→la→Option Out):Lx (Int) Unit→Option Out:=fun x=>dX x (fun a=>Zh Kx Ix (a,()) () (K (.exit 0))) (fun _=>none) (fun _=>none)
def Jy (n:Nat) {R:Type} (l:(Sq BA)) (k:Int→Option R):Option R:=(zd n n (0:Int) l (l.n:Int) (0:Int)).bind fun x_1=>dX x_1 (fun a_2=>k a_2) (fun _=>none) (fun _=>none)
def Rw (n:Nat) (l:(Sq BA)):Option Int:=Jy n l some
theorem QP (n:Nat) {S:Type}:∀ l (φ:_→Option S),(Rw n l).bind φ=Jy n l φ:=by
  intros;unfold Rw Jy;first | (simp only [ia,ba,iB,bB,oL,oX,nB,Option.bind_some]) | rfl
def yl (n:Nat):Hint Out:={ live:=fun c=>(cond (Nat.beq c 0) [(2,none),(5,some (.sl .str)),(6,none),(7,none)] []),run:=fun c=>(cond (Nat.beq c 0) (some (pq Ym Xm fun σ ρ K=>(zd n n σ.1 σ.2.1 σ.2.2.1 σ.2.2.2.1).bind (Be K))) none),xm:=fun c q=>(cond (Nat.beq c 0&&Nat.beq (q.getD 1000000) 0&&q.isSome) (some [(2,none)]) none) }
def xl (n:Nat) (K:XE→List AV→la→Option Out) (m:Nat) (n0:Int) (t5:(Sq BA)) (t6:Int) (t7:Int):Option Out:=cf tys (fa Out (Rn n)) (yl n) n (Ba [1,0,1,0,0] (aa Tryz.f109)) 0 Ym Xm K m (n0,(t5,(t6,(t7,())))) ()
theorem Jz (n:Nat) (K:XE→List AV→la→Option Out):∀ (m:Nat) n0 t5 t6 t7,xl n K m n0 t5 t6 t7=(zd n m n0 t5 t6 t7).bind (Be K)
  | 0,_,_,_,_=>by kernel_rfl
  | m+1,n0,t5,t6,t7=>by
    have h1:xl n K (m+1) n0 t5 t6 t7=nk n n0 t5 t6 t7 (xl n K m) (fun a=>Be K (.out a)) (fun a=>Be K (.ret a)) (fun p=>Be K (.pan p)):=by kernel_rfl
    have h2:xl n K m=fun n0 t5 t6 t7=>(zd n m n0 t5 t6 t7).bind (Be K):=by
      repeat (refine funext fun _=>?_)
      exact Jz n K m _ _ _ _
    rw [h1,h2];exact (ZI n m _ _ _ _ (Be K)).symm
theorem DG (n:Nat):ie tys (fa Out (Rn n)) (yl n) n (Ba [1,0,1,0,0] (aa Tryz.f109)) 0:=La (sp:=Ym) (rp:=Xm) (by kernel_rfl) fun K σ ρ=>Jz n K n σ.1 σ.2.1 σ.2.2.1 σ.2.2.2.1
theorem aJ (n:Nat):ta tys (fa Out (Rn n)) (yl n) n (aa Tryz.f109) 0:=⟨trivial,⟨⟨trivial,⟨DG n,⟨trivial,⟨⟨trivial,trivial⟩,⟨⟨trivial,trivial⟩,trivial⟩⟩⟩⟩⟩,⟨trivial,trivial⟩⟩⟩
theorem iM (n:Nat):Enters Tryz.prog 109:=enters_of (c:=aa Tryz.f109) Tryz.func109 (by kernel_rfl) (by kernel_rfl)
def EG (n:Nat):Entry:=⟨109,jX (.pair (.sl .str) .unit) (.one (.int .i64)) (fun xs=>Rw n xs.1),none,none⟩
theorem ON (n:Nat):EntryOk Tryz.prog gl (EG n):=Aa (iM n) fun xs y h=>ma tys_ok (kx n) mixed (hint:=yl n) (n:=n) Tryz.func109 (Ea (aJ n)) (na (φ:=(fun y=>some (Out.ret (Qb (.one (.int .i64)) y)))) (by kernel_rfl) (QP n xs.1 _) h)
def Kz (n:Nat):List Entry:=EG n::Rn n
theorem Sw (n:Nat):AllOk Tryz.prog gl (Kz n):=.cons (ON n) (kx n)
def Oo (n:Nat) {R:Type} (c:T0) (k:Bool→Option R):Option R:=if (c.2.2.2.2.1 !=(4:Int))=false then if c.2.2.2.2.2.2.2.2.2.2.2.1=true then if ((c.2.2.2.2.2.2.2.2.2.1.n:Int)==(0:Int))=true then if (c.2.2.2.2.2.2.2.2.2.2.1==(0:Int))=true then if (!c.2.2.2.2.2.2.2.2.2.2.2.1)=false then k (c.2.2.2.2.1==(4:Int)) else k true else k false else k false else (jx n c.2.2.2.2.2.2.2.2.2.1).bind fun v=>if (!v.1)=true then oN ((Rw n c.2.2.2.2.2.2.2.2.2.1).bind fun v1=>if (c.2.2.2.2.2.2.2.2.2.2.1==v1)=true then k (decide (c.2.2.2.2.2.2.2.2.2.2.1≤(8192:Int))) else k false) (vW 1 ((Rw n c.2.2.2.2.2.2.2.2.2.1).bind fun v2=>if (c.2.2.2.2.2.2.2.2.2.2.1==v2)=true then k (decide (c.2.2.2.2.2.2.2.2.2.2.1≤(8192:Int))) else k false)) else oN (k false) (vW 1 (k false)) else if ((c.2.2.2.2.2.2.2.2.2.1.n:Int)==(0:Int))=true then if (c.2.2.2.2.2.2.2.2.2.2.1==(0:Int))=true then if (!c.2.2.2.2.2.2.2.2.2.2.2.1)=false then k (c.2.2.2.2.1==(4:Int)) else k true else k false else k false
def qk (n:Nat) (c:T0):Option Bool:=Oo n c some
theorem RP (n:Nat) {S:Type}:∀ c (φ:_→Option S),(qk n c).bind φ=Oo n c φ:=by
  intros;unfold qk Oo;first | (simp only [ia,ba,iB,bB,oL,oX,nB,Option.bind_some]) | rfl
def Oz (n:Nat):Hint Out:={ live:=fun c=>[],run:=fun c=>none,xm:=fun c q=>none,sch:=fun c=>(cond (Nat.beq c 3) (some [(0,0),(1,1),(2,2),(3,0),(4,0),(5,0),(7,0),(6,5),(8,7),(9,7),(10,6),(11,6),(12,6),(13,6),(14,7),(15,6),(16,6),(17,6)]) none) }
theorem cJ (n:Nat):ta tys (fa Out (Kz n)) (Oz n) n (aa Tryz.f76) 0:=oa (fun _=>rfl) _ _ (by kernel_rfl)
theorem lM (n:Nat):Enters Tryz.prog 76:=enters_of (c:=aa Tryz.f76) Tryz.func76 (by kernel_rfl) (by kernel_rfl)
def IG (n:Nat):Entry:=⟨76,jX K1 (.one .bool) (fun xs=>qk n xs.1),none,none⟩
theorem PN (n:Nat):EntryOk Tryz.prog gl (IG n):=Aa (lM n) fun xs y h=>ma tys_ok (Sw n) mixed (hint:=Oz n) (n:=n) Tryz.func76 (Ea (cJ n)) (na (φ:=(fun y=>some (Out.ret (Qb (.one .bool) y)))) (by kernel_rfl) (RP n xs.1 _) h)
def Nz (n:Nat):List Entry:=IG n::Kz n
theorem Tw (n:Nat):AllOk Tryz.prog gl (Nz n):=.cons (PN n) (Sw n)
def Xu (n:Nat) {R:Type} (c:T0) (k:Bool→Option R):Option R:=(Ud n c.1 (1:Int) (1099511627776:Int)).bind fun v=>if (!v)=false then (Ud n c.2.1 (0:Int) (3:Int)).bind fun v1=>if (!v1)=false then (Ud n c.2.2.1 (0:Int) (1099511627776:Int)).bind fun v2=>if (!v2)=false then (Rh n c.2.2.2.1).bind fun v3=>if (!v3)=false then (Ud n c.2.2.2.2.1 (0:Int) (5:Int)).bind fun v4=>if (!v4)=true then k false else if (c.2.2.2.2.2.1.toList==(⟨#[]⟩:BA).toList)=true then if (c.2.2.2.2.1 !=(0:Int))=true then if (c.2.2.2.2.1 !=(5:Int))=false then if (!(c.2.2.2.2.2.1.toList==(⟨#[]⟩:BA).toList))=true then if (c.2.2.2.2.1==(0:Int))=false then (Ae n c.2.2.2.2.2.1).bind fun v5=>if (!v5)=true then k false else (Wa n c).bind fun v6=>if v6=true then (qk n c).bind fun v7=>k v7 else k false else k false else (Wa n c).bind fun v8=>if v8=true then (qk n c).bind fun v9=>k v9 else k false else k false else if (!(c.2.2.2.2.2.1.toList==(⟨#[]⟩:BA).toList))=true then if (c.2.2.2.2.1==(0:Int))=false then (Ae n c.2.2.2.2.2.1).bind fun v10=>if (!v10)=true then k false else (Wa n c).bind fun v11=>if v11=true then (qk n c).bind fun v12=>k v12 else k false else k false else (Wa n c).bind fun v13=>if v13=true then (qk n c).bind fun v14=>
 k v14 else k false else if (!(c.2.2.2.2.2.1.toList==(⟨#[]⟩:BA).toList))=true then if (c.2.2.2.2.1==(0:Int))=false then (Ae n c.2.2.2.2.2.1).bind fun v15=>if (!v15)=true then k false else (Wa n c).bind fun v16=>if v16=true then (qk n c).bind fun v17=>k v17 else k false else k false else (Wa n c).bind fun v18=>if v18=true then (qk n c).bind fun v19=>k v19 else k false else k false else k false else k false else k false
def Dx (n:Nat) (c:T0):Option Bool:=Xu n c some
theorem JR (n:Nat) {S:Type}:∀ c (φ:_→Option S),(Dx n c).bind φ=Xu n c φ:=by
  intros;unfold Dx Xu;first | (simp only [ia,ba,iB,bB,oL,oX,nB,Option.bind_some]) | rfl
def eD (n:Nat):Hint Out:={ live:=fun c=>[],run:=fun c=>none,xm:=fun c q=>none }
theorem aM (n:Nat):ta tys (fa Out (Nz n)) (eD n) n (aa Tryz.f40) 0:=oa (fun _=>rfl) _ _ (by kernel_rfl)
theorem JN (n:Nat):Enters Tryz.prog 40:=enters_of (c:=aa Tryz.f40) Tryz.func40 (by kernel_rfl) (by kernel_rfl)
def FK (n:Nat):Entry:=⟨40,jX K1 (.one .bool) (fun xs=>Dx n xs.1),none,none⟩
theorem NP (n:Nat):EntryOk Tryz.prog gl (FK n):=Aa (JN n) fun xs y h=>ma tys_ok (Tw n) mixed (hint:=eD n) (n:=n) Tryz.func40 (Ea (aM n)) (na (φ:=(fun y=>some (Out.ret (Qb (.one .bool) y)))) (by kernel_rfl) (JR n xs.1 _) h)
def GK (n:Nat):List Entry:=FK n::Nz n
theorem SI (n:Nat):AllOk Tryz.prog gl (GK n):=.cons (NP n) (Tw n)
def zb (n:Nat):List Entry:=yb::GK n
theorem bd (n:Nat):AllOk Tryz.prog gl (zb n):=.cons Kd (SI n)
def Ab (n:Nat):List Entry:=cd::zb n
theorem dc (n:Nat):AllOk Tryz.prog gl (Ab n):=.cons Ig (bd n)
def zh (n:Nat) {R:Type} (c:T0) (k:U1→Option R):Option R:=vW 1 ((tk 32 c.2.2.2.2.2.2.2.2.1).bind fun v=>(tk 16 c.2.2.2.2.2.2.2.2.2.1).bind fun v1=>k (c.1,(c.2.1,(c.2.2.1,(c.2.2.2.1.1,(c.2.2.2.1.2.1,(c.2.2.2.2.1,(c.2.2.2.2.2.1,(c.2.2.2.2.2.2.1,(c.2.2.2.2.2.2.2.1.1,(c.2.2.2.2.2.2.2.1.2.1,(c.2.2.2.2.2.2.2.2.2.2.1,(c.2.2.2.2.2.2.2.2.2.2.2.1,(v.1,(v1.1,())))))))))))))))
def Ze (n:Nat) (c:T0):Option U1:=zh n c some
theorem cM (n:Nat) {S:Type}:∀ c (φ:_→Option S),(Ze n c).bind φ=zh n c φ:=by
  intros;unfold Ze zh;first | (simp only [ia,ba,iB,bB,oL,oX,nB,Option.bind_some]) | rfl
def Ss (n:Nat):Hint OutS:={ live:=fun c=>[],run:=fun c=>none,xm:=fun c q=>none,sch:=fun c=>(cond (Nat.beq c 1) (some [(0,0),(3,0),(1,1),(2,5),(4,7),(5,2),(6,6),(7,2),(8,6),(9,2)]) none),pr:=[(0,10,47),(0,11,9)] }
theorem lE (n:Nat):ta tys (fa OutS (Ab n)).keep (Ss n) n (aa Tryz.f42) 0:=oa (fun _=>rfl) _ _ (by kernel_rfl)
theorem uG (n:Nat):Enters Tryz.prog 42:=enters_of (c:=aa Tryz.f42) Tryz.func42 (by kernel_rfl) (by kernel_rfl)
def Cz:List RSp:=[.one (.dat K0)]
def Bz:List RS:=[]
def vG:List Sl:=[.top]
def wG:List RSp:=[.agg [.dat (.int .i64),.dat (.int .i64),.dat (.int .i64),.dat .str,.dat .bool,.dat (.int .i64),.dat .str,.dat .bool,.dat .str,.dat .str,.row 0,.row 1,.dat (.int .i64),.dat .bool]]
def Gi:List RS:=[.row 47 2 (.pair .str (.pair .str .unit)) true true,.row 9 1 .str true true]
def Yu (y:U1):OutS:=⟨false,un (Ue Gi (y.2.2.2.2.2.2.2.2.2.2.2.2.1,(y.2.2.2.2.2.2.2.2.2.2.2.2.2.1,()))) vG (),zD (pC (Ue Gi (y.2.2.2.2.2.2.2.2.2.2.2.2.1,(y.2.2.2.2.2.2.2.2.2.2.2.2.2.1,()))) wG ((y.1,(y.2.1,(y.2.2.1,(y.2.2.2.1,(y.2.2.2.2.1,(y.2.2.2.2.2.1,(y.2.2.2.2.2.2.1,(y.2.2.2.2.2.2.2.1,(y.2.2.2.2.2.2.2.2.1,(y.2.2.2.2.2.2.2.2.2.1,(y.2.2.2.2.2.2.2.2.2.2.1,(y.2.2.2.2.2.2.2.2.2.2.2.1,())))))))))))),())),Qu (Ue Gi (y.2.2.2.2.2.2.2.2.2.2.2.2.1,(y.2.2.2.2.2.2.2.2.2.2.2.2.2.1,()))) Gi (y.2.2.2.2.2.2.2.2.2.2.2.2.1,(y.2.2.2.2.2.2.2.2.2.2.2.2.2.1,()))⟩
theorem UI (n:Nat):EntryOk Tryz.prog gl ⟨42,Kj,none,some (rW Cz Bz (fun σ ρ=>Ze n σ.1.1) Yu)⟩:=Ph (uG n) fun σ ρ y h=>Iq tys_ok (dc n) mixed (hint:=Ss n) (n:=n) Tryz.func42 (Ea (lE n)) (na (φ:=fun y=>some (Yu y)) (by kernel_rfl) (cM n σ.1.1 _) h)
def Oq (n:Nat):List Entry:=⟨42,Kj,none,some (rW Cz Bz (fun σ ρ=>Ze n σ.1.1) Yu)⟩::Ab n
theorem Yp (n:Nat):AllOk Tryz.prog gl (Oq n):=.cons (UI n) (dc n)
def bf (n:Nat) {R:Type} (s prefix0:BA) (k:BA→Option R):Option R:=(yc n s prefix0).bind fun v=>if v=true then if 0≤(prefix0.size:Int)∧(prefix0.size:Int)≤(s.size:Int) then k (s.extract (Int.toNat (prefix0.size:Int)) (Int.toNat (s.size:Int))) else none else k s
def af (n:Nat) (s prefix0:BA):Option BA:=bf n s prefix0 some
theorem dA (n:Nat) {S:Type}:∀ s prefix0 (φ:_→Option S),(af n s prefix0).bind φ=bf n s prefix0 φ:=by
  intros;unfold af bf;first | (simp only [ia,ba,iB,bB,oL,oX,nB,Option.bind_some]) | rfl
def Pi (n:Nat):Hint Out:={ live:=fun c=>[],run:=fun c=>none,xm:=fun c q=>none }
theorem At (n:Nat):ta tys (fa Out (Oq n)) (Pi n) n (aa Tryz.f119) 0:=oa (fun _=>rfl) _ _ (by kernel_rfl)
theorem Fv (n:Nat):Enters Tryz.prog 119:=enters_of (c:=aa Tryz.f119) Tryz.func119 (by kernel_rfl) (by kernel_rfl)
def km (n:Nat):Entry:=⟨119,jX (.pair .str (.pair .str .unit)) (.one .str) (fun xs=>af n xs.1 xs.2.1),none,none⟩
theorem Tx (n:Nat):EntryOk Tryz.prog gl (km n):=Aa (Fv n) fun xs y h=>ma tys_ok (Yp n) mixed (hint:=Pi n) (n:=n) Tryz.func119 (Ea (At n)) (na (φ:=(fun y=>some (Out.ret (Qb (.one .str) y)))) (by kernel_rfl) (dA n xs.1 xs.2.1 _) h)
def Dg (n:Nat):List Entry:=km n::Oq n
theorem Xh (n:Nat):AllOk Tryz.prog gl (Dg n):=.cons (Tx n) (Yp n)
def nf (n:Nat) {R:Type} (s prefix0:BA) (k:BA→Option R):Option R:=(af n s prefix0).bind fun v=>k v
def ua (n:Nat) (s prefix0:BA):Option BA:=nf n s prefix0 some
theorem SA (n:Nat) {S:Type}:∀ s prefix0 (φ:_→Option S),(ua n s prefix0).bind φ=nf n s prefix0 φ:=by
  intros;unfold ua nf;first | (simp only [ia,ba,iB,bB,oL,oX,nB,Option.bind_some]) | rfl
def lj (n:Nat):Hint Out:={ live:=fun c=>[],run:=fun c=>none,xm:=fun c q=>none }
theorem su (n:Nat):ta tys (fa Out (Dg n)) (lj n) n (aa Tryz.f90) 0:=oa (fun _=>rfl) _ _ (by kernel_rfl)
theorem ew (n:Nat):Enters Tryz.prog 90:=enters_of (c:=aa Tryz.f90) Tryz.func90 (by kernel_rfl) (by kernel_rfl)
def rm (n:Nat):Entry:=⟨90,jX (.pair .str (.pair .str .unit)) (.one .str) (fun xs=>ua n xs.1 xs.2.1),none,none⟩
theorem ny (n:Nat):EntryOk Tryz.prog gl (rm n):=Aa (ew n) fun xs y h=>ma tys_ok (Xh n) mixed (hint:=lj n) (n:=n) Tryz.func90 (Ea (su n)) (na (φ:=(fun y=>some (Out.ret (Qb (.one .str) y)))) (by kernel_rfl) (SA n xs.1 xs.2.1 _) h)
def Jg (n:Nat):List Entry:=rm n::Dg n
theorem si (n:Nat):AllOk Tryz.prog gl (Jg n):=.cons (ny n) (Xh n)
def Ce (n:Nat) {R:Type} (line:BA) (k:(BA×Bool×Unit)→Option R):Option R:=if (line.toList==(⟨#[46]⟩:BA).toList)=true then k ((⟨#[]⟩:BA),(true,())) else (ua n line (⟨#[46]⟩:BA)).bind fun v=>k (v,(false,()))
def Sb (n:Nat) (line:BA):Option (BA×Bool×Unit):=Ce n line some
theorem mJ (n:Nat) {S:Type}:∀ line (φ:_→Option S),(Sb n line).bind φ=Ce n line φ:=by
  intros;unfold Sb Ce;first | (simp only [ia,ba,iB,bB,oL,oX,nB,Option.bind_some]) | rfl
def cq (n:Nat):Hint Out:={ live:=fun c=>[],run:=fun c=>none,xm:=fun c q=>none }
theorem nC (n:Nat):ta tys (fa Out (Jg n)) (cq n) n (aa Tryz.f56) 0:=oa (fun _=>rfl) _ _ (by kernel_rfl)
theorem xE (n:Nat):Enters Tryz.prog 56:=enters_of (c:=aa Tryz.f56) Tryz.func56 (by kernel_rfl) (by kernel_rfl)
def Vw (n:Nat):Entry:=⟨56,jX (.pair .str .unit) (.many (.pair .str (.pair .bool .unit))) (fun xs=>Sb n xs.1),none,none⟩
theorem PG (n:Nat):EntryOk Tryz.prog gl (Vw n):=Aa (xE n) fun xs y h=>ma tys_ok (si n) mixed (hint:=cq n) (n:=n) Tryz.func56 (Ea (nC n)) (na (φ:=(fun y=>some (Out.ret (Qb (.many (.pair .str (.pair .bool .unit))) y)))) (by kernel_rfl) (mJ n xs.1 _) h)
def sn (n:Nat):List Entry:=Vw n::Jg n
theorem tn (n:Nat):AllOk Tryz.prog gl (sn n):=.cons (PG n) (si n)
def ke (n:Nat) {R:Type} (c c1 c2:Int) (c3:BA) (c4:Bool) (c5:Int) (c6:BA) (c7:Bool) (c8 c9:BA) (c10:Int) (c11:Bool) (l:U5) (r0:(Sq U0)) (r1:(Sq BA)) (k:(T0×BA×Unit)→Option R):Option R:=(Sb n l.1).bind fun v=>if v.2.1=true then if (!l.2.1)=true then k ((c,(c1,(c2,((c3,(c4,())),(c5,(c6,(c7,((c8,(c9,())),(r0,(r1,(c10,(c11,())))))))))))),((⟨#[115,101,110,100]⟩:BA),())) else if c11=true then k ((c,(c1,(c2,((c3,(c4,())),(c5,(c6,(c7,((c8,(c9,())),(r0,(r1,(c10,(c11,())))))))))))),((⟨#[]⟩:BA),())) else if l.2.1=false then (og n v.1).bind fun v1=>if (!v1)=false then if (decide ((IntKind.wrap .i64 ((IntKind.wrap .i64 (c10+(v.1.size:Int)))+(2:Int)))>(8192:Int)))=true then k ((c,(c1,(c2,((c3,(c4,())),(c5,(c6,(c7,((c8,(c9,())),(r0,((⟨0,fun _=>sa .str⟩:Sq BA),((0:Int),(true,())))))))))))),((⟨#[]⟩:BA),())) else if Ya (r1.n+1) 16=true then k ((c,(c1,(c2,((c3,(c4,())),(c5,(c6,(c7,((c8,(c9,())),(r0,((⟨(r1.n+1),fun q=>if q<r1.n then r1.at' q else (fun q=>List.getD (α:=BA) [v.1] q (sa .str)) (q - r1.n)⟩:Sq BA),((IntKind.wrap .i64 ((IntKind.wrap .i64 (c10+(v.1.size:Int)))+(2:Int))),(c11,())))))))))))),((⟨#[]⟩:BA),())) else none else k ((c,(c1,(c2,((c3,(c4,())),(c5,(c6,(c7,((c8,(c9,())),(r0,((⟨0,fun _=>sa .str⟩:Sq BA),((0:Int),(true,())))))))))))),((⟨#[]⟩:BA),()))
 else k ((c,(c1,(c2,((c3,(c4,())),(c5,(c6,(c7,((c8,(c9,())),(r0,((⟨0,fun _=>sa .str⟩:Sq BA),((0:Int),(true,())))))))))))),((⟨#[]⟩:BA),())) else if c11=true then k ((c,(c1,(c2,((c3,(c4,())),(c5,(c6,(c7,((c8,(c9,())),(r0,(r1,(c10,(c11,())))))))))))),((⟨#[]⟩:BA),())) else if l.2.1=false then (og n v.1).bind fun v2=>if (!v2)=false then if (decide ((IntKind.wrap .i64 ((IntKind.wrap .i64 (c10+(v.1.size:Int)))+(2:Int)))>(8192:Int)))=true then k ((c,(c1,(c2,((c3,(c4,())),(c5,(c6,(c7,((c8,(c9,())),(r0,((⟨0,fun _=>sa .str⟩:Sq BA),((0:Int),(true,())))))))))))),((⟨#[]⟩:BA),())) else if Ya (r1.n+1) 16=true then k ((c,(c1,(c2,((c3,(c4,())),(c5,(c6,(c7,((c8,(c9,())),(r0,((⟨(r1.n+1),fun q=>if q<r1.n then r1.at' q else (fun q=>List.getD (α:=BA) [v.1] q (sa .str)) (q - r1.n)⟩:Sq BA),((IntKind.wrap .i64 ((IntKind.wrap .i64 (c10+(v.1.size:Int)))+(2:Int))),(c11,())))))))))))),((⟨#[]⟩:BA),())) else none else k ((c,(c1,(c2,((c3,(c4,())),(c5,(c6,(c7,((c8,(c9,())),(r0,((⟨0,fun _=>sa .str⟩:Sq BA),((0:Int),(true,())))))))))))),((⟨#[]⟩:BA),())) else k ((c,(c1,(c2,((c3,(c4,())),(c5,(c6,(c7,((c8,(c9,())),(r0,((⟨0,fun _=>sa .str⟩:Sq BA),((0:Int),(true,())))))))))))),((⟨#[]⟩:BA),()))
def Gb (n:Nat) (c c1 c2:Int) (c3:BA) (c4:Bool) (c5:Int) (c6:BA) (c7:Bool) (c8 c9:BA) (c10:Int) (c11:Bool) (l:U5) (r0:(Sq U0)) (r1:(Sq BA)):Option (T0×BA×Unit):=ke n c c1 c2 c3 c4 c5 c6 c7 c8 c9 c10 c11 l r0 r1 some
theorem dC (n:Nat) {S:Type}:∀ c c1 c2 c3 c4 c5 c6 c7 c8 c9 c10 c11 l r0 r1 (φ:_→Option S),(Gb n c c1 c2 c3 c4 c5 c6 c7 c8 c9 c10 c11 l r0 r1).bind φ=ke n c c1 c2 c3 c4 c5 c6 c7 c8 c9 c10 c11 l r0 r1 φ:=by
  intros;unfold Gb ke;first | (simp only [ia,ba,iB,bB,oL,oX,nB,Option.bind_some]) | rfl
def rk (n:Nat):Hint OutS:={ live:=fun c=>[],run:=fun c=>none,xm:=fun c q=>none,fz:=true }
theorem qv (n:Nat):ta tys (fa OutS (sn n)) (rk n) n (aa Tryz.f77) 0:=oa (fun _=>rfl) _ _ (by kernel_rfl)
theorem Mx (n:Nat):Enters Tryz.prog 77:=enters_of (c:=aa Tryz.f77) Tryz.func77 (by kernel_rfl) (by kernel_rfl)
def bn:List RSp:=[.agg [.dat (.int .i64),.dat (.int .i64),.dat (.int .i64),.dat .str,.dat .bool,.dat (.int .i64),.dat .str,.dat .bool,.dat .str,.dat .str,.row 0,.row 1,.dat (.int .i64),.dat .bool],.one (.dat (.pair .str (.pair .bool .unit)))]
def an:List RS:=[.row 47 2 (.pair .str (.pair .str .unit)) true true,.row 9 1 .str true true]
def Nx:List Sl:=[.top,.top]
def Ox:List RSp:=[.one (.dat K0),.one (.dat .str)]
def oe:List RS:=[]
def Hj (y:(T0×BA×Unit)):OutS:=⟨false,un (Ue oe ()) Nx (),zD (pC (Ue oe ()) Ox ((y.1,()),((y.2.1,()),()))),Qu (Ue oe ()) oe ()⟩
theorem Pz (n:Nat):EntryOk Tryz.prog gl ⟨77,Kj,none,some (rW bn an (fun σ ρ=>Gb n σ.1.1 σ.1.2.1 σ.1.2.2.1 σ.1.2.2.2.1 σ.1.2.2.2.2.1 σ.1.2.2.2.2.2.1 σ.1.2.2.2.2.2.2.1 σ.1.2.2.2.2.2.2.2.1 σ.1.2.2.2.2.2.2.2.2.1 σ.1.2.2.2.2.2.2.2.2.2.1 σ.1.2.2.2.2.2.2.2.2.2.2.1 σ.1.2.2.2.2.2.2.2.2.2.2.2.1 σ.2.1.1 ρ.1 ρ.2.1) Hj)⟩:=Ph (Mx n) fun σ ρ y h=>ic tys_ok (tn n) mixed (hint:=rk n) (n:=n) Tryz.func77 (Ea (qv n)) (na (φ:=fun y=>some (Hj y)) (by kernel_rfl) (dC n σ.1.1 σ.1.2.1 σ.1.2.2.1 σ.1.2.2.2.1 σ.1.2.2.2.2.1 σ.1.2.2.2.2.2.1 σ.1.2.2.2.2.2.2.1 σ.1.2.2.2.2.2.2.2.1 σ.1.2.2.2.2.2.2.2.2.1 σ.1.2.2.2.2.2.2.2.2.2.1 σ.1.2.2.2.2.2.2.2.2.2.2.1 σ.1.2.2.2.2.2.2.2.2.2.2.2.1 σ.2.1.1 ρ.1 ρ.2.1 _) h)
def Mh (n:Nat):List Entry:=⟨77,Kj,none,some (rW bn an (fun σ ρ=>Gb n σ.1.1 σ.1.2.1 σ.1.2.2.1 σ.1.2.2.2.1 σ.1.2.2.2.2.1 σ.1.2.2.2.2.2.1 σ.1.2.2.2.2.2.2.1 σ.1.2.2.2.2.2.2.2.1 σ.1.2.2.2.2.2.2.2.2.1 σ.1.2.2.2.2.2.2.2.2.2.1 σ.1.2.2.2.2.2.2.2.2.2.2.1 σ.1.2.2.2.2.2.2.2.2.2.2.2.1 σ.2.1.1 ρ.1 ρ.2.1) Hj)⟩::sn n
theorem Ji (n:Nat):AllOk Tryz.prog gl (Mh n):=.cons (Pz n) (tn n)
end
end Go.Proofs.YtddefjokgaajfaaGreatDoor.AM
