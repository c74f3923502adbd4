/- Typed functions that tell what the Go functions of this seat answer, and proofs of it, by program (gen.py). -/
import Derived.Test.YtdohilmgblkppaaGreatDoorYT
import Derived.Test.YtdohilmgblkppaaGreatDoorYB
import Derived.Test.YtdohilmgblkppaaGreatDoorYL
import Derived.Test.YtdohilmgblkppaaGreatDoorYM
import Derived.Test.YtdohilmgblkppaaGreatDoorYN
set_option linter.all false
set_option linter.unusedVariables false
set_option linter.unusedSimpArgs false
set_option maxRecDepth 1000000
set_option maxHeartbeats 0
namespace Go.Proofs.YtdohilmgblkppaaGreatDoor.AM
open Go Go.RowKit
noncomputable section
abbrev K0:CTy:=(.pair (.int .i64) (.pair (.int .i64) (.pair (.int .i64) (.pair (.pair .str (.pair .bool .unit)) (.pair (.int .i64) (.pair .str (.pair .bool (.pair (.pair .str (.pair .str .unit)) (.pair (.sl (.pair .str (.pair .str .unit))) (.pair (.sl .str) (.pair (.int .i64) (.pair .bool .unit))))))))))))
abbrev K1:CTy:=(.pair K0 .unit)
abbrev K2:CTy:=(.pair (.int .i64) (.pair .str (.pair .bool (.pair (.pair .str (.pair .str .unit)) (.pair (.int .i64) .unit)))))
abbrev K3:CTy:=(.pair (.int .i64) (.pair (.int .i64) (.pair (.int .i64) (.pair (.pair .str (.pair .bool .unit)) (.pair K2 .unit)))))
abbrev K4:CTy:=(.pair K0 (.pair (.sl K3) .unit))
abbrev K5:CTy:=(.pair K4 .unit)
abbrev K6:CTy:=(.pair (.sl (.pair .str (.pair .str .unit))) (.pair (.pair .str (.pair .str .unit)) .unit))
abbrev K7:CTy:=(.pair .str (.pair .str (.pair (.int .i64) (.pair (.int .i64) .unit))))
abbrev K8:CTy:=(.pair (.pair .str (.pair .str .unit)) (.pair .bool (.pair (.int .i64) .unit)))
abbrev K9:CTy:=(.pair (.pair .str (.pair .str .unit)) (.pair .bool (.pair .str .unit)))
abbrev K10:CTy:=(.pair K2 (.pair .bool .unit))
abbrev K11:CTy:=(.pair K2 .unit)
abbrev K12:CTy:=(.pair K2 (.pair (.int .i64) .unit))
abbrev K13:CTy:=(.pair K0 (.pair K2 .unit))
abbrev K14:CTy:=(.pair K0 (.pair (.int .i64) (.pair .str .unit)))
abbrev K15:CTy:=(.pair K0 (.pair (.int .i64) (.pair .str (.pair (.int .i64) .unit))))
abbrev K16:CTy:=(.pair K0 (.pair (.pair .str (.pair .bool .unit)) .unit))
abbrev K17:CTy:=(.pair (.sl (.pair .str (.pair .str .unit))) (.pair (.sl (.pair .str (.pair .str .unit))) .unit))
abbrev K18:CTy:=(.pair K0 (.pair K0 .unit))
abbrev K19:CTy:=(.pair K0 (.pair (.int .i64) .unit))
abbrev K20:CTy:=(.pair (.pair .str (.pair .str .unit)) (.pair .bool (.pair .bool .unit)))
abbrev K21:CTy:=(.pair K0 (.pair .bool .unit))
abbrev K22:CTy:=(.pair K0 (.pair K3 .unit))
abbrev K23:CTy:=(.pair K4 (.pair (.int .i64) .unit))
theorem aa:True:=trivial
abbrev U0:Type:=(BA×(BA×Unit))
abbrev T1:Type:=(Int×(BA×(Bool×(U0×(Int×Unit)))))
abbrev U1:Type:=(Int×Int×Int×BA×Bool×Int×BA×Bool×BA×BA×(Sq U0)×(Sq BA)×Int×Bool)
abbrev U2:Type:=(Int×Int×Int×BA×Bool×Int×BA×Bool×BA×BA×Int×Bool×(Sq U0)×(Sq BA)×Unit)
abbrev U3:Type:=(Int×Int×Int×BA×Bool×Int×BA×Bool×BA×BA×Int×Bool×Int×(Sq U0)×(Sq BA)×Unit)
abbrev U5:Type:=(Int×Int×Int×Int×Int×BA×Bool×Int×BA×Bool×BA×BA×(Sq U0)×(Sq BA)×Int×Bool)
abbrev U6:Type:=(Int×Int×Int×Int×BA×Bool×Int×BA×Bool×BA×BA×(Sq U0)×(Sq BA)×Int×Bool)
abbrev U7:Type:=(Int×Int×BA×Int×Bool×Int×Int×Int×BA×Bool×Int×BA×Bool×BA×BA×(Sq U0)×(Sq BA)×Int×Bool×(Sq BA)×Int×Int×Int×BA×Bool×Int×BA×Bool×BA×BA×(Sq U0)×(Sq BA)×Int×Bool)
abbrev U8:Type:=(Int×BA×BA×Int×BA×Bool×BA×BA×Int×Int×BA×Bool×BA×BA×Int)
abbrev U9:Type:=(Int×Int×BA×Bool×BA×BA×Int)
abbrev U10:Type:=(BA×(Bool×Unit))
abbrev T0:Type:=(Int×(Int×(Int×(U10×(Int×(BA×(Bool×(U0×((Sq U0)×((Sq BA)×(Int×(Bool×Unit))))))))))))
abbrev T2:Type:=(Int×(Int×(Int×(U10×(T1×Unit)))))
abbrev U4:Type:=(T0×((Sq T2)×Unit))
abbrev U11:Type:=(Int×Int×Int×BA×Bool×Int×BA×Bool×BA×BA×Int×Bool×Int×BA×Int×(Sq U0)×(Sq BA)×Unit)
abbrev U12:Type:=(Int×Int×Int×Int×BA×Bool×Int×BA×Bool×BA×BA×(Sq U0)×(Sq BA)×Int×Bool×(Sq T2))
abbrev U13:Type:=(BA×Int×Int×BA×Bool×BA×BA×Int)
abbrev U14:Type:=(Int×Int×Int×BA×Bool×Int×BA×Bool×BA×BA×Int×Bool×(Sq U0)×(Sq BA))
abbrev U15:Type:=(T0×Int×BA×Unit)
abbrev U16:Type:=(Int×BA×Int×BA×Bool×BA×BA×Int×Int×BA×Bool×BA×BA×Int)
abbrev U17:Type:=(BA×Int×Int×BA×Bool×BA×BA×Int×Int×BA×Bool×BA×BA×Int)
abbrev U18:Type:=(Bool×Int×BA×Bool×BA×BA×Int×Int×BA×Bool×BA×BA×Int)
abbrev U19:Type:=(Int×BA×Bool×BA×BA×Int×Int×BA×Bool×BA×BA×Int)
abbrev U20:Type:=((Sq Int)×Unit)
abbrev U21:Type:=(BA×Int×Int×Int×BA×Bool×BA×BA×Int)
def Ckb (n:Nat):List Entry:=[]
theorem leb (n:Nat):AllOk Tryz.prog gl (Ckb n):=.nil
def Nc (n:Nat) {R:Type} (l1:(Sq BA)) (n0 i:Int) (kn:(Sq BA)→Int→Int→Option R) (ko:(Int)→Option R) (kr:Unit→Option R) (kp:Int→Option R):Option R:=if (decide (i<(l1.n:Int)))=true then if (decide (n0<(1048576:Int)))=true then if 0≤i∧i<(l1.n:Int) then kn l1 (IntKind.wrap .i64 (n0+((l1.at' (Int.toNat i)).size:Int))) (IntKind.wrap .i64 (i+(1:Int))) else none else ko n0 else ko n0
def Pa (n:Nat):Nat→(Sq BA)→Int→Int→Option (Lx (Int) Unit)
 | 0,_,_,_=>none
 | m+1,l1,n0,i=>Nc n l1 n0 i (Pa n m) (fun a=>some (.out a)) (fun a=>some (.ret a)) (fun p=>some (.pan p))
theorem cL (n m:Nat) {S:Type}:∀ l1 n0 i (φ:_→Option S),(Pa n (m+1) l1 n0 i).bind φ=Nc n l1 n0 i (fun l1 n0 i=>(Pa n m l1 n0 i).bind φ) (fun a=>φ (.out a)) (fun a=>φ (.ret a)) (fun p=>φ (.pan p)):=by
  intros;first | (simp only [Pa,Nc,ia,ba,iB,bB,oL,oX,nB,Option.bind_some]) | rfl
def di:List Sl:=.dat (.sl .str)::.top::.top::.dat (.int .i64)::.dat (.int .i64)::tp 20 []
def ci:List RS:=[]
def Dx:List Sl:=.top::.top::.top::.dat (.int .i64)::tp 21 []
def Cx:List RS:=[]
def Rb (K:XE→List AV→oa→Option Out):Lx (Int) Unit→Option Out:=fun x=>onL x (fun a=>Zb Dx Cx (a,()) () (K (.exit 0))) (fun _=>none) (fun _=>none)
def zj (n:Nat) {R:Type} (l:(Sq BA)) (k:Int→Option R):Option R:=(Pa n n l (l.n:Int) (0:Int)).bind fun x_1=>onL x_1 (fun a_2=>k a_2) (fun _=>none) (fun _=>none)
def Yg (n:Nat) (l:(Sq BA)):Option Int:=zj n l some
theorem fU (n:Nat) {S:Type}:∀ l (φ:_→Option S),(Yg n l).bind φ=zj n l φ:=by
  intros;unfold Yg zj;first | (simp only [ia,ba,iB,bB,oL,oX,nB,Option.bind_some]) | rfl
def Mf (n:Nat):Hint Out:={ live:=fun c=>(cond (Nat.beq c 0) [(0,some (.sl .str)),(3,none),(4,none)] []),run:=fun c=>(cond (Nat.beq c 0) (some (Qf di ci fun σ ρ K=>(Pa n n σ.1 σ.2.1 σ.2.2.1).bind (Rb K))) none),xm:=fun c q=>(cond (Nat.beq c 0&&Nat.beq (q.getD 1000000) 0&&q.isSome) (some [(3,none)]) none) }
def Lf (n:Nat) (K:XE→List AV→oa→Option Out) (m:Nat) (l1:(Sq BA)) (n0:Int) (i:Int):Option Out:=Dc tys (ja Out (Ckb n)) (Mf n) n (ta [1,1,0,1,0,0] (fa Tryz.f57)) 0 di ci K m (l1,(n0,(i,()))) ()
theorem Ks (n:Nat) (K:XE→List AV→oa→Option Out):∀ (m:Nat) l1 n0 i,Lf n K m l1 n0 i=(Pa n m l1 n0 i).bind (Rb K)
  | 0,_,_,_=>by kernel_rfl
  | m+1,l1,n0,i=>by
    have h1:Lf n K (m+1) l1 n0 i=Nc n l1 n0 i (Lf n K m) (fun a=>Rb K (.out a)) (fun a=>Rb K (.ret a)) (fun p=>Rb K (.pan p)):=by kernel_rfl
    have h2:Lf n K m=fun l1 n0 i=>(Pa n m l1 n0 i).bind (Rb K):=by
      repeat (refine funext fun _=>?_)
      exact Ks n K m _ _ _
    rw [h1,h2];exact (cL n m _ _ _ (Rb K)).symm
theorem AH (n:Nat):ec tys (ja Out (Ckb n)) (Mf n) n (ta [1,1,0,1,0,0] (fa Tryz.f57)) 0:=Ba (sp:=di) (rp:=ci) (by kernel_rfl) fun K σ ρ=>Ks n K n σ.1 σ.2.1 σ.2.2.1
theorem dL (n:Nat):qa tys (ja Out (Ckb n)) (Mf n) n (fa Tryz.f57) 0:=⟨aa,⟨aa,⟨⟨aa,⟨AH n,⟨⟨aa,⟨aa,aa⟩⟩,⟨aa,aa⟩⟩⟩⟩,⟨aa,aa⟩⟩⟩⟩
theorem mN (n:Nat):Enters Tryz.prog 57:=enters_of (c:=fa Tryz.f57) Tryz.func57 (by kernel_rfl) (by kernel_rfl)
def gy (n:Nat):Entry:=⟨57,pcT (.pair (.sl .str) .unit) (.one (.int .i64)) (fun xs=>Yg n xs.1),none,none⟩
theorem eQ (n:Nat):EntryOk Tryz.prog gl (gy n):=ya (mN n) fun xs y h=>ma tys_ok (leb n) mixed (hint:=Mf n) (n:=n) Tryz.func57 (za (dL n)) (la (φ:=(fun y=>some (Out.ret (ib (.one (.int .i64)) y)))) (by kernel_rfl) (fU n xs.1 _) h)
def Bf (n:Nat):List Entry:=gy n::Ckb n
theorem uq (n:Nat):AllOk Tryz.prog gl (Bf n):=.cons (eQ n) (leb n)
def db (n:Nat) {R:Type} (n0 i c1 c2 c3:Int) (c4:BA) (c5:Bool) (c6:Int) (c7:BA) (c8:Bool) (c9 c10:BA) (c11:(Sq U0)) (c12:(Sq BA)) (c13:Int) (c14:Bool) (kn:Int→Int→Int→Int→Int→BA→Bool→Int→BA→Bool→BA→BA→(Sq U0)→(Sq BA)→Int→Bool→Option R) (ko:(Int)→Option R) (kr:Unit→Option R) (kp:Int→Option R):Option R:=if (decide (i<(c11.n:Int)))=true then if (decide (n0<(1048576:Int)))=true then if 0≤i∧i<(c11.n:Int) then if 0≤i∧i<(c11.n:Int) then kn (IntKind.wrap .i64 ((IntKind.wrap .i64 ((IntKind.wrap .i64 (n0+(1:Int)))+((((c11.at' (Int.toNat i))).1).size:Int)))+(((((c11.at' (Int.toNat i))).2).1).size:Int))) (IntKind.wrap .i64 (i+(1:Int))) c1 c2 c3 c4 c5 c6 c7 c8 c9 c10 c11 c12 c13 c14 else none else none else ko n0 else ko n0
def Ea (n:Nat):Nat→Int→Int→Int→Int→Int→BA→Bool→Int→BA→Bool→BA→BA→(Sq U0)→(Sq BA)→Int→Bool→Option (Lx (Int) Unit)
 | 0,_,_,_,_,_,_,_,_,_,_,_,_,_,_,_,_=>none
 | m+1,n0,i,c1,c2,c3,c4,c5,c6,c7,c8,c9,c10,c11,c12,c13,c14=>db n n0 i c1 c2 c3 c4 c5 c6 c7 c8 c9 c10 c11 c12 c13 c14 (Ea n m) (fun a=>some (.out a)) (fun a=>some (.ret a)) (fun p=>some (.pan p))
theorem ED (n m:Nat) {S:Type}:∀ n0 i c1 c2 c3 c4 c5 c6 c7 c8 c9 c10 c11 c12 c13 c14 (φ:_→Option S),(Ea n (m+1) n0 i c1 c2 c3 c4 c5 c6 c7 c8 c9 c10 c11 c12 c13 c14).bind φ=db n n0 i c1 c2 c3 c4 c5 c6 c7 c8 c9 c10 c11 c12 c13 c14 (fun n0 i c1 c2 c3 c4 c5 c6 c7 c8 c9 c10 c11 c12 c13 c14=>(Ea n m n0 i c1 c2 c3 c4 c5 c6 c7 c8 c9 c10 c11 c12 c13 c14).bind φ) (fun a=>φ (.out a)) (fun a=>φ (.ret a)) (fun p=>φ (.pan p)):=by
  intros;first | (simp only [Ea,db,ia,ba,iB,bB,oL,oX,nB,Option.bind_some]) | rfl
def Dg:List Sl:=.top::.ptr 0 0 0::.top::.dat (.int .i64)::.dat (.int .i64)::tp 52 []
def Cg:List RS:=[.box 29 14 true [.dat (.int .i64),.dat (.int .i64),.dat (.int .i64),.dat .str,.dat .bool,.dat (.int .i64),.dat .str,.dat .bool,.dat .str,.dat .str,.dat (.sl (.pair .str (.pair .str .unit))),.dat (.sl .str),.dat (.int .i64),.dat .bool]]
def Zt:List Sl:=.top::.top::.top::.dat (.int .i64)::tp 53 []
def Yt:List RS:=[]
def lb (K:XE→List AV→oa→Option Out):Lx (Int) Unit→Option Out:=fun x=>onL x (fun a=>Zb Zt Yt (a,()) () (K (.exit 0))) (fun _=>none) (fun _=>none)
def Ug (n:Nat) {R:Type} (c:T0) (k:Int→Option R):Option R:=(Yg n c.2.2.2.2.2.2.2.2.2.1).bind fun v=>(Ea n n (IntKind.wrap .i64 ((IntKind.wrap .i64 ((IntKind.wrap .i64 ((IntKind.wrap .i64 ((c.2.2.2.2.2.1.size:Int)+(c.2.2.2.1.1.size:Int)))+v))+(c.2.2.2.2.2.2.2.1.1.size:Int)))+(c.2.2.2.2.2.2.2.1.2.1.size:Int))) (0:Int) c.1 c.2.1 c.2.2.1 c.2.2.2.1.1 c.2.2.2.1.2.1 c.2.2.2.2.1 c.2.2.2.2.2.1 c.2.2.2.2.2.2.1 c.2.2.2.2.2.2.2.1.1 c.2.2.2.2.2.2.2.1.2.1 c.2.2.2.2.2.2.2.2.1 c.2.2.2.2.2.2.2.2.2.1 c.2.2.2.2.2.2.2.2.2.2.1 c.2.2.2.2.2.2.2.2.2.2.2.1).bind fun x_1=>onL x_1 (fun a_2=>k a_2) (fun _=>none) (fun _=>none)
def le (n:Nat) (c:T0):Option Int:=Ug n c some
theorem fN (n:Nat) {S:Type}:∀ c (φ:_→Option S),(le n c).bind φ=Ug n c φ:=by
  intros;unfold le Ug;first | (simp only [ia,ba,iB,bB,oL,oX,nB,Option.bind_some]) | rfl
def Wd (n:Nat):Hint Out:={ live:=fun c=>(cond (Nat.beq c 0) (lv [1,3,4]) []),run:=fun c=>(cond (Nat.beq c 0) (some (Qf Dg Cg fun σ ρ K=>(Ea n n σ.1 σ.2.1 ρ.1.1 ρ.1.2.1 ρ.1.2.2.1 ρ.1.2.2.2.1 ρ.1.2.2.2.2.1 ρ.1.2.2.2.2.2.1 ρ.1.2.2.2.2.2.2.1 ρ.1.2.2.2.2.2.2.2.1 ρ.1.2.2.2.2.2.2.2.2.1 ρ.1.2.2.2.2.2.2.2.2.2.1 ρ.1.2.2.2.2.2.2.2.2.2.2.1 ρ.1.2.2.2.2.2.2.2.2.2.2.2.1 ρ.1.2.2.2.2.2.2.2.2.2.2.2.2.1 ρ.1.2.2.2.2.2.2.2.2.2.2.2.2.2.1).bind (lb K))) none),xm:=fun c q=>(cond (Nat.beq c 0&&Nat.beq (q.getD 1000000) 0&&q.isSome) (some [(3,none)]) none) }
def Vd (n:Nat) (K:XE→List AV→oa→Option Out) (m:Nat) (n0:Int) (i:Int) (c1:Int) (c2:Int) (c3:Int) (c4:BA) (c5:Bool) (c6:Int) (c7:BA) (c8:Bool) (c9:BA) (c10:BA) (c11:(Sq U0)) (c12:(Sq BA)) (c13:Int) (c14:Bool):Option Out:=Dc tys (ja Out (Bf n)) (Wd n) n (ta [1,1,0,1,0,0] (fa Tryz.f28)) 0 Dg Cg K m (n0,(i,())) ((c1,(c2,(c3,(c4,(c5,(c6,(c7,(c8,(c9,(c10,(c11,(c12,(c13,(c14,())))))))))))))),())
theorem Vm (n:Nat) (K:XE→List AV→oa→Option Out):∀ (m:Nat) n0 i c1 c2 c3 c4 c5 c6 c7 c8 c9 c10 c11 c12 c13 c14,Vd n K m n0 i c1 c2 c3 c4 c5 c6 c7 c8 c9 c10 c11 c12 c13 c14=(Ea n m n0 i c1 c2 c3 c4 c5 c6 c7 c8 c9 c10 c11 c12 c13 c14).bind (lb K)
  | 0,_,_,_,_,_,_,_,_,_,_,_,_,_,_,_,_=>by kernel_rfl
  | m+1,n0,i,c1,c2,c3,c4,c5,c6,c7,c8,c9,c10,c11,c12,c13,c14=>by
    have h1:Vd n K (m+1) n0 i c1 c2 c3 c4 c5 c6 c7 c8 c9 c10 c11 c12 c13 c14=db n n0 i c1 c2 c3 c4 c5 c6 c7 c8 c9 c10 c11 c12 c13 c14 (Vd n K m) (fun a=>lb K (.out a)) (fun a=>lb K (.ret a)) (fun p=>lb K (.pan p)):=by kernel_rfl
    have h2:Vd n K m=fun n0 i c1 c2 c3 c4 c5 c6 c7 c8 c9 c10 c11 c12 c13 c14=>(Ea n m n0 i c1 c2 c3 c4 c5 c6 c7 c8 c9 c10 c11 c12 c13 c14).bind (lb K):=by
      repeat (refine funext fun _=>?_)
      exact Vm n K m _ _ _ _ _ _ _ _ _ _ _ _ _ _ _ _
    rw [h1,h2];exact (ED n m _ _ _ _ _ _ _ _ _ _ _ _ _ _ _ _ (lb K)).symm
theorem IB (n:Nat):ec tys (ja Out (Bf n)) (Wd n) n (ta [1,1,0,1,0,0] (fa Tryz.f28)) 0:=Ba (sp:=Dg) (rp:=Cg) (by kernel_rfl) fun K σ ρ=>Vm n K n σ.1 σ.2.1 ρ.1.1 ρ.1.2.1 ρ.1.2.2.1 ρ.1.2.2.2.1 ρ.1.2.2.2.2.1 ρ.1.2.2.2.2.2.1 ρ.1.2.2.2.2.2.2.1 ρ.1.2.2.2.2.2.2.2.1 ρ.1.2.2.2.2.2.2.2.2.1 ρ.1.2.2.2.2.2.2.2.2.2.1 ρ.1.2.2.2.2.2.2.2.2.2.2.1 ρ.1.2.2.2.2.2.2.2.2.2.2.2.1 ρ.1.2.2.2.2.2.2.2.2.2.2.2.2.1 ρ.1.2.2.2.2.2.2.2.2.2.2.2.2.2.1
theorem FD (n:Nat):qa tys (ja Out (Bf n)) (Wd n) n (fa Tryz.f28) 0:=⟨aa,⟨aa,⟨⟨aa,⟨IB n,⟨⟨aa,⟨aa,aa⟩⟩,⟨aa,aa⟩⟩⟩⟩,⟨aa,aa⟩⟩⟩⟩
theorem yH (n:Nat):Enters Tryz.prog 28:=enters_of (c:=fa Tryz.f28) Tryz.func28 (by kernel_rfl) (by kernel_rfl)
def Gs (n:Nat):Entry:=⟨28,pcT K1 (.one (.int .i64)) (fun xs=>le n xs.1),none,none⟩
theorem YK (n:Nat):EntryOk Tryz.prog gl (Gs n):=ya (yH n) fun xs y h=>ma tys_ok (uq n) mixed (hint:=Wd n) (n:=n) Tryz.func28 (za (FD n)) (la (φ:=(fun y=>some (Out.ret (ib (.one (.int .i64)) y)))) (by kernel_rfl) (fN n xs.1 _) h)
def Ed (n:Nat):List Entry:=Gs n::Bf n
theorem Zl (n:Nat):AllOk Tryz.prog gl (Ed n):=.cons (YK n) (uq n)
def sf (n:Nat) {R:Type} (n0 i p1 p2 p3:Int) (p4:BA) (p5:Bool) (p6:Int) (p7:BA) (p8:Bool) (p9 p10:BA) (p11:(Sq U0)) (p12:(Sq BA)) (p13:Int) (p14:Bool) (p15:(Sq T2)) (kn:Int→Int→Int→Int→Int→BA→Bool→Int→BA→Bool→BA→BA→(Sq U0)→(Sq BA)→Int→Bool→(Sq T2)→Option R) (ko:U12→Option R) (kr:Unit→Option R) (kp:Int→Option R):Option R:=if (decide (i<(p15.n:Int)))=true then if (decide (n0<(1048576:Int)))=true then if 0≤i∧i<(p15.n:Int) then if 0≤i∧i<(p15.n:Int) then if 0≤i∧i<(p15.n:Int) then if 0≤i∧i<(p15.n:Int) then kn (IntKind.wrap .i64 ((IntKind.wrap .i64 ((IntKind.wrap .i64 ((IntKind.wrap .i64 ((IntKind.wrap .i64 (n0+(1:Int)))+((((((((p15.at' (Int.toNat i))).2).2).2).1).1).size:Int)))+((((((((((p15.at' (Int.toNat i))).2).2).2).2).1).2).1).size:Int)))+(((((((((((((p15.at' (Int.toNat i))).2).2).2).2).1).2).2).2).1).1).size:Int)))+((((((((((((((p15.at' (Int.toNat i))).2).2).2).2).1).2).2).2).1).2).1).size:Int))) (IntKind.wrap .i64 (i+(1:Int))) p1 p2 p3 p4 p5 p6 p7 p8 p9 p10 p11 p12 p13 p14 p15 else none else none else none else none else ko (n0,p1,p2,p3,p4,p5,p6,p7,p8,p9,p10,p11,p12,p13,p14,p15)
 else ko (n0,p1,p2,p3,p4,p5,p6,p7,p8,p9,p10,p11,p12,p13,p14,p15)
def Tb (n:Nat):Nat→Int→Int→Int→Int→Int→BA→Bool→Int→BA→Bool→BA→BA→(Sq U0)→(Sq BA)→Int→Bool→(Sq T2)→Option (Lx U12 Unit)
 | 0,_,_,_,_,_,_,_,_,_,_,_,_,_,_,_,_,_=>none
 | m+1,n0,i,p1,p2,p3,p4,p5,p6,p7,p8,p9,p10,p11,p12,p13,p14,p15=>sf n n0 i p1 p2 p3 p4 p5 p6 p7 p8 p9 p10 p11 p12 p13 p14 p15 (Tb n m) (fun a=>some (.out a)) (fun a=>some (.ret a)) (fun p=>some (.pan p))
theorem HZ (n m:Nat) {S:Type}:∀ n0 i p1 p2 p3 p4 p5 p6 p7 p8 p9 p10 p11 p12 p13 p14 p15 (φ:_→Option S),(Tb n (m+1) n0 i p1 p2 p3 p4 p5 p6 p7 p8 p9 p10 p11 p12 p13 p14 p15).bind φ=sf n n0 i p1 p2 p3 p4 p5 p6 p7 p8 p9 p10 p11 p12 p13 p14 p15 (fun n0 i p1 p2 p3 p4 p5 p6 p7 p8 p9 p10 p11 p12 p13 p14 p15=>(Tb n m n0 i p1 p2 p3 p4 p5 p6 p7 p8 p9 p10 p11 p12 p13 p14 p15).bind φ) (fun a=>φ (.out a)) (fun a=>φ (.ret a)) (fun p=>φ (.pan p)):=by
  intros;first | (simp only [Tb,sf,ia,ba,iB,bB,oL,oX,nB,Option.bind_some]) | rfl
def xu:List Sl:=.top::.ptr 0 0 0::.top::.dat (.int .i64)::.dat (.int .i64)::tp 62 []
def wu:List RS:=[.box 32 15 true [.dat (.int .i64),.dat (.int .i64),.dat (.int .i64),.dat .str,.dat .bool,.dat (.int .i64),.dat .str,.dat .bool,.dat .str,.dat .str,.dat (.sl (.pair .str (.pair .str .unit))),.dat (.sl .str),.dat (.int .i64),.dat .bool,.dat (.sl K3)]]
def rL:List Sl:=.top::.ptr 0 0 0::.top::.dat (.int .i64)::tp 63 []
def qL:List RS:=[.box 32 15 true [.dat (.int .i64),.dat (.int .i64),.dat (.int .i64),.dat .str,.dat .bool,.dat (.int .i64),.dat .str,.dat .bool,.dat .str,.dat .str,.dat (.sl (.pair .str (.pair .str .unit))),.dat (.sl .str),.dat (.int .i64),.dat .bool,.dat (.sl K3)]]
def tf (K:XE→List AV→oa→Option Out):Lx U12 Unit→Option Out:=fun x=>onL x (fun a=>Zb rL qL (a.1,()) ((a.2.1,(a.2.2.1,(a.2.2.2.1,(a.2.2.2.2.1,(a.2.2.2.2.2.1,(a.2.2.2.2.2.2.1,(a.2.2.2.2.2.2.2.1,(a.2.2.2.2.2.2.2.2.1,(a.2.2.2.2.2.2.2.2.2.1,(a.2.2.2.2.2.2.2.2.2.2.1,(a.2.2.2.2.2.2.2.2.2.2.2.1,(a.2.2.2.2.2.2.2.2.2.2.2.2.1,(a.2.2.2.2.2.2.2.2.2.2.2.2.2.1,(a.2.2.2.2.2.2.2.2.2.2.2.2.2.2.1,(a.2.2.2.2.2.2.2.2.2.2.2.2.2.2.2,()))))))))))))))),()) (K (.exit 0))) (fun _=>none) (fun _=>none)
def UC (n:Nat) {R:Type} (p:U4) (k:Bool→Option R):Option R:=(le n p.1).bind fun v=>(Tb n n v (0:Int) p.1.1 p.1.2.1 p.1.2.2.1 p.1.2.2.2.1.1 p.1.2.2.2.1.2.1 p.1.2.2.2.2.1 p.1.2.2.2.2.2.1 p.1.2.2.2.2.2.2.1 p.1.2.2.2.2.2.2.2.1.1 p.1.2.2.2.2.2.2.2.1.2.1 p.1.2.2.2.2.2.2.2.2.1 p.1.2.2.2.2.2.2.2.2.2.1 p.1.2.2.2.2.2.2.2.2.2.2.1 p.1.2.2.2.2.2.2.2.2.2.2.2.1 p.2.1).bind fun x_1=>onL x_1 (fun a_2=>if (decide (a_2.1>(20000:Int)))=false then k (decide ((a_2.2.2.2.2.2.2.2.2.2.2.2.2.2.2.2.n:Int)>(100:Int))) else k true) (fun _=>none) (fun _=>none)
def Bo (n:Nat) (p:U4):Option Bool:=UC n p some
theorem pdb (n:Nat) {S:Type}:∀ p (φ:_→Option S),(Bo n p).bind φ=UC n p φ:=by
  intros;unfold Bo UC;first | (simp only [ia,ba,iB,bB,oL,oX,nB,Option.bind_some]) | rfl
def Eo (n:Nat):Hint Out:={ live:=fun c=>(cond (Nat.beq c 0) (lv [1,3,4]) []),run:=fun c=>(cond (Nat.beq c 0) (some (Qf xu wu fun σ ρ K=>(Tb n n σ.1 σ.2.1 ρ.1.1 ρ.1.2.1 ρ.1.2.2.1 ρ.1.2.2.2.1 ρ.1.2.2.2.2.1 ρ.1.2.2.2.2.2.1 ρ.1.2.2.2.2.2.2.1 ρ.1.2.2.2.2.2.2.2.1 ρ.1.2.2.2.2.2.2.2.2.1 ρ.1.2.2.2.2.2.2.2.2.2.1 ρ.1.2.2.2.2.2.2.2.2.2.2.1 ρ.1.2.2.2.2.2.2.2.2.2.2.2.1 ρ.1.2.2.2.2.2.2.2.2.2.2.2.2.1 ρ.1.2.2.2.2.2.2.2.2.2.2.2.2.2.1 ρ.1.2.2.2.2.2.2.2.2.2.2.2.2.2.2.1).bind (tf K))) none),xm:=fun c q=>(cond (Nat.beq c 0&&Nat.beq (q.getD 1000000) 0&&q.isSome) (some [(1,none),(3,none)]) none) }
def Co (n:Nat) (K:XE→List AV→oa→Option Out) (m:Nat) (n0:Int) (i:Int) (p1:Int) (p2:Int) (p3:Int) (p4:BA) (p5:Bool) (p6:Int) (p7:BA) (p8:Bool) (p9:BA) (p10:BA) (p11:(Sq U0)) (p12:(Sq BA)) (p13:Int) (p14:Bool) (p15:(Sq T2)):Option Out:=Dc tys (ja Out (Ed n)) (Eo n) n (ta [1,1,0,1,0,0] (fa Tryz.f15)) 0 xu wu K m (n0,(i,())) ((p1,(p2,(p3,(p4,(p5,(p6,(p7,(p8,(p9,(p10,(p11,(p12,(p13,(p14,(p15,()))))))))))))))),())
theorem pL (n:Nat) (K:XE→List AV→oa→Option Out):∀ (m:Nat) n0 i p1 p2 p3 p4 p5 p6 p7 p8 p9 p10 p11 p12 p13 p14 p15,Co n K m n0 i p1 p2 p3 p4 p5 p6 p7 p8 p9 p10 p11 p12 p13 p14 p15=(Tb n m n0 i p1 p2 p3 p4 p5 p6 p7 p8 p9 p10 p11 p12 p13 p14 p15).bind (tf K)
  | 0,_,_,_,_,_,_,_,_,_,_,_,_,_,_,_,_,_=>by kernel_rfl
  | m+1,n0,i,p1,p2,p3,p4,p5,p6,p7,p8,p9,p10,p11,p12,p13,p14,p15=>by
    have h1:Co n K (m+1) n0 i p1 p2 p3 p4 p5 p6 p7 p8 p9 p10 p11 p12 p13 p14 p15=sf n n0 i p1 p2 p3 p4 p5 p6 p7 p8 p9 p10 p11 p12 p13 p14 p15 (Co n K m) (fun a=>tf K (.out a)) (fun a=>tf K (.ret a)) (fun p=>tf K (.pan p)):=by kernel_rfl
    have h2:Co n K m=fun n0 i p1 p2 p3 p4 p5 p6 p7 p8 p9 p10 p11 p12 p13 p14 p15=>(Tb n m n0 i p1 p2 p3 p4 p5 p6 p7 p8 p9 p10 p11 p12 p13 p14 p15).bind (tf K):=by
      repeat (refine funext fun _=>?_)
      exact pL n K m _ _ _ _ _ _ _ _ _ _ _ _ _ _ _ _ _
    rw [h1,h2];exact (HZ n m _ _ _ _ _ _ _ _ _ _ _ _ _ _ _ _ _ (tf K)).symm
theorem eW (n:Nat):ec tys (ja Out (Ed n)) (Eo n) n (ta [1,1,0,1,0,0] (fa Tryz.f15)) 0:=Ba (sp:=xu) (rp:=wu) (by kernel_rfl) fun K σ ρ=>pL n K n σ.1 σ.2.1 ρ.1.1 ρ.1.2.1 ρ.1.2.2.1 ρ.1.2.2.2.1 ρ.1.2.2.2.2.1 ρ.1.2.2.2.2.2.1 ρ.1.2.2.2.2.2.2.1 ρ.1.2.2.2.2.2.2.2.1 ρ.1.2.2.2.2.2.2.2.2.1 ρ.1.2.2.2.2.2.2.2.2.2.1 ρ.1.2.2.2.2.2.2.2.2.2.2.1 ρ.1.2.2.2.2.2.2.2.2.2.2.2.1 ρ.1.2.2.2.2.2.2.2.2.2.2.2.2.1 ρ.1.2.2.2.2.2.2.2.2.2.2.2.2.2.1 ρ.1.2.2.2.2.2.2.2.2.2.2.2.2.2.2.1
theorem IZ (n:Nat):qa tys (ja Out (Ed n)) (Eo n) n (fa Tryz.f15) 0:=⟨aa,⟨aa,⟨⟨aa,⟨eW n,⟨⟨aa,⟨aa,aa⟩⟩,⟨aa,aa⟩⟩⟩⟩,⟨aa,aa⟩⟩⟩⟩
theorem A6 (n:Nat):Enters Tryz.prog 15:=enters_of (c:=fa Tryz.f15) Tryz.func15 (by kernel_rfl) (by kernel_rfl)
def gU (n:Nat):Entry:=⟨15,pcT K5 (.one .bool) (fun xs=>Bo n xs.1),none,none⟩
theorem V9 (n:Nat):EntryOk Tryz.prog gl (gU n):=ya (A6 n) fun xs y h=>ma tys_ok (Zl n) mixed (hint:=Eo n) (n:=n) Tryz.func15 (za (IZ n)) (la (φ:=(fun y=>some (Out.ret (ib (.one .bool) y)))) (by kernel_rfl) (pdb n xs.1 _) h)
def LH (n:Nat):List Entry:=gU n::Ed n
theorem eF (n:Nat):AllOk Tryz.prog gl (LH n):=.cons (V9 n) (Zl n)
def xQ (n:Nat) {R:Type} (n0 most:Int) (k:Bool→Option R):Option R:=if (decide (n0≥(0:Int)))=true then k (decide (n0≤most)) else k false
def dJ (n:Nat) (n0 most:Int):Option Bool:=xQ n n0 most some
theorem dhb (n:Nat) {S:Type}:∀ n0 most (φ:_→Option S),(dJ n n0 most).bind φ=xQ n n0 most φ:=by
  intros;unfold dJ xQ;first | (simp only [ia,ba,iB,bB,oL,oX,nB,Option.bind_some]) | rfl
def nS (n:Nat):Hint Out:={ live:=fun c=>[],run:=fun c=>none,xm:=fun c q=>none }
theorem D8 (n:Nat):qa tys (ja Out (LH n)) (nS n) n (fa Tryz.f29) 0:=na (fun _=>rfl) _ _ (by kernel_rfl)
theorem tcb (n:Nat):Enters Tryz.prog 29:=enters_of (c:=fa Tryz.f29) Tryz.func29 (by kernel_rfl) (by kernel_rfl)
def Y3 (n:Nat):Entry:=⟨29,pcT (.pair (.int .i64) (.pair (.int .i64) .unit)) (.one .bool) (fun xs=>dJ n xs.1 xs.2.1),none,none⟩
theorem cfb (n:Nat):EntryOk Tryz.prog gl (Y3 n):=ya (tcb n) fun xs y h=>ma tys_ok (eF n) mixed (hint:=nS n) (n:=n) Tryz.func29 (za (D8 n)) (la (φ:=(fun y=>some (Out.ret (ib (.one .bool) y)))) (by kernel_rfl) (dhb n xs.1 xs.2.1 _) h)
def mS (n:Nat):List Entry:=Y3 n::LH n
theorem iO (n:Nat):AllOk Tryz.prog gl (mS n):=.cons (cfb n) (eF n)
def yJ (n:Nat) {R:Type} (s:BA) (k:Bool→Option R):Option R:=if (decide ((s.size:Int)≥(2:Int)))=true then if 0≤(IntKind.wrap .i64 ((s.size:Int) - (2:Int)))∧(IntKind.wrap .i64 ((s.size:Int) - (2:Int)))<(s.size:Int) then if ((bt s (IntKind.wrap .i64 ((s.size:Int) - (2:Int))))==(13:Int))=true then if 0≤(IntKind.wrap .i64 ((s.size:Int) - (1:Int)))∧(IntKind.wrap .i64 ((s.size:Int) - (1:Int)))<(s.size:Int) then k ((bt s (IntKind.wrap .i64 ((s.size:Int) - (1:Int))))==(10:Int)) else none else k false else none else k false
def nM (n:Nat) (s:BA):Option Bool:=yJ n s some
theorem efb (n:Nat) {S:Type}:∀ s (φ:_→Option S),(nM n s).bind φ=yJ n s φ:=by
  intros;unfold nM yJ;first | (simp only [ia,ba,iB,bB,oL,oX,nB,Option.bind_some]) | rfl
def lO (n:Nat):Hint Out:={ live:=fun c=>[],run:=fun c=>none,xm:=fun c q=>none }
theorem A4 (n:Nat):qa tys (ja Out (mS n)) (lO n) n (fa Tryz.f58) 0:=na (fun _=>rfl) _ _ (by kernel_rfl)
theorem L8 (n:Nat):Enters Tryz.prog 58:=enters_of (c:=fa Tryz.f58) Tryz.func58 (by kernel_rfl) (by kernel_rfl)
def KW (n:Nat):Entry:=⟨58,pcT (.pair .str .unit) (.one .bool) (fun xs=>nM n xs.1),none,none⟩
theorem ycb (n:Nat):EntryOk Tryz.prog gl (KW n):=ya (L8 n) fun xs y h=>ma tys_ok (iO n) mixed (hint:=lO n) (n:=n) Tryz.func58 (za (A4 n)) (la (φ:=(fun y=>some (Out.ret (ib (.one .bool) y)))) (by kernel_rfl) (efb n xs.1 _) h)
def pv (n:Nat):List Entry:=KW n::mS n
theorem zJ (n:Nat):AllOk Tryz.prog gl (pv n):=.cons (ycb n) (iO n)
def kg (n:Nat) {R:Type} (i:Int) (f1:BA) (f2:Bool) (kn:Int→BA→Bool→Option R) (ko:(Unit)→Option R) (kr:(Bool)→Option R) (kp:Int→Option R):Option R:=if (decide (i≤(f1.size:Int)))=true then if 0≤i∧i≤(f1.size:Int) then (nM n (f1.extract (Int.toNat (0:Int)) (Int.toNat i))).bind fun v=>if v=true then kr false else kn (IntKind.wrap .i64 (i+(1:Int))) f1 f2 else none else ko ()
def Wb (n:Nat):Nat→Int→BA→Bool→Option (Lx (Unit) (Bool))
 | 0,_,_,_=>none
 | m+1,i,f1,f2=>kg n i f1 f2 (Wb n m) (fun a=>some (.out a)) (fun a=>some (.ret a)) (fun p=>some (.pan p))
theorem sV (n m:Nat) {S:Type}:∀ i f1 f2 (φ:_→Option S),(Wb n (m+1) i f1 f2).bind φ=kg n i f1 f2 (fun i f1 f2=>(Wb n m i f1 f2).bind φ) (fun a=>φ (.out a)) (fun a=>φ (.ret a)) (fun p=>φ (.pan p)):=by
  intros;first | (simp only [Wb,kg,ia,ba,iB,bB,oL,oX,nB,Option.bind_some]) | rfl
def Np:List Sl:=.top::.ptr 0 0 0::.top::.dat (.int .i64)::tp 26 []
def Mp:List RS:=[.box 23 2 true [.dat .str,.dat .bool]]
def MF:List Sl:=tp 30 []
def LF:List RS:=[]
def OF:List Sl:=.top::.top::.dat .bool::tp 27 []
def NF:List RS:=[]
def Ld (K:XE→List AV→oa→Option Out):Lx (Unit) (Bool)→Option Out:=fun x=>onL x (fun a=>Zb MF LF () () (K (.exit 0))) (fun a=>Zb OF NF (a,()) () (K .ret)) (fun _=>none)
def Kw (n:Nat) {R:Type} (f:U10) (k:Bool→Option R):Option R:=if f.2.1=true then if (f.1.toList==(⟨#[]⟩:BA).toList)=false then k (f.1.toList==(⟨#[13]⟩:BA).toList) else k true else if (decide ((f.1.size:Int)>(511:Int)))=true then k false else (Wb n n (2:Int) f.1 f.2.1).bind fun x_1=>onL x_1 (fun a_2=>k true) (fun a_3=>k a_3) (fun _=>none)
def nv (n:Nat) (f:U10):Option Bool:=Kw n f some
theorem I8 (n:Nat) {S:Type}:∀ f (φ:_→Option S),(nv n f).bind φ=Kw n f φ:=by
  intros;unfold nv Kw;first | (simp only [ia,ba,iB,bB,oL,oX,nB,Option.bind_some]) | rfl
def Zk (n:Nat):Hint Out:={ live:=fun c=>(cond (Nat.beq c 0) [(1,none),(3,none)] []),run:=fun c=>(cond (Nat.beq c 0) (some (Qf Np Mp fun σ ρ K=>(Wb n n σ.1 ρ.1.1 ρ.1.2.1).bind (Ld K))) none),xm:=fun c q=>(cond (Nat.beq c 0&&Nat.beq (q.getD 1000000) 0&&q.isSome) (some []) (cond (Nat.beq c 1&&q.isNone) (some [(2,none)]) none)) }
def Yk (n:Nat) (K:XE→List AV→oa→Option Out) (m:Nat) (i:Int) (f1:BA) (f2:Bool):Option Out:=Dc tys (ja Out (pv n)) (Zk n) n (ta [1,1,1,0,1,0,0] (fa Tryz.f30)) 0 Np Mp K m (i,()) ((f1,(f2,())),())
theorem vE (n:Nat) (K:XE→List AV→oa→Option Out):∀ (m:Nat) i f1 f2,Yk n K m i f1 f2=(Wb n m i f1 f2).bind (Ld K)
  | 0,_,_,_=>by kernel_rfl
  | m+1,i,f1,f2=>by
    have h1:Yk n K (m+1) i f1 f2=kg n i f1 f2 (Yk n K m) (fun a=>Ld K (.out a)) (fun a=>Ld K (.ret a)) (fun p=>Ld K (.pan p)):=by kernel_rfl
    have h2:Yk n K m=fun i f1 f2=>(Wb n m i f1 f2).bind (Ld K):=by
      repeat (refine funext fun _=>?_)
      exact vE n K m _ _ _
    rw [h1,h2];exact (sV n m _ _ _ (Ld K)).symm
theorem sS (n:Nat):ec tys (ja Out (pv n)) (Zk n) n (ta [1,1,1,0,1,0,0] (fa Tryz.f30)) 0:=Ba (sp:=Np) (rp:=Mp) (by kernel_rfl) fun K σ ρ=>vE n K n σ.1 ρ.1.1 ρ.1.2.1
theorem tV (n:Nat):qa tys (ja Out (pv n)) (Zk n) n (fa Tryz.f30) 0:=⟨aa,⟨⟨aa,⟨⟨aa,aa⟩,aa⟩⟩,⟨⟨aa,⟨⟨aa,aa⟩,aa⟩⟩,⟨⟨aa,⟨sS n,⟨⟨aa,⟨aa,aa⟩⟩,⟨⟨aa,⟨⟨aa,aa⟩,aa⟩⟩,aa⟩⟩⟩⟩,⟨aa,aa⟩⟩⟩⟩⟩
theorem HY (n:Nat):Enters Tryz.prog 30:=enters_of (c:=fa Tryz.f30) Tryz.func30 (by kernel_rfl) (by kernel_rfl)
def jO (n:Nat):Entry:=⟨30,pcT (.pair (.pair .str (.pair .bool .unit)) .unit) (.one .bool) (fun xs=>nv n xs.1),none,none⟩
theorem u4 (n:Nat):EntryOk Tryz.prog gl (jO n):=ya (HY n) fun xs y h=>ma tys_ok (zJ n) mixed (hint:=Zk n) (n:=n) Tryz.func30 (za (tV n)) (la (φ:=(fun y=>some (Out.ret (ib (.one .bool) y)))) (by kernel_rfl) (I8 n xs.1 _) h)
def Ol (n:Nat):List Entry:=jO n::pv n
theorem jA (n:Nat):AllOk Tryz.prog gl (Ol n):=.cons (u4 n) (zJ n)
def Yj (n:Nat) {R:Type} (s1:BA) (by01 from0 i:Int) (l:(Sq BA)) (kn:BA→Int→Int→Int→(Sq BA)→Option R) (ko:((Sq BA))→Option R) (kr:Unit→Option R) (kp:Int→Option R):Option R:=if (decide (i≤(s1.size:Int)))=true then if (i==(s1.size:Int))=false then if 0≤i∧i<(s1.size:Int) then if ((bt s1 i)==by01)=true then if 0≤i∧i≤(s1.size:Int) then if 0≤from0∧from0≤i then if Gb (l.n+1) 16=true then kn s1 by01 (IntKind.wrap .i64 (i+(1:Int))) (IntKind.wrap .i64 (i+(1:Int))) (⟨(l.n+1),fun q=>if q<l.n then l.at' q else (fun q=>List.getD (α:=BA) [(s1.extract (Int.toNat from0) (Int.toNat i))] q (ua .str)) (q - l.n)⟩:Sq BA) else none else none else none else kn s1 by01 from0 (IntKind.wrap .i64 (i+(1:Int))) l else none else if 0≤i∧i≤(s1.size:Int) then if 0≤from0∧from0≤i then if Gb (l.n+1) 16=true then kn s1 by01 (IntKind.wrap .i64 (i+(1:Int))) (IntKind.wrap .i64 (i+(1:Int))) (⟨(l.n+1),fun q=>if q<l.n then l.at' q else (fun q=>List.getD (α:=BA) [(s1.extract (Int.toNat from0) (Int.toNat i))] q (ua .str)) (q - l.n)⟩:Sq BA) else none else none else none else ko l
def jd (n:Nat):Nat→BA→Int→Int→Int→(Sq BA)→Option (Lx ((Sq BA)) Unit)
 | 0,_,_,_,_,_=>none
 | m+1,s1,by01,from0,i,l=>Yj n s1 by01 from0 i l (jd n m) (fun a=>some (.out a)) (fun a=>some (.ret a)) (fun p=>some (.pan p))
theorem BY (n m:Nat) {S:Type}:∀ s1 by01 from0 i l (φ:_→Option S),(jd n (m+1) s1 by01 from0 i l).bind φ=Yj n s1 by01 from0 i l (fun s1 by01 from0 i l=>(jd n m s1 by01 from0 i l).bind φ) (fun a=>φ (.out a)) (fun a=>φ (.ret a)) (fun p=>φ (.pan p)):=by
  intros;first | (simp only [jd,Yj,ia,ba,iB,bB,oL,oX,nB,Option.bind_some]) | rfl
def vt:List Sl:=.dat .str::.dat (.int .u8)::.top::.top::.top::.row 0::.dat (.int .i64)::.dat (.int .i64)::tp 27 []
def ut:List RS:=[.row 9 1 .str true false]
def mJ:List Sl:=tp 5 (.row 0::tp 29 [])
def lJ:List RS:=[.row 9 1 .str true false]
def Te (K:XE→List AV→oa→Option Out):Lx ((Sq BA)) Unit→Option Out:=fun x=>onL x (fun a=>Zb mJ lJ () (a,()) (K (.exit 0))) (fun _=>none) (fun _=>none)
def pC (n:Nat) {R:Type} (s:BA) (by0:Int) (k:(Sq BA)→Option R):Option R:=(jd n n s by0 (0:Int) (0:Int) (⟨0,fun _=>ua .str⟩:Sq BA)).bind fun x_1=>onL x_1 (fun a_2=>k a_2) (fun _=>none) (fun _=>none)
def Pn (n:Nat) (s:BA) (by0:Int):Option (Sq BA):=pC n s by0 some
theorem vcb (n:Nat) {S:Type}:∀ s by0 (φ:_→Option S),(Pn n s by0).bind φ=pC n s by0 φ:=by
  intros;unfold Pn pC;first | (simp only [ia,ba,iB,bB,oL,oX,nB,Option.bind_some]) | rfl
def Rn (n:Nat):Hint Out:={ live:=fun c=>(cond (Nat.beq c 0) [(0,none),(1,none),(5,some (.sl .str)),(6,none),(7,none)] []),run:=fun c=>(cond (Nat.beq c 0) (some (Qf vt ut fun σ ρ K=>(jd n n σ.1 σ.2.1 σ.2.2.1 σ.2.2.2.1 ρ.1).bind (Te K))) none),xm:=fun c q=>(cond (Nat.beq c 0&&Nat.beq (q.getD 1000000) 0&&q.isSome) (some [(5,some (.sl .str))]) none) }
def Qn (n:Nat) (K:XE→List AV→oa→Option Out) (m:Nat) (s1:BA) (by01:Int) (from0:Int) (i:Int) (l:(Sq BA)):Option Out:=Dc tys (ja Out (Ol n)) (Rn n) n (ta [1,1,1,0,1,0,0] (fa Tryz.f60)) 0 vt ut K m (s1,(by01,(from0,(i,())))) (l,())
theorem kJ (n:Nat) (K:XE→List AV→oa→Option Out):∀ (m:Nat) s1 by01 from0 i l,Qn n K m s1 by01 from0 i l=(jd n m s1 by01 from0 i l).bind (Te K)
  | 0,_,_,_,_,_=>by kernel_rfl
  | m+1,s1,by01,from0,i,l=>by
    have h1:Qn n K (m+1) s1 by01 from0 i l=Yj n s1 by01 from0 i l (Qn n K m) (fun a=>Te K (.out a)) (fun a=>Te K (.ret a)) (fun p=>Te K (.pan p)):=by kernel_rfl
    have h2:Qn n K m=fun s1 by01 from0 i l=>(jd n m s1 by01 from0 i l).bind (Te K):=by
      repeat (refine funext fun _=>?_)
      exact kJ n K m _ _ _ _ _
    rw [h1,h2];exact (BY n m _ _ _ _ _ (Te K)).symm
theorem pV (n:Nat):ec tys (ja Out (Ol n)) (Rn n) n (ta [1,1,1,0,1,0,0] (fa Tryz.f60)) 0:=Ba (sp:=vt) (rp:=ut) (by kernel_rfl) fun K σ ρ=>kJ n K n σ.1 σ.2.1 σ.2.2.1 σ.2.2.2.1 ρ.1
theorem CY (n:Nat):qa tys (ja Out (Ol n)) (Rn n) n (fa Tryz.f60) 0:=⟨aa,⟨aa,⟨aa,⟨⟨aa,⟨pV n,⟨⟨aa,⟨aa,aa⟩⟩,⟨⟨aa,⟨⟨aa,aa⟩,aa⟩⟩,aa⟩⟩⟩⟩,⟨aa,aa⟩⟩⟩⟩⟩
theorem m4 (n:Nat):Enters Tryz.prog 60:=enters_of (c:=fa Tryz.f60) Tryz.func60 (by kernel_rfl) (by kernel_rfl)
def pS (n:Nat):Entry:=⟨60,pcT (.pair .str (.pair (.int .u8) .unit)) (.one (.sl .str)) (fun xs=>Pn n xs.1 xs.2.1),none,none⟩
theorem F8 (n:Nat):EntryOk Tryz.prog gl (pS n):=ya (m4 n) fun xs y h=>ma tys_ok (jA n) mixed (hint:=Rn n) (n:=n) Tryz.func60 (za (CY n)) (la (φ:=(fun y=>some (Out.ret (ib (.one (.sl .str)) y)))) (by kernel_rfl) (vcb n xs.1 xs.2.1 _) h)
def Kp (n:Nat):List Entry:=pS n::Ol n
theorem rE (n:Nat):AllOk Tryz.prog gl (Kp n):=.cons (F8 n) (jA n)
def jg (n:Nat) {R:Type} (s1:BA) (n0 i:Int) (kn:BA→Int→Int→Option R) (ko:(Int)→Option R) (kr:(Int×Bool)→Option R) (kp:Int→Option R):Option R:=if (decide (i<(s1.size:Int)))=true then if 0≤i∧i<(s1.size:Int) then if (decide ((bt s1 i)<(48:Int)))=false then if 0≤i∧i<(s1.size:Int) then if (decide ((bt s1 i)>(57:Int)))=true then kr ((0:Int),false) else if 0≤i∧i<(s1.size:Int) then kn s1 (IntKind.wrap .i64 ((IntKind.wrap .i64 ((10:Int)*n0))+(IntKind.wrap .i64 (IntKind.wrap .u8 ((bt s1 i) - (48:Int)))))) (IntKind.wrap .i64 (i+(1:Int))) else none else none else kr ((0:Int),false) else none else ko n0
def Ob (n:Nat):Nat→BA→Int→Int→Option (Lx (Int) (Int×Bool))
 | 0,_,_,_=>none
 | m+1,s1,n0,i=>jg n s1 n0 i (Ob n m) (fun a=>some (.out a)) (fun a=>some (.ret a)) (fun p=>some (.pan p))
theorem DY (n m:Nat) {S:Type}:∀ s1 n0 i (φ:_→Option S),(Ob n (m+1) s1 n0 i).bind φ=jg n s1 n0 i (fun s1 n0 i=>(Ob n m s1 n0 i).bind φ) (fun a=>φ (.out a)) (fun a=>φ (.ret a)) (fun p=>φ (.pan p)):=by
  intros;first | (simp only [Ob,jg,ia,ba,iB,bB,oL,oX,nB,Option.bind_some]) | rfl
def zt:List Sl:=.dat .str::.top::.top::.top::.dat (.int .i64)::.dat (.int .i64)::tp 42 []
def wt:List RS:=[]
def pJ:List Sl:=tp 4 (.dat (.int .i64)::tp 43 [])
def oJ:List RS:=[]
def rJ:List Sl:=.top::.top::.dat (.int .i64)::.dat .bool::tp 44 []
def qJ:List RS:=[]
def Ue (K:XE→List AV→oa→Option Out):Lx (Int) (Int×Bool)→Option Out:=fun x=>onL x (fun a=>Zb pJ oJ (a,()) () (K (.exit 0))) (fun a=>Zb rJ qJ (a.1,(a.2,())) () (K .ret)) (fun _=>none)
def rC (n:Nat) {R:Type} (s:BA) (k:(Int×Bool×Unit)→Option R):Option R:=if (s.toList==(⟨#[]⟩:BA).toList)=false then if (decide ((s.size:Int)>(16:Int)))=false then if (decide ((s.size:Int)>(1:Int)))=true then if 0≤(0:Int)∧(0:Int)<(s.size:Int) then if ((bt s (0:Int))==(48:Int))=true then k ((0:Int),(false,())) else (Ob n n s (0:Int) (0:Int)).bind fun x_1=>onL x_1 (fun a_2=>k (a_2,(true,()))) (fun a_3=>k (a_3.1,(a_3.2,()))) (fun _=>none) else none else (Ob n n s (0:Int) (0:Int)).bind fun x_4=>onL x_4 (fun a_5=>k (a_5,(true,()))) (fun a_6=>k (a_6.1,(a_6.2,()))) (fun _=>none) else k ((0:Int),(false,())) else k ((0:Int),(false,()))
def qC (n:Nat) (s:BA):Option (Int×Bool×Unit):=rC n s some
theorem wcb (n:Nat) {S:Type}:∀ s (φ:_→Option S),(qC n s).bind φ=rC n s φ:=by
  intros;unfold qC rC;first | (simp only [ia,ba,iB,bB,oL,oX,nB,Option.bind_some]) | rfl
def Tn (n:Nat):Hint Out:={ live:=fun c=>(cond (Nat.beq c 0) (lv [0,4,5]) []),run:=fun c=>(cond (Nat.beq c 0) (some (Qf zt wt fun σ ρ K=>(Ob n n σ.1 σ.2.1 σ.2.2.1).bind (Ue K))) none),xm:=fun c q=>(cond (Nat.beq c 0&&Nat.beq (q.getD 1000000) 0&&q.isSome) (some [(4,none)]) (cond (Nat.beq c 1&&q.isNone) (some [(2,none),(3,none)]) none)) }
def Sn (n:Nat) (K:XE→List AV→oa→Option Out) (m:Nat) (s1:BA) (n0:Int) (i:Int):Option Out:=Dc tys (ja Out (Kp n)) (Tn n) n (ta [1,1,1,0,1,0,0] (fa Tryz.f85)) 0 zt wt K m (s1,(n0,(i,()))) ()
theorem nJ (n:Nat) (K:XE→List AV→oa→Option Out):∀ (m:Nat) s1 n0 i,Sn n K m s1 n0 i=(Ob n m s1 n0 i).bind (Ue K)
  | 0,_,_,_=>by kernel_rfl
  | m+1,s1,n0,i=>by
    have h1:Sn n K (m+1) s1 n0 i=jg n s1 n0 i (Sn n K m) (fun a=>Ue K (.out a)) (fun a=>Ue K (.ret a)) (fun p=>Ue K (.pan p)):=by kernel_rfl
    have h2:Sn n K m=fun s1 n0 i=>(Ob n m s1 n0 i).bind (Ue K):=by
      repeat (refine funext fun _=>?_)
      exact nJ n K m _ _ _
    rw [h1,h2];exact (DY n m _ _ _ (Ue K)).symm
theorem qV (n:Nat):ec tys (ja Out (Kp n)) (Tn n) n (ta [1,1,1,0,1,0,0] (fa Tryz.f85)) 0:=Ba (sp:=zt) (rp:=wt) (by kernel_rfl) fun K σ ρ=>nJ n K n σ.1 σ.2.1 σ.2.2.1
theorem EY (n:Nat):qa tys (ja Out (Kp n)) (Tn n) n (fa Tryz.f85) 0:=⟨aa,⟨⟨aa,⟨⟨aa,aa⟩,aa⟩⟩,⟨aa,⟨⟨aa,⟨qV n,⟨⟨aa,⟨aa,aa⟩⟩,⟨⟨⟨aa,⟨⟨aa,aa⟩,aa⟩⟩,aa⟩,aa⟩⟩⟩⟩,⟨aa,aa⟩⟩⟩⟩⟩
theorem o4 (n:Nat):Enters Tryz.prog 85:=enters_of (c:=fa Tryz.f85) Tryz.func85 (by kernel_rfl) (by kernel_rfl)
def qS (n:Nat):Entry:=⟨85,pcT (.pair .str .unit) (.many (.pair (.int .i64) (.pair .bool .unit))) (fun xs=>qC n xs.1),none,none⟩
theorem G8 (n:Nat):EntryOk Tryz.prog gl (qS n):=ya (o4 n) fun xs y h=>ma tys_ok (rE n) mixed (hint:=Tn n) (n:=n) Tryz.func85 (za (EY n)) (la (φ:=(fun y=>some (Out.ret (ib (.many (.pair (.int .i64) (.pair .bool .unit))) y)))) (by kernel_rfl) (wcb n xs.1 _) h)
def Lp (n:Nat):List Entry:=qS n::Kp n
theorem sE (n:Nat):AllOk Tryz.prog gl (Lp n):=.cons (G8 n) (rE n)
def Pg (n:Nat) {R:Type} (l:(Sq BA)) (i:Int) (kn:(Sq BA)→Int→Option R) (ko:((Sq BA))→Option R) (kr:(Bool)→Option R) (kp:Int→Option R):Option R:=if (decide (i<(l.n:Int)))=true then if 0≤i∧i<(l.n:Int) then (qC n (l.at' (Int.toNat i))).bind fun v1=>if (!v1.2.1)=false then if (decide (v1.1>(255:Int)))=true then kr false else kn l (IntKind.wrap .i64 (i+(1:Int))) else kr false else none else ko l
def Pb (n:Nat):Nat→(Sq BA)→Int→Option (Lx ((Sq BA)) (Bool))
 | 0,_,_=>none
 | m+1,l,i=>Pg n l i (Pb n m) (fun a=>some (.out a)) (fun a=>some (.ret a)) (fun p=>some (.pan p))
theorem SS (n m:Nat) {S:Type}:∀ l i (φ:_→Option S),(Pb n (m+1) l i).bind φ=Pg n l i (fun l i=>(Pb n m l i).bind φ) (fun a=>φ (.out a)) (fun a=>φ (.ret a)) (fun p=>φ (.pan p)):=by
  intros;first | (simp only [Pb,Pg,ia,ba,iB,bB,oL,oX,nB,Option.bind_some]) | rfl
def vm:List Sl:=.top::.top::.top::.dat (.sl .str)::.dat (.int .i64)::tp 47 []
def um:List RS:=[]
def rD:List Sl:=.top::.top::.top::.dat (.sl .str)::tp 48 []
def qD:List RS:=[]
def tD:List Sl:=.top::.top::.dat .bool::tp 49 []
def sD:List RS:=[]
def nd (K:XE→List AV→oa→Option Out):Lx ((Sq BA)) (Bool)→Option Out:=fun x=>onL x (fun a=>Zb rD qD (a,()) () (K (.exit 0))) (fun a=>Zb tD sD (a,()) () (K .ret)) (fun _=>none)
def mr (n:Nat) {R:Type} (s:BA) (k:Bool→Option R):Option R:=if (decide ((s.size:Int)<(2:Int)))=false then if 0≤(0:Int)∧(0:Int)<(s.size:Int) then if ((bt s (0:Int)) !=(91:Int))=false then if 0≤(IntKind.wrap .i64 ((s.size:Int) - (1:Int)))∧(IntKind.wrap .i64 ((s.size:Int) - (1:Int)))<(s.size:Int) then if ((bt s (IntKind.wrap .i64 ((s.size:Int) - (1:Int)))) !=(93:Int))=true then k false else if 0≤(IntKind.wrap .i64 ((s.size:Int) - (1:Int)))∧(IntKind.wrap .i64 ((s.size:Int) - (1:Int)))≤(s.size:Int) then if 0≤(1:Int)∧(1:Int)≤(IntKind.wrap .i64 ((s.size:Int) - (1:Int))) then (Pn n (s.extract (Int.toNat (1:Int)) (Int.toNat (IntKind.wrap .i64 ((s.size:Int) - (1:Int))))) (46:Int)).bind fun v=>(Pb n n v (0:Int)).bind fun x_1=>onL x_1 (fun a_2=>k ((a_2.n:Int)==(4:Int))) (fun a_3=>k a_3) (fun _=>none) else none else none else none else k false else none else k false
def Jo (n:Nat) (s:BA):Option Bool:=mr n s some
theorem L4 (n:Nat) {S:Type}:∀ s (φ:_→Option S),(Jo n s).bind φ=mr n s φ:=by
  intros;unfold Jo mr;first | (simp only [ia,ba,iB,bB,oL,oX,nB,Option.bind_some]) | rfl
def aj (n:Nat):Hint Out:={ live:=fun c=>(cond (Nat.beq c 0) [(3,some (.sl .str)),(4,none)] []),run:=fun c=>(cond (Nat.beq c 0) (some (Qf vm um fun σ ρ K=>(Pb n n σ.1 σ.2.1).bind (nd K))) none),xm:=fun c q=>(cond (Nat.beq c 0&&Nat.beq (q.getD 1000000) 0&&q.isSome) (some [(3,some (.sl .str))]) (cond (Nat.beq c 1&&q.isNone) (some [(2,none)]) none)) }
def Zi (n:Nat) (K:XE→List AV→oa→Option Out) (m:Nat) (l:(Sq BA)) (i:Int):Option Out:=Dc tys (ja Out (Lp n)) (aj n) n (ta [1,1,1,0,1,0,0] (fa Tryz.f59)) 0 vm um K m (l,(i,())) ()
theorem KA (n:Nat) (K:XE→List AV→oa→Option Out):∀ (m:Nat) l i,Zi n K m l i=(Pb n m l i).bind (nd K)
  | 0,_,_=>by kernel_rfl
  | m+1,l,i=>by
    have h1:Zi n K (m+1) l i=Pg n l i (Zi n K m) (fun a=>nd K (.out a)) (fun a=>nd K (.ret a)) (fun p=>nd K (.pan p)):=by kernel_rfl
    have h2:Zi n K m=fun l i=>(Pb n m l i).bind (nd K):=by
      repeat (refine funext fun _=>?_)
      exact KA n K m _ _
    rw [h1,h2];exact (SS n m _ _ (nd K)).symm
theorem vP (n:Nat):ec tys (ja Out (Lp n)) (aj n) n (ta [1,1,1,0,1,0,0] (fa Tryz.f59)) 0:=Ba (sp:=vm) (rp:=um) (by kernel_rfl) fun K σ ρ=>KA n K n σ.1 σ.2.1
theorem TS (n:Nat):qa tys (ja Out (Lp n)) (aj n) n (fa Tryz.f59) 0:=⟨aa,⟨⟨aa,⟨⟨aa,aa⟩,aa⟩⟩,⟨aa,⟨⟨aa,⟨vP n,⟨⟨aa,⟨aa,aa⟩⟩,⟨⟨aa,⟨aa,⟨⟨aa,aa⟩,aa⟩⟩⟩,aa⟩⟩⟩⟩,⟨aa,aa⟩⟩⟩⟩⟩
theorem FV (n:Nat):Enters Tryz.prog 59:=enters_of (c:=fa Tryz.f59) Tryz.func59 (by kernel_rfl) (by kernel_rfl)
def EJ (n:Nat):Entry:=⟨59,pcT (.pair .str .unit) (.one .bool) (fun xs=>Jo n xs.1),none,none⟩
theorem RY (n:Nat):EntryOk Tryz.prog gl (EJ n):=ya (FV n) fun xs y h=>ma tys_ok (sE n) mixed (hint:=aj n) (n:=n) Tryz.func59 (za (TS n)) (la (φ:=(fun y=>some (Out.ret (ib (.one .bool) y)))) (by kernel_rfl) (L4 n xs.1 _) h)
def Uw (n:Nat):List Entry:=EJ n::Lp n
theorem Yx (n:Nat):AllOk Tryz.prog gl (Uw n):=.cons (RY n) (sE n)
def EC (n:Nat) {R:Type} (c:Int) (k:Bool→Option R):Option R:=if (decide (c≥(48:Int)))=true then k (decide (c≤(57:Int))) else k false
def eo (n:Nat) (c:Int):Option Bool:=EC n c some
theorem Gcb (n:Nat) {S:Type}:∀ c (φ:_→Option S),(eo n c).bind φ=EC n c φ:=by
  intros;unfold eo EC;first | (simp only [ia,ba,iB,bB,oL,oX,nB,Option.bind_some]) | rfl
def UJ (n:Nat):Hint Out:={ live:=fun c=>[],run:=fun c=>none,xm:=fun c q=>none }
theorem WY (n:Nat):qa tys (ja Out (Uw n)) (UJ n) n (fa Tryz.f61) 0:=na (fun _=>rfl) _ _ (by kernel_rfl)
theorem R4 (n:Nat):Enters Tryz.prog 61:=enters_of (c:=fa Tryz.f61) Tryz.func61 (by kernel_rfl) (by kernel_rfl)
def ZS (n:Nat):Entry:=⟨61,pcT (.pair (.int .u8) .unit) (.one .bool) (fun xs=>eo n xs.1),none,none⟩
theorem Y8 (n:Nat):EntryOk Tryz.prog gl (ZS n):=ya (R4 n) fun xs y h=>ma tys_ok (Yx n) mixed (hint:=UJ n) (n:=n) Tryz.func61 (za (WY n)) (la (φ:=(fun y=>some (Out.ret (ib (.one .bool) y)))) (by kernel_rfl) (Gcb n xs.1 _) h)
def Uh (n:Nat):List Entry:=ZS n::Uw n
theorem OE (n:Nat):AllOk Tryz.prog gl (Uh n):=.cons (Y8 n) (Yx n)
def zi (n:Nat) {R:Type} (l1:(Sq BA)) (i1:Int) (w:BA) (k0:Int) (kn:(Sq BA)→Int→BA→Int→Option R) (ko:((Sq BA)×Int)→Option R) (kr:(Bool)→Option R) (kp:Int→Option R):Option R:=if (decide (k0<(w.size:Int)))=true then if 0≤k0∧k0<(w.size:Int) then if (decide ((bt w k0)≥(97:Int)))=true then if 0≤k0∧k0<(w.size:Int) then if (!(decide ((bt w k0)≤(122:Int))))=true then if 0≤k0∧k0<(w.size:Int) then (eo n (bt w k0)).bind fun v2=>if (!v2)=true then if 0≤k0∧k0<(w.size:Int) then if ((bt w k0) !=(45:Int))=true then kr false else kn l1 i1 w (IntKind.wrap .i64 (k0+(1:Int))) else none else kn l1 i1 w (IntKind.wrap .i64 (k0+(1:Int))) else none else kn l1 i1 w (IntKind.wrap .i64 (k0+(1:Int))) else none else if 0≤k0∧k0<(w.size:Int) then (eo n (bt w k0)).bind fun v3=>if (!v3)=true then if 0≤k0∧k0<(w.size:Int) then if ((bt w k0) !=(45:Int))=true then kr false else kn l1 i1 w (IntKind.wrap .i64 (k0+(1:Int))) else none else kn l1 i1 w (IntKind.wrap .i64 (k0+(1:Int))) else none else none else ko (l1,i1)
def wc (n:Nat):Nat→(Sq BA)→Int→BA→Int→Option (Lx ((Sq BA)×Int) (Bool))
 | 0,_,_,_,_=>none
 | m+1,l1,i1,w,k0=>zi n l1 i1 w k0 (wc n m) (fun a=>some (.out a)) (fun a=>some (.ret a)) (fun p=>some (.pan p))
theorem DV (n m:Nat) {S:Type}:∀ l1 i1 w k0 (φ:_→Option S),(wc n (m+1) l1 i1 w k0).bind φ=zi n l1 i1 w k0 (fun l1 i1 w k0=>(wc n m l1 i1 w k0).bind φ) (fun a=>φ (.out a)) (fun a=>φ (.ret a)) (fun p=>φ (.pan p)):=by
  intros;first | (simp only [wc,zi,ia,ba,iB,bB,oL,oX,nB,Option.bind_some]) | rfl
def Wp:List Sl:=.top::.top::.top::.dat (.sl .str)::.dat (.int .i64)::.dat .str::.dat (.int .i64)::tp 68 []
def Vp:List RS:=[]
def NG:List Sl:=.top::.top::.top::.dat (.sl .str)::.dat (.int .i64)::tp 70 []
def MG:List RS:=[]
def PG:List Sl:=.top::.top::.dat .bool::tp 72 []
def OG:List RS:=[]
def Qd (K:XE→List AV→oa→Option Out):Lx ((Sq BA)×Int) (Bool)→Option Out:=fun x=>onL x (fun a=>Zb NG MG (a.1,(a.2,())) () (K (.exit 2))) (fun a=>Zb PG OG (a,()) () (K .ret)) (fun _=>none)
def yi (n:Nat) {R:Type} (l:(Sq BA)) (i:Int) (kn:(Sq BA)→Int→Option R) (ko:(Unit)→Option R) (kr:(Bool)→Option R) (kp:Int→Option R):Option R:=if (decide (i<(l.n:Int)))=true then if 0≤i∧i<(l.n:Int) then if (decide (((l.at' (Int.toNat i)).size:Int)<(1:Int)))=false then if (decide (((l.at' (Int.toNat i)).size:Int)>(63:Int)))=false then if 0≤(0:Int)∧(0:Int)<((l.at' (Int.toNat i)).size:Int) then if ((bt (l.at' (Int.toNat i)) (0:Int))==(45:Int))=false then if 0≤(IntKind.wrap .i64 (((l.at' (Int.toNat i)).size:Int) - (1:Int)))∧(IntKind.wrap .i64 (((l.at' (Int.toNat i)).size:Int) - (1:Int)))<((l.at' (Int.toNat i)).size:Int) then if ((bt (l.at' (Int.toNat i)) (IntKind.wrap .i64 (((l.at' (Int.toNat i)).size:Int) - (1:Int))))==(45:Int))=true then kr false else (wc n n l i (l.at' (Int.toNat i)) (0:Int)).bind fun x_1=>onL x_1 (fun a_2=>kn a_2.1 (IntKind.wrap .i64 (a_2.2+(1:Int)))) (fun a_3=>kr a_3) (fun _=>none) else none else kr false else none else kr false else kr false else none else ko ()
def vc (n:Nat):Nat→(Sq BA)→Int→Option (Lx (Unit) (Bool))
 | 0,_,_=>none
 | m+1,l,i=>yi n l i (vc n m) (fun a=>some (.out a)) (fun a=>some (.ret a)) (fun p=>some (.pan p))
theorem CV (n m:Nat) {S:Type}:∀ l i (φ:_→Option S),(vc n (m+1) l i).bind φ=yi n l i (fun l i=>(vc n m l i).bind φ) (fun a=>φ (.out a)) (fun a=>φ (.ret a)) (fun p=>φ (.pan p)):=by
  intros;first | (simp only [vc,yi,ia,ba,iB,bB,oL,oX,nB,Option.bind_some]) | rfl
def Up:List Sl:=.top::.top::.top::.dat (.sl .str)::.dat (.int .i64)::tp 70 []
def Tp:List RS:=[]
def JG:List Sl:=tp 75 []
def IG:List RS:=[]
def LG:List Sl:=.top::.top::.dat .bool::tp 72 []
def KG:List RS:=[]
def Pd (K:XE→List AV→oa→Option Out):Lx (Unit) (Bool)→Option Out:=fun x=>onL x (fun a=>Zb JG IG () () (K (.exit 0))) (fun a=>Zb LG KG (a,()) () (K .ret)) (fun _=>none)
def Tw (n:Nat) {R:Type} (s:BA) (k:Bool→Option R):Option R:=if (decide ((s.size:Int)>(255:Int)))=true then k false else (Jo n s).bind fun v=>if v=true then k true else (Pn n s (46:Int)).bind fun v1=>(vc n n v1 (0:Int)).bind fun x_1=>onL x_1 (fun a_2=>k true) (fun a_3=>k a_3) (fun _=>none)
def Yi (n:Nat) (s:BA):Option Bool:=Tw n s some
theorem R8 (n:Nat) {S:Type}:∀ s (φ:_→Option S),(Yi n s).bind φ=Tw n s φ:=by
  intros;unfold Yi Tw;first | (simp only [ia,ba,iB,bB,oL,oX,nB,Option.bind_some]) | rfl
def Df (n:Nat):Hint Out:={ live:=fun c=>(cond (Nat.beq c 0) [(3,some (.sl .str)),(4,none)] (cond (Nat.beq c 2) [(3,some (.sl .str)),(4,none),(5,none),(6,none)] [])),run:=fun c=>(cond (Nat.beq c 0) (some (Qf Up Tp fun σ ρ K=>(vc n n σ.1 σ.2.1).bind (Pd K))) (cond (Nat.beq c 2) (some (Qf Wp Vp fun σ ρ K=>(wc n n σ.1 σ.2.1 σ.2.2.1 σ.2.2.2.1).bind (Qd K))) none)),xm:=fun c q=>(cond (Nat.beq c 0&&Nat.beq (q.getD 1000000) 0&&q.isSome) (some []) (cond (Nat.beq c 2&&Nat.beq (q.getD 1000000) 2&&q.isSome) (some [(3,some (.sl .str)),(4,none)]) (cond (Nat.beq c 3&&q.isNone) (some [(2,none)]) (cond (Nat.beq c 1&&q.isNone) (some [(2,none)]) none)))) }
def yl (n:Nat) (K:XE→List AV→oa→Option Out) (m:Nat) (l1:(Sq BA)) (i1:Int) (w:BA) (k0:Int):Option Out:=Dc tys (ja Out (Uh n)) (Df n) n (ta [1,1,1,1,0,1,0,0,1,0,0,1,1,1,0,0] (fa Tryz.f31)) 2 Wp Vp K m (l1,(i1,(w,(k0,())))) ()
theorem KE (n:Nat) (K:XE→List AV→oa→Option Out):∀ (m:Nat) l1 i1 w k0,yl n K m l1 i1 w k0=(wc n m l1 i1 w k0).bind (Qd K)
  | 0,_,_,_,_=>by kernel_rfl
  | m+1,l1,i1,w,k0=>by
    have h1:yl n K (m+1) l1 i1 w k0=zi n l1 i1 w k0 (yl n K m) (fun a=>Qd K (.out a)) (fun a=>Qd K (.ret a)) (fun p=>Qd K (.pan p)):=by kernel_rfl
    have h2:yl n K m=fun l1 i1 w k0=>(wc n m l1 i1 w k0).bind (Qd K):=by
      repeat (refine funext fun _=>?_)
      exact KE n K m _ _ _ _
    rw [h1,h2];exact (DV n m _ _ _ _ (Qd K)).symm
theorem QS (n:Nat):ec tys (ja Out (Uh n)) (Df n) n (ta [1,1,1,1,0,1,0,0,1,0,0,1,1,1,0,0] (fa Tryz.f31)) 2:=Ba (sp:=Wp) (rp:=Vp) (by kernel_rfl) fun K σ ρ=>KE n K n σ.1 σ.2.1 σ.2.2.1 σ.2.2.2.1
def xl (n:Nat) (K:XE→List AV→oa→Option Out) (m:Nat) (l:(Sq BA)) (i:Int):Option Out:=Dc tys (ja Out (Uh n)) (Df n) n (ta [1,1,1,1,0,1,0,0] (fa Tryz.f31)) 0 Up Tp K m (l,(i,())) ()
theorem JE (n:Nat) (K:XE→List AV→oa→Option Out):∀ (m:Nat) l i,xl n K m l i=(vc n m l i).bind (Pd K)
  | 0,_,_=>by kernel_rfl
  | m+1,l,i=>by
    have h1:xl n K (m+1) l i=yi n l i (xl n K m) (fun a=>Pd K (.out a)) (fun a=>Pd K (.ret a)) (fun p=>Pd K (.pan p)):=by kernel_rfl
    have h2:xl n K m=fun l i=>(vc n m l i).bind (Pd K):=by
      repeat (refine funext fun _=>?_)
      exact JE n K m _ _
    rw [h1,h2];exact (CV n m _ _ (Pd K)).symm
theorem PS (n:Nat):ec tys (ja Out (Uh n)) (Df n) n (ta [1,1,1,1,0,1,0,0] (fa Tryz.f31)) 0:=Ba (sp:=Up) (rp:=Tp) (by kernel_rfl) fun K σ ρ=>JE n K n σ.1 σ.2.1
theorem EV (n:Nat):qa tys (ja Out (Uh n)) (Df n) n (fa Tryz.f31) 0:=⟨aa,⟨⟨aa,⟨⟨aa,aa⟩,aa⟩⟩,⟨⟨aa,⟨⟨aa,aa⟩,aa⟩⟩,⟨aa,⟨⟨aa,⟨PS n,⟨⟨aa,⟨aa,aa⟩⟩,⟨⟨aa,⟨⟨aa,⟨⟨aa,aa⟩,aa⟩⟩,⟨aa,⟨QS n,⟨⟨aa,⟨aa,aa⟩⟩,⟨⟨aa,⟨⟨aa,aa⟩,aa⟩⟩,aa⟩⟩⟩⟩⟩⟩,aa⟩⟩⟩⟩,⟨aa,aa⟩⟩⟩⟩⟩⟩
theorem QY (n:Nat):Enters Tryz.prog 31:=enters_of (c:=fa Tryz.f31) Tryz.func31 (by kernel_rfl) (by kernel_rfl)
def qO (n:Nat):Entry:=⟨31,pcT (.pair .str .unit) (.one .bool) (fun xs=>Yi n xs.1),none,none⟩
theorem J4 (n:Nat):EntryOk Tryz.prog gl (qO n):=ya (QY n) fun xs y h=>ma tys_ok (OE n) mixed (hint:=Df n) (n:=n) Tryz.func31 (za (EV n)) (la (φ:=(fun y=>some (Out.ret (ib (.one .bool) y)))) (by kernel_rfl) (R8 n xs.1 _) h)
def IA (n:Nat):List Entry:=qO n::Uh n
theorem JA (n:Nat):AllOk Tryz.prog gl (IA n):=.cons (J4 n) (OE n)
def AC (n:Nat) {R:Type} (state:Int) (k:Bool→Option R):Option R:=if (state==(2:Int))=false then if (state==(3:Int))=false then k (state==(4:Int)) else k true else k true
def yC (n:Nat) (state:Int):Option Bool:=AC n state some
theorem Bcb (n:Nat) {S:Type}:∀ state (φ:_→Option S),(yC n state).bind φ=AC n state φ:=by
  intros;unfold yC AC;first | (simp only [ia,ba,iB,bB,oL,oX,nB,Option.bind_some]) | rfl
def DJ (n:Nat):Hint Out:={ live:=fun c=>[],run:=fun c=>none,xm:=fun c q=>none }
theorem PY (n:Nat):qa tys (ja Out (IA n)) (DJ n) n (fa Tryz.f32) 0:=na (fun _=>rfl) _ _ (by kernel_rfl)
theorem H4 (n:Nat):Enters Tryz.prog 32:=enters_of (c:=fa Tryz.f32) Tryz.func32 (by kernel_rfl) (by kernel_rfl)
def NS (n:Nat):Entry:=⟨32,pcT (.pair (.int .i64) .unit) (.one .bool) (fun xs=>yC n xs.1),none,none⟩
theorem Q8 (n:Nat):EntryOk Tryz.prog gl (NS n):=ya (H4 n) fun xs y h=>ma tys_ok (JA n) mixed (hint:=DJ n) (n:=n) Tryz.func32 (za (PY n)) (la (φ:=(fun y=>some (Out.ret (ib (.one .bool) y)))) (by kernel_rfl) (Bcb n xs.1 _) h)
def HG (n:Nat):List Entry:=NS n::IA n
theorem IE (n:Nat):AllOk Tryz.prog gl (HG n):=.cons (Q8 n) (JA n)
def Ww (n:Nat) {R:Type} (c:Int) (k:Bool→Option R):Option R:=if (decide (c≥(97:Int)))=true then if (decide (c≤(122:Int)))=false then if (decide (c≥(65:Int)))=true then k (decide (c≤(90:Int))) else k false else k true else if (decide (c≥(65:Int)))=true then k (decide (c≤(90:Int))) else k false
def Ev (n:Nat) (c:Int):Option Bool:=Ww n c some
theorem b9 (n:Nat) {S:Type}:∀ c (φ:_→Option S),(Ev n c).bind φ=Ww n c φ:=by
  intros;unfold Ev Ww;first | (simp only [ia,ba,iB,bB,oL,oX,nB,Option.bind_some]) | rfl
def QE (n:Nat):Hint Out:={ live:=fun c=>[],run:=fun c=>none,xm:=fun c q=>none }
theorem KV (n:Nat):qa tys (ja Out (HG n)) (QE n) n (fa Tryz.f115) 0:=na (fun _=>rfl) _ _ (by kernel_rfl)
theorem ZY (n:Nat):Enters Tryz.prog 115:=enters_of (c:=fa Tryz.f115) Tryz.func115 (by kernel_rfl) (by kernel_rfl)
def uO (n:Nat):Entry:=⟨115,pcT (.pair (.int .u8) .unit) (.one .bool) (fun xs=>Ev n xs.1),none,none⟩
theorem T4 (n:Nat):EntryOk Tryz.prog gl (uO n):=ya (ZY n) fun xs y h=>ma tys_ok (IE n) mixed (hint:=QE n) (n:=n) Tryz.func115 (za (KV n)) (la (φ:=(fun y=>some (Out.ret (ib (.one .bool) y)))) (by kernel_rfl) (b9 n xs.1 _) h)
def Tl (n:Nat):List Entry:=uO n::HG n
theorem PA (n:Nat):AllOk Tryz.prog gl (Tl n):=.cons (T4 n) (IE n)
def Ko (n:Nat) {R:Type} (c1:Int) (s:BA) (i:Int) (kn:Int→BA→Int→Option R) (ko:(Unit)→Option R) (kr:(Bool)→Option R) (kp:Int→Option R):Option R:=if (decide (i<(s.size:Int)))=true then if 0≤i∧i<(s.size:Int) then if ((bt s i)==c1)=true then kr true else kn c1 s (IntKind.wrap .i64 (i+(1:Int))) else none else ko ()
def ge (n:Nat):Nat→Int→BA→Int→Option (Lx (Unit) (Bool))
 | 0,_,_,_=>none
 | m+1,c1,s,i=>Ko n c1 s i (ge n m) (fun a=>some (.out a)) (fun a=>some (.ret a)) (fun p=>some (.pan p))
theorem Z4 (n m:Nat) {S:Type}:∀ c1 s i (φ:_→Option S),(ge n (m+1) c1 s i).bind φ=Ko n c1 s i (fun c1 s i=>(ge n m c1 s i).bind φ) (fun a=>φ (.out a)) (fun a=>φ (.ret a)) (fun p=>φ (.pan p)):=by
  intros;first | (simp only [ge,Ko,ia,ba,iB,bB,oL,oX,nB,Option.bind_some]) | rfl
def cx:List Sl:=.dat (.int .u8)::.top::.top::.dat .str::.dat (.int .i64)::tp 11 []
def Zw:List RS:=[]
def yM:List Sl:=tp 16 []
def xM:List RS:=[]
def BM:List Sl:=.top::.top::.dat .bool::tp 13 []
def zM:List RS:=[]
def qg (K:XE→List AV→oa→Option Out):Lx (Unit) (Bool)→Option Out:=fun x=>onL x (fun a=>Zb yM xM () () (K (.exit 0))) (fun a=>Zb BM zM (a,()) () (K .ret)) (fun _=>none)
def pK (n:Nat) {R:Type} (c:Int) (k:Bool→Option R):Option R:=(ge n n c (⟨#[33,35,36,37,38,39,42,43,45,47,61,63,94,95,96,123,124,125,126]⟩:BA) (0:Int)).bind fun x_1=>onL x_1 (fun a_2=>k false) (fun a_3=>k a_3) (fun _=>none)
def wM (n:Nat) (c:Int):Option Bool:=pK n c some
theorem lfb (n:Nat) {S:Type}:∀ c (φ:_→Option S),(wM n c).bind φ=pK n c φ:=by
  intros;unfold wM pK;first | (simp only [ia,ba,iB,bB,oL,oX,nB,Option.bind_some]) | rfl
def Mr (n:Nat):Hint Out:={ live:=fun c=>(cond (Nat.beq c 0) (lv [0,3,4]) []),run:=fun c=>(cond (Nat.beq c 0) (some (Qf cx Zw fun σ ρ K=>(ge n n σ.1 σ.2.1 σ.2.2.1).bind (qg K))) none),xm:=fun c q=>(cond (Nat.beq c 0&&Nat.beq (q.getD 1000000) 0&&q.isSome) (some []) (cond (Nat.beq c 1&&q.isNone) (some [(2,none)]) none)) }
def Lr (n:Nat) (K:XE→List AV→oa→Option Out) (m:Nat) (c1:Int) (s:BA) (i:Int):Option Out:=Dc tys (ja Out (Tl n)) (Mr n) n (ta [1,1,0,1,0,0] (fa Tryz.f116)) 0 cx Zw K m (c1,(s,(i,()))) ()
theorem wO (n:Nat) (K:XE→List AV→oa→Option Out):∀ (m:Nat) c1 s i,Lr n K m c1 s i=(ge n m c1 s i).bind (qg K)
  | 0,_,_,_=>by kernel_rfl
  | m+1,c1,s,i=>by
    have h1:Lr n K (m+1) c1 s i=Ko n c1 s i (Lr n K m) (fun a=>qg K (.out a)) (fun a=>qg K (.ret a)) (fun p=>qg K (.pan p)):=by kernel_rfl
    have h2:Lr n K m=fun c1 s i=>(ge n m c1 s i).bind (qg K):=by
      repeat (refine funext fun _=>?_)
      exact wO n K m _ _ _
    rw [h1,h2];exact (Z4 n m _ _ _ (qg K)).symm
theorem gZ (n:Nat):ec tys (ja Out (Tl n)) (Mr n) n (ta [1,1,0,1,0,0] (fa Tryz.f116)) 0:=Ba (sp:=cx) (rp:=Zw) (by kernel_rfl) fun K σ ρ=>wO n K n σ.1 σ.2.1 σ.2.2.1
theorem d5 (n:Nat):qa tys (ja Out (Tl n)) (Mr n) n (fa Tryz.f116) 0:=⟨aa,⟨aa,⟨⟨aa,⟨gZ n,⟨⟨aa,⟨aa,aa⟩⟩,⟨⟨aa,⟨⟨aa,aa⟩,aa⟩⟩,aa⟩⟩⟩⟩,⟨aa,aa⟩⟩⟩⟩
theorem l9 (n:Nat):Enters Tryz.prog 116:=enters_of (c:=fa Tryz.f116) Tryz.func116 (by kernel_rfl) (by kernel_rfl)
def MW (n:Nat):Entry:=⟨116,pcT (.pair (.int .u8) .unit) (.one .bool) (fun xs=>wM n xs.1),none,none⟩
theorem Kcb (n:Nat):EntryOk Tryz.prog gl (MW n):=ya (l9 n) fun xs y h=>ma tys_ok (PA n) mixed (hint:=Mr n) (n:=n) Tryz.func116 (za (d5 n)) (la (φ:=(fun y=>some (Out.ret (ib (.one .bool) y)))) (by kernel_rfl) (lfb n xs.1 _) h)
def uk (n:Nat):List Entry:=MW n::Tl n
theorem qK (n:Nat):AllOk Tryz.prog gl (uk n):=.cons (Kcb n) (PA n)
def tk (n:Nat) {R:Type} (l1:(Sq BA)) (i1 k0:Int) (kn:(Sq BA)→Int→Int→Option R) (ko:((Sq BA)×Int)→Option R) (kr:(Bool)→Option R) (kp:Int→Option R):Option R:=if 0≤i1∧i1<(l1.n:Int) then if (decide (k0<((l1.at' (Int.toNat i1)).size:Int)))=true then if 0≤i1∧i1<(l1.n:Int) then if 0≤k0∧k0<((l1.at' (Int.toNat i1)).size:Int) then (Ev n (bt (l1.at' (Int.toNat i1)) k0)).bind fun v1=>if (!v1)=true then if 0≤i1∧i1<(l1.n:Int) then if 0≤k0∧k0<((l1.at' (Int.toNat i1)).size:Int) then (eo n (bt (l1.at' (Int.toNat i1)) k0)).bind fun v2=>if (!v2)=true then if 0≤i1∧i1<(l1.n:Int) then if 0≤k0∧k0<((l1.at' (Int.toNat i1)).size:Int) then (wM n (bt (l1.at' (Int.toNat i1)) k0)).bind fun v3=>if (!v3)=true then kr false else kn l1 i1 (IntKind.wrap .i64 (k0+(1:Int))) else none else none else kn l1 i1 (IntKind.wrap .i64 (k0+(1:Int))) else none else none else kn l1 i1 (IntKind.wrap .i64 (k0+(1:Int))) else none else none else ko (l1,i1) else none
def rd (n:Nat):Nat→(Sq BA)→Int→Int→Option (Lx ((Sq BA)×Int) (Bool))
 | 0,_,_,_=>none
 | m+1,l1,i1,k0=>tk n l1 i1 k0 (rd n m) (fun a=>some (.out a)) (fun a=>some (.ret a)) (fun p=>some (.pan p))
theorem cZ (n m:Nat) {S:Type}:∀ l1 i1 k0 (φ:_→Option S),(rd n (m+1) l1 i1 k0).bind φ=tk n l1 i1 k0 (fun l1 i1 k0=>(rd n m l1 i1 k0).bind φ) (fun a=>φ (.out a)) (fun a=>φ (.ret a)) (fun p=>φ (.pan p)):=by
  intros;first | (simp only [rd,tk,ia,ba,iB,bB,oL,oX,nB,Option.bind_some]) | rfl
def Mt:List Sl:=.top::.top::.top::.dat (.sl .str)::.dat (.int .i64)::.dat (.int .i64)::tp 50 []
def Lt:List RS:=[]
def jK:List Sl:=.top::.top::.top::.dat (.sl .str)::.dat (.int .i64)::tp 51 []
def iK:List RS:=[]
def lK:List Sl:=.top::.top::.dat .bool::tp 53 []
def kK:List RS:=[]
def Ze (K:XE→List AV→oa→Option Out):Lx ((Sq BA)×Int) (Bool)→Option Out:=fun x=>onL x (fun a=>Zb jK iK (a.1,(a.2,())) () (K (.exit 2))) (fun a=>Zb lK kK (a,()) () (K .ret)) (fun _=>none)
def rk (n:Nat) {R:Type} (l:(Sq BA)) (i:Int) (kn:(Sq BA)→Int→Option R) (ko:(Unit)→Option R) (kr:(Bool)→Option R) (kp:Int→Option R):Option R:=if (decide (i<(l.n:Int)))=true then if 0≤i∧i<(l.n:Int) then if ((l.at' (Int.toNat i)).toList==(⟨#[]⟩:BA).toList)=true then kr false else (rd n n l i (0:Int)).bind fun x_1=>onL x_1 (fun a_2=>kn a_2.1 (IntKind.wrap .i64 (a_2.2+(1:Int)))) (fun a_3=>kr a_3) (fun _=>none) else none else ko ()
def pd (n:Nat):Nat→(Sq BA)→Int→Option (Lx (Unit) (Bool))
 | 0,_,_=>none
 | m+1,l,i=>rk n l i (pd n m) (fun a=>some (.out a)) (fun a=>some (.ret a)) (fun p=>some (.pan p))
theorem bZ (n m:Nat) {S:Type}:∀ l i (φ:_→Option S),(pd n (m+1) l i).bind φ=rk n l i (fun l i=>(pd n m l i).bind φ) (fun a=>φ (.out a)) (fun a=>φ (.ret a)) (fun p=>φ (.pan p)):=by
  intros;first | (simp only [pd,rk,ia,ba,iB,bB,oL,oX,nB,Option.bind_some]) | rfl
def Kt:List Sl:=.top::.top::.top::.dat (.sl .str)::.dat (.int .i64)::tp 51 []
def Jt:List RS:=[]
def dK:List Sl:=tp 56 []
def cK:List RS:=[]
def fK:List Sl:=.top::.top::.dat .bool::tp 53 []
def eK:List RS:=[]
def Ye (K:XE→List AV→oa→Option Out):Lx (Unit) (Bool)→Option Out:=fun x=>onL x (fun a=>Zb dK cK () () (K (.exit 0))) (fun a=>Zb fK eK (a,()) () (K .ret)) (fun _=>none)
def IC (n:Nat) {R:Type} (s:BA) (k:Bool→Option R):Option R:=(Pn n s (46:Int)).bind fun v=>(pd n n v (0:Int)).bind fun x_1=>onL x_1 (fun a_2=>k true) (fun a_3=>k a_3) (fun _=>none)
def Kr (n:Nat) (s:BA):Option Bool:=IC n s some
theorem Icb (n:Nat) {S:Type}:∀ s (φ:_→Option S),(Kr n s).bind φ=IC n s φ:=by
  intros;unfold Kr IC;first | (simp only [ia,ba,iB,bB,oL,oX,nB,Option.bind_some]) | rfl
def Rg (n:Nat):Hint Out:={ live:=fun c=>(cond (Nat.beq c 0) [(3,some (.sl .str)),(4,none)] (cond (Nat.beq c 2) [(3,some (.sl .str)),(4,none),(5,none)] [])),run:=fun c=>(cond (Nat.beq c 0) (some (Qf Kt Jt fun σ ρ K=>(pd n n σ.1 σ.2.1).bind (Ye K))) (cond (Nat.beq c 2) (some (Qf Mt Lt fun σ ρ K=>(rd n n σ.1 σ.2.1 σ.2.2.1).bind (Ze K))) none)),xm:=fun c q=>(cond (Nat.beq c 0&&Nat.beq (q.getD 1000000) 0&&q.isSome) (some []) (cond (Nat.beq c 2&&Nat.beq (q.getD 1000000) 2&&q.isSome) (some [(3,some (.sl .str)),(4,none)]) (cond (Nat.beq c 3&&q.isNone) (some [(2,none)]) (cond (Nat.beq c 1&&q.isNone) (some [(2,none)]) none)))) }
def qo (n:Nat) (K:XE→List AV→oa→Option Out) (m:Nat) (l1:(Sq BA)) (i1:Int) (k0:Int):Option Out:=Dc tys (ja Out (uk n)) (Rg n) n (ta [1,1,0,1,0,0,1,0,0,1,1,0,0] (fa Tryz.f86)) 2 Mt Lt K m (l1,(i1,(k0,()))) ()
theorem gK (n:Nat) (K:XE→List AV→oa→Option Out):∀ (m:Nat) l1 i1 k0,qo n K m l1 i1 k0=(rd n m l1 i1 k0).bind (Ze K)
  | 0,_,_,_=>by kernel_rfl
  | m+1,l1,i1,k0=>by
    have h1:qo n K (m+1) l1 i1 k0=tk n l1 i1 k0 (qo n K m) (fun a=>Ze K (.out a)) (fun a=>Ze K (.ret a)) (fun p=>Ze K (.pan p)):=by kernel_rfl
    have h2:qo n K m=fun l1 i1 k0=>(rd n m l1 i1 k0).bind (Ze K):=by
      repeat (refine funext fun _=>?_)
      exact gK n K m _ _ _
    rw [h1,h2];exact (cZ n m _ _ _ (Ze K)).symm
theorem NV (n:Nat):ec tys (ja Out (uk n)) (Rg n) n (ta [1,1,0,1,0,0,1,0,0,1,1,0,0] (fa Tryz.f86)) 2:=Ba (sp:=Mt) (rp:=Lt) (by kernel_rfl) fun K σ ρ=>gK n K n σ.1 σ.2.1 σ.2.2.1
def po (n:Nat) (K:XE→List AV→oa→Option Out) (m:Nat) (l:(Sq BA)) (i:Int):Option Out:=Dc tys (ja Out (uk n)) (Rg n) n (ta [1,1,0,1,0,0] (fa Tryz.f86)) 0 Kt Jt K m (l,(i,())) ()
theorem bK (n:Nat) (K:XE→List AV→oa→Option Out):∀ (m:Nat) l i,po n K m l i=(pd n m l i).bind (Ye K)
  | 0,_,_=>by kernel_rfl
  | m+1,l,i=>by
    have h1:po n K (m+1) l i=rk n l i (po n K m) (fun a=>Ye K (.out a)) (fun a=>Ye K (.ret a)) (fun p=>Ye K (.pan p)):=by kernel_rfl
    have h2:po n K m=fun l i=>(pd n m l i).bind (Ye K):=by
      repeat (refine funext fun _=>?_)
      exact bK n K m _ _
    rw [h1,h2];exact (bZ n m _ _ (Ye K)).symm
theorem MV (n:Nat):ec tys (ja Out (uk n)) (Rg n) n (ta [1,1,0,1,0,0] (fa Tryz.f86)) 0:=Ba (sp:=Kt) (rp:=Jt) (by kernel_rfl) fun K σ ρ=>bK n K n σ.1 σ.2.1
theorem dZ (n:Nat):qa tys (ja Out (uk n)) (Rg n) n (fa Tryz.f86) 0:=⟨aa,⟨aa,⟨⟨aa,⟨MV n,⟨⟨aa,⟨aa,aa⟩⟩,⟨⟨⟨aa,⟨⟨aa,aa⟩,aa⟩⟩,⟨aa,⟨NV n,⟨⟨aa,⟨aa,aa⟩⟩,⟨⟨aa,⟨⟨aa,aa⟩,aa⟩⟩,aa⟩⟩⟩⟩⟩,aa⟩⟩⟩⟩,⟨aa,aa⟩⟩⟩⟩
theorem X4 (n:Nat):Enters Tryz.prog 86:=enters_of (c:=fa Tryz.f86) Tryz.func86 (by kernel_rfl) (by kernel_rfl)
def eT (n:Nat):Entry:=⟨86,pcT (.pair .str .unit) (.one .bool) (fun xs=>Kr n xs.1),none,none⟩
theorem g9 (n:Nat):EntryOk Tryz.prog gl (eT n):=ya (X4 n) fun xs y h=>ma tys_ok (qK n) mixed (hint:=Rg n) (n:=n) Tryz.func86 (za (dZ n)) (la (φ:=(fun y=>some (Out.ret (ib (.one .bool) y)))) (by kernel_rfl) (Icb n xs.1 _) h)
def bq (n:Nat):List Entry:=eT n::uk n
theorem RE (n:Nat):AllOk Tryz.prog gl (bq n):=.cons (g9 n) (qK n)
def nc (n:Nat) {R:Type} (s1:BA) (i:Int) (b:(Sq Int)) (kn:BA→Int→(Sq Int)→Option R) (ko:(Unit)→Option R) (kr:(BA×Int×Bool)→Option R) (kp:Int→Option R):Option R:=if (decide (i<(s1.size:Int)))=true then if 0≤i∧i<(s1.size:Int) then if ((bt s1 i)==(34:Int))=true then kr ((DD b.n b.at'),(IntKind.wrap .i64 (i+(1:Int))),true) else if ((bt s1 i)==(92:Int))=true then if (decide ((IntKind.wrap .i64 (i+(1:Int)))≥(s1.size:Int)))=true then ko () else if 0≤(IntKind.wrap .i64 (i+(1:Int)))∧(IntKind.wrap .i64 (i+(1:Int)))<(s1.size:Int) then if (decide ((bt s1 (IntKind.wrap .i64 (i+(1:Int))))<(32:Int)))=false then if (decide ((bt s1 (IntKind.wrap .i64 (i+(1:Int))))>(126:Int)))=true then ko () else if Gb (b.n+1) 1=true then kn s1 (IntKind.wrap .i64 ((IntKind.wrap .i64 (i+(1:Int)))+(1:Int))) (⟨(b.n+1),fun q=>if q<b.n then b.at' q else (fun q=>List.getD (α:=Int) [(bt s1 (IntKind.wrap .i64 (i+(1:Int))))] q (ua (.int .u8))) (q - b.n)⟩:Sq Int) else none else ko () else none else if (decide ((bt s1 i)<(32:Int)))=false then if (decide ((bt s1 i)>(126:Int)))=true then ko () else if Gb (b.n+1) 1=true then kn s1 (IntKind.wrap .i64 (i+(1:Int))) (⟨(b.n+1),fun q=>if q<b.n then b.at' q else (fun q=>List.getD (α:=Int) [(bt s1 i)] q (ua (.int .u8))) (q - b.n)⟩:Sq Int) else none else
 ko () else none else ko ()
def Ha (n:Nat):Nat→BA→Int→(Sq Int)→Option (Lx (Unit) (BA×Int×Bool))
 | 0,_,_,_=>none
 | m+1,s1,i,b=>nc n s1 i b (Ha n m) (fun a=>some (.out a)) (fun a=>some (.ret a)) (fun p=>some (.pan p))
theorem XY (n m:Nat) {S:Type}:∀ s1 i b (φ:_→Option S),(Ha n (m+1) s1 i b).bind φ=nc n s1 i b (fun s1 i b=>(Ha n m s1 i b).bind φ) (fun a=>φ (.out a)) (fun a=>φ (.ret a)) (fun p=>φ (.pan p)):=by
  intros;first | (simp only [Ha,nc,ia,ba,iB,bB,oL,oX,nB,Option.bind_some]) | rfl
def It:List Sl:=.dat .str::tp 4 (.row 0::.dat (.int .i64)::tp 37 [])
def Ht:List RS:=[.row 5 1 (.int .u8) true false]
def XJ:List Sl:=tp 44 []
def WJ:List RS:=[]
def ZJ:List Sl:=.top::.top::.dat .str::.dat (.int .i64)::.dat .bool::tp 39 []
def YJ:List RS:=[]
def Xe (K:XE→List AV→oa→Option Out):Lx (Unit) (BA×Int×Bool)→Option Out:=fun x=>onL x (fun a=>Zb XJ WJ () () (K (.exit 0))) (fun a=>Zb ZJ YJ (a.1,(a.2.1,(a.2.2,()))) () (K .ret)) (fun _=>none)
def FC (n:Nat) {R:Type} (s:BA) (k:(BA×Int×Bool×Unit)→Option R):Option R:=(Ha n n s (1:Int) (⟨0,fun _=>ua (.int .u8)⟩:Sq Int)).bind fun x_1=>onL x_1 (fun a_2=>k ((⟨#[]⟩:BA),((0:Int),(false,())))) (fun a_3=>k (a_3.1,(a_3.2.1,(a_3.2.2,())))) (fun _=>none)
def Jr (n:Nat) (s:BA):Option (BA×Int×Bool×Unit):=FC n s some
theorem Hcb (n:Nat) {S:Type}:∀ s (φ:_→Option S),(Jr n s).bind φ=FC n s φ:=by
  intros;unfold Jr FC;first | (simp only [ia,ba,iB,bB,oL,oX,nB,Option.bind_some]) | rfl
def io (n:Nat):Hint Out:={ live:=fun c=>(cond (Nat.beq c 0) [(0,none),(5,some (.sl (.int .u8))),(6,none)] []),run:=fun c=>(cond (Nat.beq c 0) (some (Qf It Ht fun σ ρ K=>(Ha n n σ.1 σ.2.1 ρ.1).bind (Xe K))) none),xm:=fun c q=>(cond (Nat.beq c 0&&Nat.beq (q.getD 1000000) 0&&q.isSome) (some []) (cond (Nat.beq c 1&&Nat.beq (q.getD 1000000) 0&&q.isSome) (some []) (cond (Nat.beq c 1&&q.isNone) (some (lv [2,3,4])) none))) }
def go (n:Nat) (K:XE→List AV→oa→Option Out) (m:Nat) (s1:BA) (i:Int) (b:(Sq Int)):Option Out:=Dc tys (ja Out (bq n)) (io n) n (ta [1,1,0,1,0,0] (fa Tryz.f87)) 0 It Ht K m (s1,(i,())) (b,())
theorem VJ (n:Nat) (K:XE→List AV→oa→Option Out):∀ (m:Nat) s1 i b,go n K m s1 i b=(Ha n m s1 i b).bind (Xe K)
  | 0,_,_,_=>by kernel_rfl
  | m+1,s1,i,b=>by
    have h1:go n K (m+1) s1 i b=nc n s1 i b (go n K m) (fun a=>Xe K (.out a)) (fun a=>Xe K (.ret a)) (fun p=>Xe K (.pan p)):=by kernel_rfl
    have h2:go n K m=fun s1 i b=>(Ha n m s1 i b).bind (Xe K):=by
      repeat (refine funext fun _=>?_)
      exact VJ n K m _ _ _
    rw [h1,h2];exact (XY n m _ _ _ (Xe K)).symm
theorem JV (n:Nat):ec tys (ja Out (bq n)) (io n) n (ta [1,1,0,1,0,0] (fa Tryz.f87)) 0:=Ba (sp:=It) (rp:=Ht) (by kernel_rfl) fun K σ ρ=>VJ n K n σ.1 σ.2.1 ρ.1
theorem YY (n:Nat):qa tys (ja Out (bq n)) (io n) n (fa Tryz.f87) 0:=⟨aa,⟨aa,⟨⟨aa,⟨JV n,⟨⟨aa,⟨aa,aa⟩⟩,⟨⟨aa,⟨⟨aa,⟨⟨aa,aa⟩,aa⟩⟩,⟨⟨aa,⟨⟨aa,⟨⟨aa,⟨aa,aa⟩⟩,aa⟩⟩,aa⟩⟩,⟨⟨aa,⟨aa,aa⟩⟩,aa⟩⟩⟩⟩,aa⟩⟩⟩⟩,⟨aa,aa⟩⟩⟩⟩
theorem S4 (n:Nat):Enters Tryz.prog 87:=enters_of (c:=fa Tryz.f87) Tryz.func87 (by kernel_rfl) (by kernel_rfl)
def aT (n:Nat):Entry:=⟨87,pcT (.pair .str .unit) (.many (.pair .str (.pair (.int .i64) (.pair .bool .unit)))) (fun xs=>Jr n xs.1),none,none⟩
theorem Z8 (n:Nat):EntryOk Tryz.prog gl (aT n):=ya (S4 n) fun xs y h=>ma tys_ok (RE n) mixed (hint:=io n) (n:=n) Tryz.func87 (za (YY n)) (la (φ:=(fun y=>some (Out.ret (ib (.many (.pair .str (.pair (.int .i64) (.pair .bool .unit)))) y)))) (by kernel_rfl) (Hcb n xs.1 _) h)
def aq (n:Nat):List Entry:=aT n::bq n
theorem PE (n:Nat):AllOk Tryz.prog gl (aq n):=.cons (Z8 n) (RE n)
def pg (n:Nat) {R:Type} (s1 q:BA) (i:Int) (kn:BA→BA→Int→Option R) (ko:(BA)→Option R) (kr:Unit→Option R) (kp:Int→Option R):Option R:=if (decide (i<(s1.size:Int)))=true then if 0≤i∧i<(s1.size:Int) then if ((bt s1 i)==(34:Int))=false then if 0≤i∧i<(s1.size:Int) then if ((bt s1 i)==(92:Int))=true then if yg q (⟨#[92]⟩:BA)=true then if 0≤(IntKind.wrap .i64 (i+(1:Int)))∧(IntKind.wrap .i64 (i+(1:Int)))≤(s1.size:Int) then if 0≤i∧i≤(IntKind.wrap .i64 (i+(1:Int))) then if yg (q++(⟨#[92]⟩:BA)) (s1.extract (Int.toNat i) (Int.toNat (IntKind.wrap .i64 (i+(1:Int)))))=true then kn s1 ((q++(⟨#[92]⟩:BA))++(s1.extract (Int.toNat i) (Int.toNat (IntKind.wrap .i64 (i+(1:Int)))))) (IntKind.wrap .i64 (i+(1:Int))) else none else none else none else none else if 0≤(IntKind.wrap .i64 (i+(1:Int)))∧(IntKind.wrap .i64 (i+(1:Int)))≤(s1.size:Int) then if 0≤i∧i≤(IntKind.wrap .i64 (i+(1:Int))) then if yg q (s1.extract (Int.toNat i) (Int.toNat (IntKind.wrap .i64 (i+(1:Int)))))=true then kn s1 (q++(s1.extract (Int.toNat i) (Int.toNat (IntKind.wrap .i64 (i+(1:Int)))))) (IntKind.wrap .i64 (i+(1:Int))) else none else none else none else none else if yg q (⟨#[92]⟩:BA)=true then if 0≤(IntKind.wrap .i64 (i+(1:Int)))∧(IntKind.wrap .i64 (i+(1:Int)))≤(s1.size:Int) then
 if 0≤i∧i≤(IntKind.wrap .i64 (i+(1:Int))) then if yg (q++(⟨#[92]⟩:BA)) (s1.extract (Int.toNat i) (Int.toNat (IntKind.wrap .i64 (i+(1:Int)))))=true then kn s1 ((q++(⟨#[92]⟩:BA))++(s1.extract (Int.toNat i) (Int.toNat (IntKind.wrap .i64 (i+(1:Int)))))) (IntKind.wrap .i64 (i+(1:Int))) else none else none else none else none else none else ko q
def qc (n:Nat):Nat→BA→BA→Int→Option (Lx (BA) Unit)
 | 0,_,_,_=>none
 | m+1,s1,q,i=>pg n s1 q i (qc n m) (fun a=>some (.out a)) (fun a=>some (.ret a)) (fun p=>some (.pan p))
theorem eZ (n m:Nat) {S:Type}:∀ s1 q i (φ:_→Option S),(qc n (m+1) s1 q i).bind φ=pg n s1 q i (fun s1 q i=>(qc n m s1 q i).bind φ) (fun a=>φ (.out a)) (fun a=>φ (.ret a)) (fun p=>φ (.pan p)):=by
  intros;first | (simp only [qc,pg,ia,ba,iB,bB,oL,oX,nB,Option.bind_some]) | rfl
def Ot:List Sl:=.dat .str::.top::.top::.dat .str::.dat (.int .i64)::tp 27 []
def Nt:List RS:=[]
def oK:List Sl:=.top::.top::.top::.dat .str::tp 28 []
def nK:List RS:=[]
def af (K:XE→List AV→oa→Option Out):Lx (BA) Unit→Option Out:=fun x=>onL x (fun a=>Zb oK nK (a,()) () (K (.exit 0))) (fun _=>none) (fun _=>none)
def JC (n:Nat) {R:Type} (s:BA) (k:BA→Option R):Option R:=(qc n n s (⟨#[34]⟩:BA) (0:Int)).bind fun x_1=>onL x_1 (fun a_2=>if yg a_2 (⟨#[34]⟩:BA)=true then k (a_2++(⟨#[34]⟩:BA)) else none) (fun _=>none) (fun _=>none)
def Yw (n:Nat) (s:BA):Option BA:=JC n s some
theorem Jcb (n:Nat) {S:Type}:∀ s (φ:_→Option S),(Yw n s).bind φ=JC n s φ:=by
  intros;unfold Yw JC;first | (simp only [ia,ba,iB,bB,oL,oX,nB,Option.bind_some]) | rfl
def uo (n:Nat):Hint Out:={ live:=fun c=>(cond (Nat.beq c 0) (lv [0,3,4]) []),run:=fun c=>(cond (Nat.beq c 0) (some (Qf Ot Nt fun σ ρ K=>(qc n n σ.1 σ.2.1 σ.2.2.1).bind (af K))) none),xm:=fun c q=>(cond (Nat.beq c 0&&Nat.beq (q.getD 1000000) 0&&q.isSome) (some [(3,none)]) none) }
def ro (n:Nat) (K:XE→List AV→oa→Option Out) (m:Nat) (s1:BA) (q:BA) (i:Int):Option Out:=Dc tys (ja Out (aq n)) (uo n) n (ta [1,1,0,1,0,0] (fa Tryz.f88)) 0 Ot Nt K m (s1,(q,(i,()))) ()
theorem mK (n:Nat) (K:XE→List AV→oa→Option Out):∀ (m:Nat) s1 q i,ro n K m s1 q i=(qc n m s1 q i).bind (af K)
  | 0,_,_,_=>by kernel_rfl
  | m+1,s1,q,i=>by
    have h1:ro n K (m+1) s1 q i=pg n s1 q i (ro n K m) (fun a=>af K (.out a)) (fun a=>af K (.ret a)) (fun p=>af K (.pan p)):=by kernel_rfl
    have h2:ro n K m=fun s1 q i=>(qc n m s1 q i).bind (af K):=by
      repeat (refine funext fun _=>?_)
      exact mK n K m _ _ _
    rw [h1,h2];exact (eZ n m _ _ _ (af K)).symm
theorem OV (n:Nat):ec tys (ja Out (aq n)) (uo n) n (ta [1,1,0,1,0,0] (fa Tryz.f88)) 0:=Ba (sp:=Ot) (rp:=Nt) (by kernel_rfl) fun K σ ρ=>mK n K n σ.1 σ.2.1 σ.2.2.1
theorem fZ (n:Nat):qa tys (ja Out (aq n)) (uo n) n (fa Tryz.f88) 0:=⟨aa,⟨aa,⟨⟨aa,⟨OV n,⟨⟨aa,⟨aa,aa⟩⟩,⟨⟨⟨aa,⟨aa,aa⟩⟩,aa⟩,aa⟩⟩⟩⟩,⟨aa,aa⟩⟩⟩⟩
theorem Y4 (n:Nat):Enters Tryz.prog 88:=enters_of (c:=fa Tryz.f88) Tryz.func88 (by kernel_rfl) (by kernel_rfl)
def fT (n:Nat):Entry:=⟨88,pcT (.pair .str .unit) (.one .str) (fun xs=>Yw n xs.1),none,none⟩
theorem j9 (n:Nat):EntryOk Tryz.prog gl (fT n):=ya (Y4 n) fun xs y h=>ma tys_ok (PE n) mixed (hint:=uo n) (n:=n) Tryz.func88 (za (fZ n)) (la (φ:=(fun y=>some (Out.ret (ib (.one .str) y)))) (by kernel_rfl) (Jcb n xs.1 _) h)
def cH (n:Nat):List Entry:=fT n::aq n
theorem SE (n:Nat):AllOk Tryz.prog gl (cH n):=.cons (j9 n) (PE n)
def CC (n:Nat) {R:Type} (s:BA) (k:Bool→Option R):Option R:=if (decide ((s.size:Int)<(1:Int)))=false then if (decide ((s.size:Int)>(64:Int)))=true then k false else if 0≤(0:Int)∧(0:Int)<(s.size:Int) then if ((bt s (0:Int)) !=(34:Int))=true then (Kr n s).bind fun v=>k v else (Jr n s).bind fun v1=>if v1.2.2.1=true then if (v1.2.1==(s.size:Int))=true then (Kr n v1.1).bind fun v2=>if (!v2)=true then (Yw n v1.1).bind fun v3=>k (v3.toList==s.toList) else k false else k false else k false else none else k false
def BC (n:Nat) (s:BA):Option Bool:=CC n s some
theorem Ccb (n:Nat) {S:Type}:∀ s (φ:_→Option S),(BC n s).bind φ=CC n s φ:=by
  intros;unfold BC CC;first | (simp only [ia,ba,iB,bB,oL,oX,nB,Option.bind_some]) | rfl
def FJ (n:Nat):Hint Out:={ live:=fun c=>[],run:=fun c=>none,xm:=fun c q=>none }
theorem SY (n:Nat):qa tys (ja Out (cH n)) (FJ n) n (fa Tryz.f62) 0:=na (fun _=>rfl) _ _ (by kernel_rfl)
theorem M4 (n:Nat):Enters Tryz.prog 62:=enters_of (c:=fa Tryz.f62) Tryz.func62 (by kernel_rfl) (by kernel_rfl)
def US (n:Nat):Entry:=⟨62,pcT (.pair .str .unit) (.one .bool) (fun xs=>BC n xs.1),none,none⟩
theorem S8 (n:Nat):EntryOk Tryz.prog gl (US n):=ya (M4 n) fun xs y h=>ma tys_ok (SE n) mixed (hint:=FJ n) (n:=n) Tryz.func62 (za (SY n)) (la (φ:=(fun y=>some (Out.ret (ib (.one .bool) y)))) (by kernel_rfl) (Ccb n xs.1 _) h)
def QG (n:Nat):List Entry:=US n::cH n
theorem LE (n:Nat):AllOk Tryz.prog gl (QG n):=.cons (S8 n) (SE n)
def AQ (n:Nat) {R:Type} (m0:U0) (k:Bool→Option R):Option R:=(BC n m0.1).bind fun v=>if v=true then (Yi n m0.2.1).bind fun v1=>k v1 else k false
def ze (n:Nat) (m0:U0):Option Bool:=AQ n m0 some
theorem fhb (n:Nat) {S:Type}:∀ m0 (φ:_→Option S),(ze n m0).bind φ=AQ n m0 φ:=by
  intros;unfold ze AQ;first | (simp only [ia,ba,iB,bB,oL,oX,nB,Option.bind_some]) | rfl
def WS (n:Nat):Hint Out:={ live:=fun c=>[],run:=fun c=>none,xm:=fun c q=>none }
theorem T8 (n:Nat):qa tys (ja Out (QG n)) (WS n) n (fa Tryz.f33) 0:=na (fun _=>rfl) _ _ (by kernel_rfl)
theorem Dcb (n:Nat):Enters Tryz.prog 33:=enters_of (c:=fa Tryz.f33) Tryz.func33 (by kernel_rfl) (by kernel_rfl)
def N4 (n:Nat):Entry:=⟨33,pcT (.pair (.pair .str (.pair .str .unit)) .unit) (.one .bool) (fun xs=>ze n xs.1),none,none⟩
theorem hfb (n:Nat):EntryOk Tryz.prog gl (N4 n):=ya (Dcb n) fun xs y h=>ma tys_ok (LE n) mixed (hint:=WS n) (n:=n) Tryz.func33 (za (T8 n)) (la (φ:=(fun y=>some (Out.ret (ib (.one .bool) y)))) (by kernel_rfl) (fhb n xs.1 _) h)
def LA (n:Nat):List Entry:=N4 n::QG n
theorem rO (n:Nat):AllOk Tryz.prog gl (LA n):=.cons (hfb n) (LE n)
def Pe (n:Nat) {R:Type} (l1:(Sq U0)) (i:Int) (m01 m02:BA) (kn:(Sq U0)→Int→BA→BA→Option R) (ko:(Unit)→Option R) (kr:(Int)→Option R) (kp:Int→Option R):Option R:=if (decide (i<(l1.n:Int)))=true then if 0≤i∧i<(l1.n:Int) then if (((((l1.at' (Int.toNat i))).1).toList==m01.toList)&&((((((l1.at' (Int.toNat i))).2).1).toList==m02.toList)&&true))=true then kr i else kn l1 (IntKind.wrap .i64 (i+(1:Int))) m01 m02 else none else ko ()
def rb (n:Nat):Nat→(Sq U0)→Int→BA→BA→Option (Lx (Unit) (Int))
 | 0,_,_,_,_=>none
 | m+1,l1,i,m01,m02=>Pe n l1 i m01 m02 (rb n m) (fun a=>some (.out a)) (fun a=>some (.ret a)) (fun p=>some (.pan p))
theorem kS (n m:Nat) {S:Type}:∀ l1 i m01 m02 (φ:_→Option S),(rb n (m+1) l1 i m01 m02).bind φ=Pe n l1 i m01 m02 (fun l1 i m01 m02=>(rb n m l1 i m01 m02).bind φ) (fun a=>φ (.out a)) (fun a=>φ (.ret a)) (fun p=>φ (.pan p)):=by
  intros;first | (simp only [rb,Pe,ia,ba,iB,bB,oL,oX,nB,Option.bind_some]) | rfl
def tm:List Sl:=.dat (.sl (.pair .str (.pair .str .unit)))::.top::.top::.ptr 0 0 0::.top::.dat (.int .i64)::tp 13 []
def sm:List RS:=[.box 25 2 true [.dat .str,.dat .str]]
def nD:List Sl:=tp 19 []
def mD:List RS:=[]
def pD:List Sl:=tp 4 (.dat (.int .i64)::tp 14 [])
def oD:List RS:=[]
def gd (K:XE→List AV→oa→Option Out):Lx (Unit) (Int)→Option Out:=fun x=>onL x (fun a=>Zb nD mD () () (K (.exit 0))) (fun a=>Zb pD oD (a,()) () (K .ret)) (fun _=>none)
def lr (n:Nat) {R:Type} (l:(Sq U0)) (m0:U0) (k:Int→Option R):Option R:=(rb n n l (0:Int) m0.1 m0.2.1).bind fun x_1=>onL x_1 (fun a_2=>k (-1:Int)) (fun a_3=>k a_3) (fun _=>none)
def xd (n:Nat) (l:(Sq U0)) (m0:U0):Option Int:=lr n l m0 some
theorem V3 (n:Nat) {S:Type}:∀ l m0 (φ:_→Option S),(xd n l m0).bind φ=lr n l m0 φ:=by
  intros;unfold xd lr;first | (simp only [ia,ba,iB,bB,oL,oX,nB,Option.bind_some]) | rfl
def Vi (n:Nat):Hint Out:={ live:=fun c=>(cond (Nat.beq c 0) [(0,some (.sl (.pair .str (.pair .str .unit)))),(3,none),(5,none)] []),run:=fun c=>(cond (Nat.beq c 0) (some (Qf tm sm fun σ ρ K=>(rb n n σ.1 σ.2.1 ρ.1.1 ρ.1.2.1).bind (gd K))) none),xm:=fun c q=>(cond (Nat.beq c 0&&Nat.beq (q.getD 1000000) 0&&q.isSome) (some []) (cond (Nat.beq c 1&&q.isNone) (some [(4,none)]) none)) }
def Ti (n:Nat) (K:XE→List AV→oa→Option Out) (m:Nat) (l1:(Sq U0)) (i:Int) (m01:BA) (m02:BA):Option Out:=Dc tys (ja Out (LA n)) (Vi n) n (ta [1,0,1,0,0] (fa Tryz.f34)) 0 tm sm K m (l1,(i,())) ((m01,(m02,())),())
theorem iA (n:Nat) (K:XE→List AV→oa→Option Out):∀ (m:Nat) l1 i m01 m02,Ti n K m l1 i m01 m02=(rb n m l1 i m01 m02).bind (gd K)
  | 0,_,_,_,_=>by kernel_rfl
  | m+1,l1,i,m01,m02=>by
    have h1:Ti n K (m+1) l1 i m01 m02=Pe n l1 i m01 m02 (Ti n K m) (fun a=>gd K (.out a)) (fun a=>gd K (.ret a)) (fun p=>gd K (.pan p)):=by kernel_rfl
    have h2:Ti n K m=fun l1 i m01 m02=>(rb n m l1 i m01 m02).bind (gd K):=by
      repeat (refine funext fun _=>?_)
      exact iA n K m _ _ _ _
    rw [h1,h2];exact (kS n m _ _ _ _ (gd K)).symm
theorem lP (n:Nat):ec tys (ja Out (LA n)) (Vi n) n (ta [1,0,1,0,0] (fa Tryz.f34)) 0:=Ba (sp:=tm) (rp:=sm) (by kernel_rfl) fun K σ ρ=>iA n K n σ.1 σ.2.1 ρ.1.1 ρ.1.2.1
theorem lS (n:Nat):qa tys (ja Out (LA n)) (Vi n) n (fa Tryz.f34) 0:=⟨aa,⟨⟨aa,⟨lP n,⟨⟨aa,⟨aa,aa⟩⟩,⟨⟨aa,⟨⟨aa,aa⟩,aa⟩⟩,aa⟩⟩⟩⟩,⟨aa,aa⟩⟩⟩
theorem mV (n:Nat):Enters Tryz.prog 34:=enters_of (c:=fa Tryz.f34) Tryz.func34 (by kernel_rfl) (by kernel_rfl)
def ZI (n:Nat):Entry:=⟨34,pcT K6 (.one (.int .i64)) (fun xs=>xd n xs.1 xs.2.1),none,none⟩
theorem wY (n:Nat):EntryOk Tryz.prog gl (ZI n):=ya (mV n) fun xs y h=>ma tys_ok (rO n) mixed (hint:=Vi n) (n:=n) Tryz.func34 (za (lS n)) (la (φ:=(fun y=>some (Out.ret (ib (.one (.int .i64)) y)))) (by kernel_rfl) (V3 n xs.1 xs.2.1 _) h)
def Ui (n:Nat):List Entry:=ZI n::LA n
theorem Ux (n:Nat):AllOk Tryz.prog gl (Ui n):=.cons (wY n) (rO n)
def Zj (n:Nat) {R:Type} (s1:BA) (i:Int) (kn:BA→Int→Option R) (ko:(BA)→Option R) (kr:(Bool)→Option R) (kp:Int→Option R):Option R:=if (decide (i<(s1.size:Int)))=true then if 0≤i∧i<(s1.size:Int) then if ((bt s1 i)==(13:Int))=false then if 0≤i∧i<(s1.size:Int) then if ((bt s1 i)==(10:Int))=true then kr false else kn s1 (IntKind.wrap .i64 (i+(1:Int))) else none else kr false else none else ko s1
def ld (n:Nat):Nat→BA→Int→Option (Lx (BA) (Bool))
 | 0,_,_=>none
 | m+1,s1,i=>Zj n s1 i (ld n m) (fun a=>some (.out a)) (fun a=>some (.ret a)) (fun p=>some (.pan p))
theorem FY (n m:Nat) {S:Type}:∀ s1 i (φ:_→Option S),(ld n (m+1) s1 i).bind φ=Zj n s1 i (fun s1 i=>(ld n m s1 i).bind φ) (fun a=>φ (.out a)) (fun a=>φ (.ret a)) (fun p=>φ (.pan p)):=by
  intros;first | (simp only [ld,Zj,ia,ba,iB,bB,oL,oX,nB,Option.bind_some]) | rfl
def Bt:List Sl:=.dat .str::.top::.top::.dat (.int .i64)::tp 19 []
def At:List RS:=[]
def uJ:List Sl:=.dat .str::tp 22 []
def tJ:List RS:=[]
def wJ:List Sl:=.top::.top::.dat .bool::tp 20 []
def vJ:List RS:=[]
def Ve (K:XE→List AV→oa→Option Out):Lx (BA) (Bool)→Option Out:=fun x=>onL x (fun a=>Zb uJ tJ (a,()) () (K (.exit 0))) (fun a=>Zb wJ vJ (a,()) () (K .ret)) (fun _=>none)
def sC (n:Nat) {R:Type} (s:BA) (k:Bool→Option R):Option R:=(ld n n s (0:Int)).bind fun x_1=>onL x_1 (fun a_2=>k (decide ((a_2.size:Int)≤(509:Int)))) (fun a_3=>k a_3) (fun _=>none)
def Un (n:Nat) (s:BA):Option Bool:=sC n s some
theorem xcb (n:Nat) {S:Type}:∀ s (φ:_→Option S),(Un n s).bind φ=sC n s φ:=by
  intros;unfold Un sC;first | (simp only [ia,ba,iB,bB,oL,oX,nB,Option.bind_some]) | rfl
def Wn (n:Nat):Hint Out:={ live:=fun c=>(cond (Nat.beq c 0) [(0,none),(3,none)] []),run:=fun c=>(cond (Nat.beq c 0) (some (Qf Bt At fun σ ρ K=>(ld n n σ.1 σ.2.1).bind (Ve K))) none),xm:=fun c q=>(cond (Nat.beq c 0&&Nat.beq (q.getD 1000000) 0&&q.isSome) (some [(0,none)]) (cond (Nat.beq c 1&&q.isNone) (some [(2,none)]) none)) }
def Vn (n:Nat) (K:XE→List AV→oa→Option Out) (m:Nat) (s1:BA) (i:Int):Option Out:=Dc tys (ja Out (Ui n)) (Wn n) n (ta [1,0,1,0,0] (fa Tryz.f35)) 0 Bt At K m (s1,(i,())) ()
theorem sJ (n:Nat) (K:XE→List AV→oa→Option Out):∀ (m:Nat) s1 i,Vn n K m s1 i=(ld n m s1 i).bind (Ve K)
  | 0,_,_=>by kernel_rfl
  | m+1,s1,i=>by
    have h1:Vn n K (m+1) s1 i=Zj n s1 i (Vn n K m) (fun a=>Ve K (.out a)) (fun a=>Ve K (.ret a)) (fun p=>Ve K (.pan p)):=by kernel_rfl
    have h2:Vn n K m=fun s1 i=>(ld n m s1 i).bind (Ve K):=by
      repeat (refine funext fun _=>?_)
      exact sJ n K m _ _
    rw [h1,h2];exact (FY n m _ _ (Ve K)).symm
theorem rV (n:Nat):ec tys (ja Out (Ui n)) (Wn n) n (ta [1,0,1,0,0] (fa Tryz.f35)) 0:=Ba (sp:=Bt) (rp:=At) (by kernel_rfl) fun K σ ρ=>sJ n K n σ.1 σ.2.1
theorem GY (n:Nat):qa tys (ja Out (Ui n)) (Wn n) n (fa Tryz.f35) 0:=⟨aa,⟨⟨aa,⟨rV n,⟨⟨aa,⟨aa,aa⟩⟩,⟨⟨aa,⟨⟨aa,aa⟩,aa⟩⟩,aa⟩⟩⟩⟩,⟨aa,aa⟩⟩⟩
theorem r4 (n:Nat):Enters Tryz.prog 35:=enters_of (c:=fa Tryz.f35) Tryz.func35 (by kernel_rfl) (by kernel_rfl)
def rS (n:Nat):Entry:=⟨35,pcT (.pair .str .unit) (.one .bool) (fun xs=>Un n xs.1),none,none⟩
theorem H8 (n:Nat):EntryOk Tryz.prog gl (rS n):=ya (r4 n) fun xs y h=>ma tys_ok (Ux n) mixed (hint:=Wn n) (n:=n) Tryz.func35 (za (GY n)) (la (φ:=(fun y=>some (Out.ret (ib (.one .bool) y)))) (by kernel_rfl) (xcb n xs.1 _) h)
def wb (n:Nat):List Entry:=rS n::Ui n
theorem uE (n:Nat):AllOk Tryz.prog gl (wb n):=.cons (H8 n) (Ux n)
def bl (n:Nat) {R:Type} (c1 c2 c3:Int) (c4:BA) (c5:Bool) (c6:Int) (c7:BA) (c8:Bool) (c9 c10:BA) (c11:(Sq U0)) (c12:(Sq BA)) (c13:Int) (c14:Bool) (ko:U1→Option R) (kr:(Bool)→Option R) (kp:Int→Option R):Option R:=if (decide (c1<(1:Int)))=false then if (decide (c1>(1099511627776:Int)))=false then (dJ n c2 (3:Int)).bind fun v=>if (!v)=false then (dJ n c3 (1099511627776:Int)).bind fun v1=>if (!v1)=false then (nv n (c4,(c5,()))).bind fun v2=>if (!v2)=false then if (decide (c6<(0:Int)))=false then if (decide (c6>(5:Int)))=false then if (decide ((c11.n:Int)>(8:Int)))=true then kr false else ko (c1,c2,c3,c4,c5,c6,c7,c8,c9,c10,c11,c12,c13,c14) else kr false else kr false else kr false else kr false else kr false else kr false else kr false
def ti (n:Nat) (c1 c2 c3:Int) (c4:BA) (c5:Bool) (c6:Int) (c7:BA) (c8:Bool) (c9 c10:BA) (c11:(Sq U0)) (c12:(Sq BA)) (c13:Int) (c14:Bool):Option (Lx U1 (Bool)):=bl n c1 c2 c3 c4 c5 c6 c7 c8 c9 c10 c11 c12 c13 c14 (fun a=>some (.out a)) (fun a=>some (.ret a)) (fun p=>some (.pan p))
theorem mP (n:Nat) {S:Type}:∀ c1 c2 c3 c4 c5 c6 c7 c8 c9 c10 c11 c12 c13 c14 (φ:_→Option S),(ti n c1 c2 c3 c4 c5 c6 c7 c8 c9 c10 c11 c12 c13 c14).bind φ=bl n c1 c2 c3 c4 c5 c6 c7 c8 c9 c10 c11 c12 c13 c14 (fun a=>φ (.out a)) (fun a=>φ (.ret a)) (fun p=>φ (.pan p)):=by
  intros;first | (simp only [ti,bl,ia,ba,iB,bB,oL,oX,nB,Option.bind_some]) | rfl
def lA:List Sl:=.top::.ptr 0 0 0::tp 197 []
def kA:List RS:=[.box 29 14 true [.dat (.int .i64),.dat (.int .i64),.dat (.int .i64),.dat .str,.dat .bool,.dat (.int .i64),.dat .str,.dat .bool,.dat .str,.dat .str,.dat (.sl (.pair .str (.pair .str .unit))),.dat (.sl .str),.dat (.int .i64),.dat .bool]]
def QF:List Sl:=.top::.ptr 0 0 0::tp 197 []
def PF:List RS:=[.box 29 14 true [.dat (.int .i64),.dat (.int .i64),.dat (.int .i64),.dat .str,.dat .bool,.dat (.int .i64),.dat .str,.dat .bool,.dat .str,.dat .str,.dat (.sl (.pair .str (.pair .str .unit))),.dat (.sl .str),.dat (.int .i64),.dat .bool]]
def SF:List Sl:=.top::.top::.dat .bool::tp 196 []
def RF:List RS:=[]
def wE (K:XE→List AV→oa→Option Out):Lx U1 (Bool)→Option Out:=fun x=>onL x (fun a=>Zb QF PF () ((a.1,(a.2.1,(a.2.2.1,(a.2.2.2.1,(a.2.2.2.2.1,(a.2.2.2.2.2.1,(a.2.2.2.2.2.2.1,(a.2.2.2.2.2.2.2.1,(a.2.2.2.2.2.2.2.2.1,(a.2.2.2.2.2.2.2.2.2.1,(a.2.2.2.2.2.2.2.2.2.2.1,(a.2.2.2.2.2.2.2.2.2.2.2.1,(a.2.2.2.2.2.2.2.2.2.2.2.2.1,(a.2.2.2.2.2.2.2.2.2.2.2.2.2,())))))))))))))),()) (K .normal)) (fun a=>Zb SF RF (a,()) () (K .ret)) (fun _=>none)
def cl (n:Nat) {R:Type} (hello:Bool) (c29 c30 c31:Int) (c32:BA) (c33:Bool) (c34:Int) (c35:BA) (c36:Bool) (c37 c38:BA) (c39:(Sq U0)) (c40:(Sq BA)) (c41:Int) (c42:Bool) (ko:U1→Option R) (kr:(Bool)→Option R) (kp:Int→Option R):Option R:=if (c34==(0:Int))=true then if (!(c35.toList==(⟨#[]⟩:BA).toList))=true then kr false else ko (c29,c30,c31,c32,c33,c34,c35,c36,c37,c38,c39,c40,c41,c42) else if (c34==(5:Int))=true then if (!(c35.toList==(⟨#[]⟩:BA).toList))=true then if (!hello)=true then kr false else ko (c29,c30,c31,c32,c33,c34,c35,c36,c37,c38,c39,c40,c41,c42) else ko (c29,c30,c31,c32,c33,c34,c35,c36,c37,c38,c39,c40,c41,c42) else if (!hello)=true then kr false else ko (c29,c30,c31,c32,c33,c34,c35,c36,c37,c38,c39,c40,c41,c42)
def ve (n:Nat) (hello:Bool) (c29 c30 c31:Int) (c32:BA) (c33:Bool) (c34:Int) (c35:BA) (c36:Bool) (c37 c38:BA) (c39:(Sq U0)) (c40:(Sq BA)) (c41:Int) (c42:Bool):Option (Lx U1 (Bool)):=cl n hello c29 c30 c31 c32 c33 c34 c35 c36 c37 c38 c39 c40 c41 c42 (fun a=>some (.out a)) (fun a=>some (.ret a)) (fun p=>some (.pan p))
theorem nP (n:Nat) {S:Type}:∀ hello c29 c30 c31 c32 c33 c34 c35 c36 c37 c38 c39 c40 c41 c42 (φ:_→Option S),(ve n hello c29 c30 c31 c32 c33 c34 c35 c36 c37 c38 c39 c40 c41 c42).bind φ=cl n hello c29 c30 c31 c32 c33 c34 c35 c36 c37 c38 c39 c40 c41 c42 (fun a=>φ (.out a)) (fun a=>φ (.ret a)) (fun p=>φ (.pan p)):=by
  intros;first | (simp only [ve,cl,ia,ba,iB,bB,oL,oX,nB,Option.bind_some]) | rfl
def nA:List Sl:=.top::.ptr 0 0 0::.top::.dat .bool::tp 195 []
def mA:List RS:=[.box 29 14 true [.dat (.int .i64),.dat (.int .i64),.dat (.int .i64),.dat .str,.dat .bool,.dat (.int .i64),.dat .str,.dat .bool,.dat .str,.dat .str,.dat (.sl (.pair .str (.pair .str .unit))),.dat (.sl .str),.dat (.int .i64),.dat .bool]]
def UF:List Sl:=.top::.ptr 0 0 0::tp 197 []
def TF:List RS:=[.box 29 14 true [.dat (.int .i64),.dat (.int .i64),.dat (.int .i64),.dat .str,.dat .bool,.dat (.int .i64),.dat .str,.dat .bool,.dat .str,.dat .str,.dat (.sl (.pair .str (.pair .str .unit))),.dat (.sl .str),.dat (.int .i64),.dat .bool]]
def WF:List Sl:=.top::.top::.dat .bool::tp 196 []
def VF:List RS:=[]
def xE (K:XE→List AV→oa→Option Out):Lx U1 (Bool)→Option Out:=fun x=>onL x (fun a=>Zb UF TF () ((a.1,(a.2.1,(a.2.2.1,(a.2.2.2.1,(a.2.2.2.2.1,(a.2.2.2.2.2.1,(a.2.2.2.2.2.2.1,(a.2.2.2.2.2.2.2.1,(a.2.2.2.2.2.2.2.2.1,(a.2.2.2.2.2.2.2.2.2.1,(a.2.2.2.2.2.2.2.2.2.2.1,(a.2.2.2.2.2.2.2.2.2.2.2.1,(a.2.2.2.2.2.2.2.2.2.2.2.2.1,(a.2.2.2.2.2.2.2.2.2.2.2.2.2,())))))))))))))),()) (K .normal)) (fun a=>Zb WF VF (a,()) () (K .ret)) (fun _=>none)
def el (n:Nat) {R:Type} (c71 c72 c73:Int) (c74:BA) (c75:Bool) (c76:Int) (c77:BA) (c78:Bool) (c79 c80:BA) (c81:(Sq U0)) (c82:(Sq BA)) (c83:Int) (c84:Bool) (ko:U1→Option R) (kr:(Bool)→Option R) (kp:Int→Option R):Option R:=if c78=true then if (!((c79.toList==(⟨#[]⟩:BA).toList)&&((c80.toList==(⟨#[]⟩:BA).toList)&&true)))=false then if (!c78)=true then (ze n (c79,(c80,()))).bind fun v5=>if (!v5)=true then kr false else ko (c71,c72,c73,c74,c75,c76,c77,c78,c79,c80,c81,c82,c83,c84) else ko (c71,c72,c73,c74,c75,c76,c77,c78,c79,c80,c81,c82,c83,c84) else kr false else if (!c78)=true then (ze n (c79,(c80,()))).bind fun v6=>if (!v6)=true then kr false else ko (c71,c72,c73,c74,c75,c76,c77,c78,c79,c80,c81,c82,c83,c84) else ko (c71,c72,c73,c74,c75,c76,c77,c78,c79,c80,c81,c82,c83,c84)
def ui (n:Nat) (c71 c72 c73:Int) (c74:BA) (c75:Bool) (c76:Int) (c77:BA) (c78:Bool) (c79 c80:BA) (c81:(Sq U0)) (c82:(Sq BA)) (c83:Int) (c84:Bool):Option (Lx U1 (Bool)):=el n c71 c72 c73 c74 c75 c76 c77 c78 c79 c80 c81 c82 c83 c84 (fun a=>some (.out a)) (fun a=>some (.ret a)) (fun p=>some (.pan p))
theorem pP (n:Nat) {S:Type}:∀ c71 c72 c73 c74 c75 c76 c77 c78 c79 c80 c81 c82 c83 c84 (φ:_→Option S),(ui n c71 c72 c73 c74 c75 c76 c77 c78 c79 c80 c81 c82 c83 c84).bind φ=el n c71 c72 c73 c74 c75 c76 c77 c78 c79 c80 c81 c82 c83 c84 (fun a=>φ (.out a)) (fun a=>φ (.ret a)) (fun p=>φ (.pan p)):=by
  intros;first | (simp only [ui,el,ia,ba,iB,bB,oL,oX,nB,Option.bind_some]) | rfl
def rA:List Sl:=.top::.ptr 0 0 0::tp 197 []
def qA:List RS:=[.box 29 14 true [.dat (.int .i64),.dat (.int .i64),.dat (.int .i64),.dat .str,.dat .bool,.dat (.int .i64),.dat .str,.dat .bool,.dat .str,.dat .str,.dat (.sl (.pair .str (.pair .str .unit))),.dat (.sl .str),.dat (.int .i64),.dat .bool]]
def cG:List Sl:=.top::.ptr 0 0 0::tp 197 []
def bG:List RS:=[.box 29 14 true [.dat (.int .i64),.dat (.int .i64),.dat (.int .i64),.dat .str,.dat .bool,.dat (.int .i64),.dat .str,.dat .bool,.dat .str,.dat .str,.dat (.sl (.pair .str (.pair .str .unit))),.dat (.sl .str),.dat (.int .i64),.dat .bool]]
def eG:List Sl:=.top::.top::.dat .bool::tp 196 []
def dG:List RS:=[]
def zE (K:XE→List AV→oa→Option Out):Lx U1 (Bool)→Option Out:=fun x=>onL x (fun a=>Zb cG bG () ((a.1,(a.2.1,(a.2.2.1,(a.2.2.2.1,(a.2.2.2.2.1,(a.2.2.2.2.2.1,(a.2.2.2.2.2.2.1,(a.2.2.2.2.2.2.2.1,(a.2.2.2.2.2.2.2.2.1,(a.2.2.2.2.2.2.2.2.2.1,(a.2.2.2.2.2.2.2.2.2.2.1,(a.2.2.2.2.2.2.2.2.2.2.2.1,(a.2.2.2.2.2.2.2.2.2.2.2.2.1,(a.2.2.2.2.2.2.2.2.2.2.2.2.2,())))))))))))))),()) (K .normal)) (fun a=>Zb eG dG (a,()) () (K .ret)) (fun _=>none)
def dl (n:Nat) {R:Type} (c57 c58 c59:Int) (c60:BA) (c61:Bool) (c62:Int) (c63:BA) (c64:Bool) (c65 c66:BA) (c67:(Sq U0)) (c68:(Sq BA)) (c69:Int) (c70:Bool) (ko:U1→Option R) (kr:(Bool)→Option R) (kp:Int→Option R):Option R:=(yC n c62).bind fun v4=>if v4=true then (ui n c57 c58 c59 c60 c61 c62 c63 c64 c65 c66 c67 c68 c69 c70).bind fun x_1=>onL x_1 (fun a_2=>if (!(((a_2.2.2.2.2.2.2.2.2.2.2.1.n:Int)==(0:Int))==(a_2.2.2.2.2.2.1==(2:Int))))=true then kr false else ko (a_2.1,a_2.2.1,a_2.2.2.1,a_2.2.2.2.1,a_2.2.2.2.2.1,a_2.2.2.2.2.2.1,a_2.2.2.2.2.2.2.1,a_2.2.2.2.2.2.2.2.1,a_2.2.2.2.2.2.2.2.2.1,a_2.2.2.2.2.2.2.2.2.2.1,a_2.2.2.2.2.2.2.2.2.2.2.1,a_2.2.2.2.2.2.2.2.2.2.2.2.1,a_2.2.2.2.2.2.2.2.2.2.2.2.2.1,a_2.2.2.2.2.2.2.2.2.2.2.2.2.2)) (fun a_3=>kr a_3) (fun _=>none) else if c64=false then if (!((c65.toList==(⟨#[]⟩:BA).toList)&&((c66.toList==(⟨#[]⟩:BA).toList)&&true)))=false then if (decide ((c67.n:Int)>(0:Int)))=true then kr false else ko (c57,c58,c59,c60,c61,c62,c63,c64,c65,c66,c67,c68,c69,c70) else kr false else kr false
def we (n:Nat) (c57 c58 c59:Int) (c60:BA) (c61:Bool) (c62:Int) (c63:BA) (c64:Bool) (c65 c66:BA) (c67:(Sq U0)) (c68:(Sq BA)) (c69:Int) (c70:Bool):Option (Lx U1 (Bool)):=dl n c57 c58 c59 c60 c61 c62 c63 c64 c65 c66 c67 c68 c69 c70 (fun a=>some (.out a)) (fun a=>some (.ret a)) (fun p=>some (.pan p))
theorem oP (n:Nat) {S:Type}:∀ c57 c58 c59 c60 c61 c62 c63 c64 c65 c66 c67 c68 c69 c70 (φ:_→Option S),(we n c57 c58 c59 c60 c61 c62 c63 c64 c65 c66 c67 c68 c69 c70).bind φ=dl n c57 c58 c59 c60 c61 c62 c63 c64 c65 c66 c67 c68 c69 c70 (fun a=>φ (.out a)) (fun a=>φ (.ret a)) (fun p=>φ (.pan p)):=by
  intros;first | (simp only [we,dl,ia,ba,iB,bB,oL,oX,nB,Option.bind_some]) | rfl
def pA:List Sl:=.top::.ptr 0 0 0::tp 197 []
def oA:List RS:=[.box 29 14 true [.dat (.int .i64),.dat (.int .i64),.dat (.int .i64),.dat .str,.dat .bool,.dat (.int .i64),.dat .str,.dat .bool,.dat .str,.dat .str,.dat (.sl (.pair .str (.pair .str .unit))),.dat (.sl .str),.dat (.int .i64),.dat .bool]]
def YF:List Sl:=.top::.ptr 0 0 0::tp 197 []
def XF:List RS:=[.box 29 14 true [.dat (.int .i64),.dat (.int .i64),.dat (.int .i64),.dat .str,.dat .bool,.dat (.int .i64),.dat .str,.dat .bool,.dat .str,.dat .str,.dat (.sl (.pair .str (.pair .str .unit))),.dat (.sl .str),.dat (.int .i64),.dat .bool]]
def aG:List Sl:=.top::.top::.dat .bool::tp 196 []
def ZF:List RS:=[]
def yE (K:XE→List AV→oa→Option Out):Lx U1 (Bool)→Option Out:=fun x=>onL x (fun a=>Zb YF XF () ((a.1,(a.2.1,(a.2.2.1,(a.2.2.2.1,(a.2.2.2.2.1,(a.2.2.2.2.2.1,(a.2.2.2.2.2.2.1,(a.2.2.2.2.2.2.2.1,(a.2.2.2.2.2.2.2.2.1,(a.2.2.2.2.2.2.2.2.2.1,(a.2.2.2.2.2.2.2.2.2.2.1,(a.2.2.2.2.2.2.2.2.2.2.2.1,(a.2.2.2.2.2.2.2.2.2.2.2.2.1,(a.2.2.2.2.2.2.2.2.2.2.2.2.2,())))))))))))))),()) (K .normal)) (fun a=>Zb aG ZF (a,()) () (K .ret)) (fun _=>none)
def il (n:Nat) {R:Type} (i1 c127 c128 c129:Int) (c130:BA) (c131:Bool) (c132:Int) (c133:BA) (c134:Bool) (c135 c136:BA) (c137:(Sq U0)) (c138:(Sq BA)) (c139:Int) (c140:Bool) (ko:U6→Option R) (kr:(Bool)→Option R) (kp:Int→Option R):Option R:=if 0≤i1∧i1<(c137.n:Int) then (ze n (((c137.at' (Int.toNat i1))).1,((((c137.at' (Int.toNat i1))).2).1,()))).bind fun v7=>if (!v7)=false then if 0≤i1∧i1≤(c137.n:Int) then if 0≤i1∧i1<(c137.n:Int) then (xd n (⟨((Int.toNat i1) - (Int.toNat (0:Int))),fun i=>c137.at' ((Int.toNat (0:Int))+i)⟩:Sq U0) (((c137.at' (Int.toNat i1))).1,((((c137.at' (Int.toNat i1))).2).1,()))).bind fun v8=>if (decide (v8≥(0:Int)))=true then kr false else ko (i1,c127,c128,c129,c130,c131,c132,c133,c134,c135,c136,c137,c138,c139,c140) else none else none else kr false else none
def vi (n:Nat) (i1 c127 c128 c129:Int) (c130:BA) (c131:Bool) (c132:Int) (c133:BA) (c134:Bool) (c135 c136:BA) (c137:(Sq U0)) (c138:(Sq BA)) (c139:Int) (c140:Bool):Option (Lx U6 (Bool)):=il n i1 c127 c128 c129 c130 c131 c132 c133 c134 c135 c136 c137 c138 c139 c140 (fun a=>some (.out a)) (fun a=>some (.ret a)) (fun p=>some (.pan p))
theorem qP (n:Nat) {S:Type}:∀ i1 c127 c128 c129 c130 c131 c132 c133 c134 c135 c136 c137 c138 c139 c140 (φ:_→Option S),(vi n i1 c127 c128 c129 c130 c131 c132 c133 c134 c135 c136 c137 c138 c139 c140).bind φ=il n i1 c127 c128 c129 c130 c131 c132 c133 c134 c135 c136 c137 c138 c139 c140 (fun a=>φ (.out a)) (fun a=>φ (.ret a)) (fun p=>φ (.pan p)):=by
  intros;first | (simp only [vi,il,ia,ba,iB,bB,oL,oX,nB,Option.bind_some]) | rfl
def tA:List Sl:=.top::.ptr 0 0 0::.top::.top::.dat (.int .i64)::tp 194 []
def sA:List RS:=[.box 29 14 true [.dat (.int .i64),.dat (.int .i64),.dat (.int .i64),.dat .str,.dat .bool,.dat (.int .i64),.dat .str,.dat .bool,.dat .str,.dat .str,.dat (.sl (.pair .str (.pair .str .unit))),.dat (.sl .str),.dat (.int .i64),.dat .bool]]
def gG:List Sl:=.top::.ptr 0 0 0::.top::.top::.dat (.int .i64)::tp 194 []
def fG:List RS:=[.box 29 14 true [.dat (.int .i64),.dat (.int .i64),.dat (.int .i64),.dat .str,.dat .bool,.dat (.int .i64),.dat .str,.dat .bool,.dat .str,.dat .str,.dat (.sl (.pair .str (.pair .str .unit))),.dat (.sl .str),.dat (.int .i64),.dat .bool]]
def jG:List Sl:=.top::.top::.dat .bool::tp 196 []
def iG:List RS:=[]
def AE (K:XE→List AV→oa→Option Out):Lx U6 (Bool)→Option Out:=fun x=>onL x (fun a=>Zb gG fG (a.1,()) ((a.2.1,(a.2.2.1,(a.2.2.2.1,(a.2.2.2.2.1,(a.2.2.2.2.2.1,(a.2.2.2.2.2.2.1,(a.2.2.2.2.2.2.2.1,(a.2.2.2.2.2.2.2.2.1,(a.2.2.2.2.2.2.2.2.2.1,(a.2.2.2.2.2.2.2.2.2.2.1,(a.2.2.2.2.2.2.2.2.2.2.2.1,(a.2.2.2.2.2.2.2.2.2.2.2.2.1,(a.2.2.2.2.2.2.2.2.2.2.2.2.2.1,(a.2.2.2.2.2.2.2.2.2.2.2.2.2.2,())))))))))))))),()) (K .normal)) (fun a=>Zb jG iG (a,()) () (K .ret)) (fun _=>none)
def ri (n:Nat) {R:Type} (i c113 c114 c115:Int) (c116:BA) (c117:Bool) (c118:Int) (c119:BA) (c120:Bool) (c121 c122:BA) (c123:(Sq U0)) (c124:(Sq BA)) (c125:Int) (c126:Bool) (kn:Int→Int→Int→Int→BA→Bool→Int→BA→Bool→BA→BA→(Sq U0)→(Sq BA)→Int→Bool→Option R) (ko:U1→Option R) (kr:(Bool)→Option R) (kp:Int→Option R):Option R:=if (decide (i<(c123.n:Int)))=true then (vi n i c113 c114 c115 c116 c117 c118 c119 c120 c121 c122 c123 c124 c125 c126).bind fun x_1=>onL x_1 (fun a_2=>kn (IntKind.wrap .i64 (a_2.1+(1:Int))) a_2.2.1 a_2.2.2.1 a_2.2.2.2.1 a_2.2.2.2.2.1 a_2.2.2.2.2.2.1 a_2.2.2.2.2.2.2.1 a_2.2.2.2.2.2.2.2.1 a_2.2.2.2.2.2.2.2.2.1 a_2.2.2.2.2.2.2.2.2.2.1 a_2.2.2.2.2.2.2.2.2.2.2.1 a_2.2.2.2.2.2.2.2.2.2.2.2.1 a_2.2.2.2.2.2.2.2.2.2.2.2.2.1 a_2.2.2.2.2.2.2.2.2.2.2.2.2.2.1 a_2.2.2.2.2.2.2.2.2.2.2.2.2.2.2) (fun a_3=>kr a_3) (fun _=>none) else ko (c113,c114,c115,c116,c117,c118,c119,c120,c121,c122,c123,c124,c125,c126)
def Cb (n:Nat):Nat→Int→Int→Int→Int→BA→Bool→Int→BA→Bool→BA→BA→(Sq U0)→(Sq BA)→Int→Bool→Option (Lx U1 (Bool))
 | 0,_,_,_,_,_,_,_,_,_,_,_,_,_,_,_=>none
 | m+1,i,c113,c114,c115,c116,c117,c118,c119,c120,c121,c122,c123,c124,c125,c126=>ri n i c113 c114 c115 c116 c117 c118 c119 c120 c121 c122 c123 c124 c125 c126 (Cb n m) (fun a=>some (.out a)) (fun a=>some (.ret a)) (fun p=>some (.pan p))
theorem uV (n m:Nat) {S:Type}:∀ i c113 c114 c115 c116 c117 c118 c119 c120 c121 c122 c123 c124 c125 c126 (φ:_→Option S),(Cb n (m+1) i c113 c114 c115 c116 c117 c118 c119 c120 c121 c122 c123 c124 c125 c126).bind φ=ri n i c113 c114 c115 c116 c117 c118 c119 c120 c121 c122 c123 c124 c125 c126 (fun i c113 c114 c115 c116 c117 c118 c119 c120 c121 c122 c123 c124 c125 c126=>(Cb n m i c113 c114 c115 c116 c117 c118 c119 c120 c121 c122 c123 c124 c125 c126).bind φ) (fun a=>φ (.out a)) (fun a=>φ (.ret a)) (fun p=>φ (.pan p)):=by
  intros;first | (simp only [Cb,ri,ia,ba,iB,bB,oL,oX,nB,Option.bind_some]) | rfl
def Qp:List Sl:=.top::.ptr 0 0 0::.top::.top::.dat (.int .i64)::tp 194 []
def Pp:List RS:=[.box 29 14 true [.dat (.int .i64),.dat (.int .i64),.dat (.int .i64),.dat .str,.dat .bool,.dat (.int .i64),.dat .str,.dat .bool,.dat .str,.dat .str,.dat (.sl (.pair .str (.pair .str .unit))),.dat (.sl .str),.dat (.int .i64),.dat .bool]]
def xG:List Sl:=.top::.ptr 0 0 0::tp 197 []
def wG:List RS:=[.box 29 14 true [.dat (.int .i64),.dat (.int .i64),.dat (.int .i64),.dat .str,.dat .bool,.dat (.int .i64),.dat .str,.dat .bool,.dat .str,.dat .str,.dat (.sl (.pair .str (.pair .str .unit))),.dat (.sl .str),.dat (.int .i64),.dat .bool]]
def zG:List Sl:=.top::.top::.dat .bool::tp 196 []
def yG:List RS:=[]
def Md (K:XE→List AV→oa→Option Out):Lx U1 (Bool)→Option Out:=fun x=>onL x (fun a=>Zb xG wG () ((a.1,(a.2.1,(a.2.2.1,(a.2.2.2.1,(a.2.2.2.2.1,(a.2.2.2.2.2.1,(a.2.2.2.2.2.2.1,(a.2.2.2.2.2.2.2.1,(a.2.2.2.2.2.2.2.2.1,(a.2.2.2.2.2.2.2.2.2.1,(a.2.2.2.2.2.2.2.2.2.2.1,(a.2.2.2.2.2.2.2.2.2.2.2.1,(a.2.2.2.2.2.2.2.2.2.2.2.2.1,(a.2.2.2.2.2.2.2.2.2.2.2.2.2,())))))))))))))),()) (K (.exit 1))) (fun a=>Zb zG yG (a,()) () (K .ret)) (fun _=>none)
def ll (n:Nat) {R:Type} (c169 c170 c171:Int) (c172:BA) (c173:Bool) (c174:Int) (c175:BA) (c176:Bool) (c177 c178:BA) (c179:(Sq U0)) (c180:(Sq BA)) (c181:Int) (c182:Bool) (ko:U1→Option R) (kr:(Bool)→Option R) (kp:Int→Option R):Option R:=if (c174 !=(4:Int))=true then if (decide ((c180.n:Int)>(0:Int)))=false then if c182=false then if c182=true then if (decide ((c180.n:Int)>(0:Int)))=true then kr false else ko (c169,c170,c171,c172,c173,c174,c175,c176,c177,c178,c179,c180,c181,c182) else ko (c169,c170,c171,c172,c173,c174,c175,c176,c177,c178,c179,c180,c181,c182) else kr false else kr false else if c182=true then if (decide ((c180.n:Int)>(0:Int)))=true then kr false else ko (c169,c170,c171,c172,c173,c174,c175,c176,c177,c178,c179,c180,c181,c182) else ko (c169,c170,c171,c172,c173,c174,c175,c176,c177,c178,c179,c180,c181,c182)
def xe (n:Nat) (c169 c170 c171:Int) (c172:BA) (c173:Bool) (c174:Int) (c175:BA) (c176:Bool) (c177 c178:BA) (c179:(Sq U0)) (c180:(Sq BA)) (c181:Int) (c182:Bool):Option (Lx U1 (Bool)):=ll n c169 c170 c171 c172 c173 c174 c175 c176 c177 c178 c179 c180 c181 c182 (fun a=>some (.out a)) (fun a=>some (.ret a)) (fun p=>some (.pan p))
theorem rP (n:Nat) {S:Type}:∀ c169 c170 c171 c172 c173 c174 c175 c176 c177 c178 c179 c180 c181 c182 (φ:_→Option S),(xe n c169 c170 c171 c172 c173 c174 c175 c176 c177 c178 c179 c180 c181 c182).bind φ=ll n c169 c170 c171 c172 c173 c174 c175 c176 c177 c178 c179 c180 c181 c182 (fun a=>φ (.out a)) (fun a=>φ (.ret a)) (fun p=>φ (.pan p)):=by
  intros;first | (simp only [xe,ll,ia,ba,iB,bB,oL,oX,nB,Option.bind_some]) | rfl
def vA:List Sl:=.top::.ptr 0 0 0::tp 197 []
def uA:List RS:=[.box 29 14 true [.dat (.int .i64),.dat (.int .i64),.dat (.int .i64),.dat .str,.dat .bool,.dat (.int .i64),.dat .str,.dat .bool,.dat .str,.dat .str,.dat (.sl (.pair .str (.pair .str .unit))),.dat (.sl .str),.dat (.int .i64),.dat .bool]]
def lG:List Sl:=.top::.ptr 0 0 0::tp 197 []
def kG:List RS:=[.box 29 14 true [.dat (.int .i64),.dat (.int .i64),.dat (.int .i64),.dat .str,.dat .bool,.dat (.int .i64),.dat .str,.dat .bool,.dat .str,.dat .str,.dat (.sl (.pair .str (.pair .str .unit))),.dat (.sl .str),.dat (.int .i64),.dat .bool]]
def nG:List Sl:=.top::.top::.dat .bool::tp 196 []
def mG:List RS:=[]
def BE (K:XE→List AV→oa→Option Out):Lx U1 (Bool)→Option Out:=fun x=>onL x (fun a=>Zb lG kG () ((a.1,(a.2.1,(a.2.2.1,(a.2.2.2.1,(a.2.2.2.2.1,(a.2.2.2.2.2.1,(a.2.2.2.2.2.2.1,(a.2.2.2.2.2.2.2.1,(a.2.2.2.2.2.2.2.2.1,(a.2.2.2.2.2.2.2.2.2.1,(a.2.2.2.2.2.2.2.2.2.2.1,(a.2.2.2.2.2.2.2.2.2.2.2.1,(a.2.2.2.2.2.2.2.2.2.2.2.2.1,(a.2.2.2.2.2.2.2.2.2.2.2.2.2,())))))))))))))),()) (K .normal)) (fun a=>Zb nG mG (a,()) () (K .ret)) (fun _=>none)
def ol (n:Nat) {R:Type} (n02 i5 c225 c226 c227:Int) (c228:BA) (c229:Bool) (c230:Int) (c231:BA) (c232:Bool) (c233 c234:BA) (c235:(Sq U0)) (c236:(Sq BA)) (c237:Int) (c238:Bool) (ko:U5→Option R) (kr:(Bool)→Option R) (kp:Int→Option R):Option R:=if 0≤i5∧i5<(c236.n:Int) then (Un n (c236.at' (Int.toNat i5))).bind fun v9=>if (!v9)=true then kr false else ko (n02,i5,c225,c226,c227,c228,c229,c230,c231,c232,c233,c234,c235,c236,c237,c238) else none
def xi (n:Nat) (n02 i5 c225 c226 c227:Int) (c228:BA) (c229:Bool) (c230:Int) (c231:BA) (c232:Bool) (c233 c234:BA) (c235:(Sq U0)) (c236:(Sq BA)) (c237:Int) (c238:Bool):Option (Lx U5 (Bool)):=ol n n02 i5 c225 c226 c227 c228 c229 c230 c231 c232 c233 c234 c235 c236 c237 c238 (fun a=>some (.out a)) (fun a=>some (.ret a)) (fun p=>some (.pan p))
theorem tP (n:Nat) {S:Type}:∀ n02 i5 c225 c226 c227 c228 c229 c230 c231 c232 c233 c234 c235 c236 c237 c238 (φ:_→Option S),(xi n n02 i5 c225 c226 c227 c228 c229 c230 c231 c232 c233 c234 c235 c236 c237 c238).bind φ=ol n n02 i5 c225 c226 c227 c228 c229 c230 c231 c232 c233 c234 c235 c236 c237 c238 (fun a=>φ (.out a)) (fun a=>φ (.ret a)) (fun p=>φ (.pan p)):=by
  intros;first | (simp only [xi,ol,ia,ba,iB,bB,oL,oX,nB,Option.bind_some]) | rfl
def AA:List Sl:=.top::.ptr 0 0 0::.top::.top::.top::.dat (.int .i64)::.dat (.int .i64)::tp 192 []
def yA:List RS:=[.box 29 14 true [.dat (.int .i64),.dat (.int .i64),.dat (.int .i64),.dat .str,.dat .bool,.dat (.int .i64),.dat .str,.dat .bool,.dat .str,.dat .str,.dat (.sl (.pair .str (.pair .str .unit))),.dat (.sl .str),.dat (.int .i64),.dat .bool]]
def tG:List Sl:=.top::.ptr 0 0 0::.top::.top::.top::.dat (.int .i64)::.dat (.int .i64)::tp 192 []
def sG:List RS:=[.box 29 14 true [.dat (.int .i64),.dat (.int .i64),.dat (.int .i64),.dat .str,.dat .bool,.dat (.int .i64),.dat .str,.dat .bool,.dat .str,.dat .str,.dat (.sl (.pair .str (.pair .str .unit))),.dat (.sl .str),.dat (.int .i64),.dat .bool]]
def vG:List Sl:=.top::.top::.dat .bool::tp 196 []
def uG:List RS:=[]
def EE (K:XE→List AV→oa→Option Out):Lx U5 (Bool)→Option Out:=fun x=>onL x (fun a=>Zb tG sG (a.1,(a.2.1,())) ((a.2.2.1,(a.2.2.2.1,(a.2.2.2.2.1,(a.2.2.2.2.2.1,(a.2.2.2.2.2.2.1,(a.2.2.2.2.2.2.2.1,(a.2.2.2.2.2.2.2.2.1,(a.2.2.2.2.2.2.2.2.2.1,(a.2.2.2.2.2.2.2.2.2.2.1,(a.2.2.2.2.2.2.2.2.2.2.2.1,(a.2.2.2.2.2.2.2.2.2.2.2.2.1,(a.2.2.2.2.2.2.2.2.2.2.2.2.2.1,(a.2.2.2.2.2.2.2.2.2.2.2.2.2.2.1,(a.2.2.2.2.2.2.2.2.2.2.2.2.2.2.2,())))))))))))))),()) (K .normal)) (fun a=>Zb vG uG (a,()) () (K .ret)) (fun _=>none)
def ml (n:Nat) {R:Type} (n01 i4 c211 c212 c213:Int) (c214:BA) (c215:Bool) (c216:Int) (c217:BA) (c218:Bool) (c219 c220:BA) (c221:(Sq U0)) (c222:(Sq BA)) (c223:Int) (c224:Bool) (ko:U5→Option R) (kr:(Bool)→Option R) (kp:Int→Option R):Option R:=(xi n n01 i4 c211 c212 c213 c214 c215 c216 c217 c218 c219 c220 c221 c222 c223 c224).bind fun x_1=>onL x_1 (fun a_2=>if 0≤a_2.2.1∧a_2.2.1<(a_2.2.2.2.2.2.2.2.2.2.2.2.2.2.1.n:Int) then if (decide ((IntKind.wrap .i64 ((IntKind.wrap .i64 (a_2.1+((a_2.2.2.2.2.2.2.2.2.2.2.2.2.2.1.at' (Int.toNat a_2.2.1)).size:Int)))+(2:Int)))>(8192:Int)))=true then kr false else ko ((IntKind.wrap .i64 ((IntKind.wrap .i64 (a_2.1+((a_2.2.2.2.2.2.2.2.2.2.2.2.2.2.1.at' (Int.toNat a_2.2.1)).size:Int)))+(2:Int))),a_2.2.1,a_2.2.2.1,a_2.2.2.2.1,a_2.2.2.2.2.1,a_2.2.2.2.2.2.1,a_2.2.2.2.2.2.2.1,a_2.2.2.2.2.2.2.2.1,a_2.2.2.2.2.2.2.2.2.1,a_2.2.2.2.2.2.2.2.2.2.1,a_2.2.2.2.2.2.2.2.2.2.2.1,a_2.2.2.2.2.2.2.2.2.2.2.2.1,a_2.2.2.2.2.2.2.2.2.2.2.2.2.1,a_2.2.2.2.2.2.2.2.2.2.2.2.2.2.1,a_2.2.2.2.2.2.2.2.2.2.2.2.2.2.2.1,a_2.2.2.2.2.2.2.2.2.2.2.2.2.2.2.2) else none) (fun a_3=>kr a_3) (fun _=>none)
def wi (n:Nat) (n01 i4 c211 c212 c213:Int) (c214:BA) (c215:Bool) (c216:Int) (c217:BA) (c218:Bool) (c219 c220:BA) (c221:(Sq U0)) (c222:(Sq BA)) (c223:Int) (c224:Bool):Option (Lx U5 (Bool)):=ml n n01 i4 c211 c212 c213 c214 c215 c216 c217 c218 c219 c220 c221 c222 c223 c224 (fun a=>some (.out a)) (fun a=>some (.ret a)) (fun p=>some (.pan p))
theorem sP (n:Nat) {S:Type}:∀ n01 i4 c211 c212 c213 c214 c215 c216 c217 c218 c219 c220 c221 c222 c223 c224 (φ:_→Option S),(wi n n01 i4 c211 c212 c213 c214 c215 c216 c217 c218 c219 c220 c221 c222 c223 c224).bind φ=ml n n01 i4 c211 c212 c213 c214 c215 c216 c217 c218 c219 c220 c221 c222 c223 c224 (fun a=>φ (.out a)) (fun a=>φ (.ret a)) (fun p=>φ (.pan p)):=by
  intros;first | (simp only [wi,ml,ia,ba,iB,bB,oL,oX,nB,Option.bind_some]) | rfl
def xA:List Sl:=.top::.ptr 0 0 0::.top::.top::.top::.dat (.int .i64)::.dat (.int .i64)::tp 192 []
def wA:List RS:=[.box 29 14 true [.dat (.int .i64),.dat (.int .i64),.dat (.int .i64),.dat .str,.dat .bool,.dat (.int .i64),.dat .str,.dat .bool,.dat .str,.dat .str,.dat (.sl (.pair .str (.pair .str .unit))),.dat (.sl .str),.dat (.int .i64),.dat .bool]]
def pG:List Sl:=.top::.ptr 0 0 0::.top::.top::.top::.dat (.int .i64)::.dat (.int .i64)::tp 192 []
def oG:List RS:=[.box 29 14 true [.dat (.int .i64),.dat (.int .i64),.dat (.int .i64),.dat .str,.dat .bool,.dat (.int .i64),.dat .str,.dat .bool,.dat .str,.dat .str,.dat (.sl (.pair .str (.pair .str .unit))),.dat (.sl .str),.dat (.int .i64),.dat .bool]]
def rG:List Sl:=.top::.top::.dat .bool::tp 196 []
def qG:List RS:=[]
def DE (K:XE→List AV→oa→Option Out):Lx U5 (Bool)→Option Out:=fun x=>onL x (fun a=>Zb pG oG (a.1,(a.2.1,())) ((a.2.2.1,(a.2.2.2.1,(a.2.2.2.2.1,(a.2.2.2.2.2.1,(a.2.2.2.2.2.2.1,(a.2.2.2.2.2.2.2.1,(a.2.2.2.2.2.2.2.2.1,(a.2.2.2.2.2.2.2.2.2.1,(a.2.2.2.2.2.2.2.2.2.2.1,(a.2.2.2.2.2.2.2.2.2.2.2.1,(a.2.2.2.2.2.2.2.2.2.2.2.2.1,(a.2.2.2.2.2.2.2.2.2.2.2.2.2.1,(a.2.2.2.2.2.2.2.2.2.2.2.2.2.2.1,(a.2.2.2.2.2.2.2.2.2.2.2.2.2.2.2,())))))))))))))),()) (K .normal)) (fun a=>Zb rG qG (a,()) () (K .ret)) (fun _=>none)
def si (n:Nat) {R:Type} (n0 i3 c197 c198 c199:Int) (c200:BA) (c201:Bool) (c202:Int) (c203:BA) (c204:Bool) (c205 c206:BA) (c207:(Sq U0)) (c208:(Sq BA)) (c209:Int) (c210:Bool) (kn:Int→Int→Int→Int→Int→BA→Bool→Int→BA→Bool→BA→BA→(Sq U0)→(Sq BA)→Int→Bool→Option R) (ko:U6→Option R) (kr:(Bool)→Option R) (kp:Int→Option R):Option R:=if (decide (i3<(c208.n:Int)))=true then (wi n n0 i3 c197 c198 c199 c200 c201 c202 c203 c204 c205 c206 c207 c208 c209 c210).bind fun x_1=>onL x_1 (fun a_2=>kn a_2.1 (IntKind.wrap .i64 (a_2.2.1+(1:Int))) a_2.2.2.1 a_2.2.2.2.1 a_2.2.2.2.2.1 a_2.2.2.2.2.2.1 a_2.2.2.2.2.2.2.1 a_2.2.2.2.2.2.2.2.1 a_2.2.2.2.2.2.2.2.2.1 a_2.2.2.2.2.2.2.2.2.2.1 a_2.2.2.2.2.2.2.2.2.2.2.1 a_2.2.2.2.2.2.2.2.2.2.2.2.1 a_2.2.2.2.2.2.2.2.2.2.2.2.2.1 a_2.2.2.2.2.2.2.2.2.2.2.2.2.2.1 a_2.2.2.2.2.2.2.2.2.2.2.2.2.2.2.1 a_2.2.2.2.2.2.2.2.2.2.2.2.2.2.2.2) (fun a_3=>kr a_3) (fun _=>none) else ko (n0,c197,c198,c199,c200,c201,c202,c203,c204,c205,c206,c207,c208,c209,c210)
def Db (n:Nat):Nat→Int→Int→Int→Int→Int→BA→Bool→Int→BA→Bool→BA→BA→(Sq U0)→(Sq BA)→Int→Bool→Option (Lx U6 (Bool))
 | 0,_,_,_,_,_,_,_,_,_,_,_,_,_,_,_,_=>none
 | m+1,n0,i3,c197,c198,c199,c200,c201,c202,c203,c204,c205,c206,c207,c208,c209,c210=>si n n0 i3 c197 c198 c199 c200 c201 c202 c203 c204 c205 c206 c207 c208 c209 c210 (Db n m) (fun a=>some (.out a)) (fun a=>some (.ret a)) (fun p=>some (.pan p))
theorem vV (n m:Nat) {S:Type}:∀ n0 i3 c197 c198 c199 c200 c201 c202 c203 c204 c205 c206 c207 c208 c209 c210 (φ:_→Option S),(Db n (m+1) n0 i3 c197 c198 c199 c200 c201 c202 c203 c204 c205 c206 c207 c208 c209 c210).bind φ=si n n0 i3 c197 c198 c199 c200 c201 c202 c203 c204 c205 c206 c207 c208 c209 c210 (fun n0 i3 c197 c198 c199 c200 c201 c202 c203 c204 c205 c206 c207 c208 c209 c210=>(Db n m n0 i3 c197 c198 c199 c200 c201 c202 c203 c204 c205 c206 c207 c208 c209 c210).bind φ) (fun a=>φ (.out a)) (fun a=>φ (.ret a)) (fun p=>φ (.pan p)):=by
  intros;first | (simp only [Db,si,ia,ba,iB,bB,oL,oX,nB,Option.bind_some]) | rfl
def Sp:List Sl:=.top::.ptr 0 0 0::.top::.top::.top::.dat (.int .i64)::.dat (.int .i64)::tp 192 []
def Rp:List RS:=[.box 29 14 true [.dat (.int .i64),.dat (.int .i64),.dat (.int .i64),.dat .str,.dat .bool,.dat (.int .i64),.dat .str,.dat .bool,.dat .str,.dat .str,.dat (.sl (.pair .str (.pair .str .unit))),.dat (.sl .str),.dat (.int .i64),.dat .bool]]
def BG:List Sl:=.top::.ptr 0 0 0::.top::.top::.top::.dat (.int .i64)::tp 193 []
def AG:List RS:=[.box 29 14 true [.dat (.int .i64),.dat (.int .i64),.dat (.int .i64),.dat .str,.dat .bool,.dat (.int .i64),.dat .str,.dat .bool,.dat .str,.dat .str,.dat (.sl (.pair .str (.pair .str .unit))),.dat (.sl .str),.dat (.int .i64),.dat .bool]]
def DG:List Sl:=.top::.top::.dat .bool::tp 196 []
def CG:List RS:=[]
def Nd (K:XE→List AV→oa→Option Out):Lx U6 (Bool)→Option Out:=fun x=>onL x (fun a=>Zb BG AG (a.1,()) ((a.2.1,(a.2.2.1,(a.2.2.2.1,(a.2.2.2.2.1,(a.2.2.2.2.2.1,(a.2.2.2.2.2.2.1,(a.2.2.2.2.2.2.2.1,(a.2.2.2.2.2.2.2.2.1,(a.2.2.2.2.2.2.2.2.2.1,(a.2.2.2.2.2.2.2.2.2.2.1,(a.2.2.2.2.2.2.2.2.2.2.2.1,(a.2.2.2.2.2.2.2.2.2.2.2.2.1,(a.2.2.2.2.2.2.2.2.2.2.2.2.2.1,(a.2.2.2.2.2.2.2.2.2.2.2.2.2.2,())))))))))))))),()) (K (.exit 3))) (fun a=>Zb DG CG (a,()) () (K .ret)) (fun _=>none)
def Lw (n:Nat) {R:Type} (c:T0) (k:Bool→Option R):Option R:=(ti n c.1 c.2.1 c.2.2.1 c.2.2.2.1.1 c.2.2.2.1.2.1 c.2.2.2.2.1 c.2.2.2.2.2.1 c.2.2.2.2.2.2.1 c.2.2.2.2.2.2.2.1.1 c.2.2.2.2.2.2.2.1.2.1 c.2.2.2.2.2.2.2.2.1 c.2.2.2.2.2.2.2.2.2.1 c.2.2.2.2.2.2.2.2.2.2.1 c.2.2.2.2.2.2.2.2.2.2.2.1).bind fun x_1=>onL x_1 (fun a_2=>if (decide ((a_2.2.2.2.2.2.2.1.size:Int)≤(200:Int)))=true then (Yi n a_2.2.2.2.2.2.2.1).bind fun v3=>(ve n v3 a_2.1 a_2.2.1 a_2.2.2.1 a_2.2.2.2.1 a_2.2.2.2.2.1 a_2.2.2.2.2.2.1 a_2.2.2.2.2.2.2.1 a_2.2.2.2.2.2.2.2.1 a_2.2.2.2.2.2.2.2.2.1 a_2.2.2.2.2.2.2.2.2.2.1 a_2.2.2.2.2.2.2.2.2.2.2.1 a_2.2.2.2.2.2.2.2.2.2.2.2.1 a_2.2.2.2.2.2.2.2.2.2.2.2.2.1 a_2.2.2.2.2.2.2.2.2.2.2.2.2.2).bind fun x_3=>onL x_3 (fun a_4=>(we n a_4.1 a_4.2.1 a_4.2.2.1 a_4.2.2.2.1 a_4.2.2.2.2.1 a_4.2.2.2.2.2.1 a_4.2.2.2.2.2.2.1 a_4.2.2.2.2.2.2.2.1 a_4.2.2.2.2.2.2.2.2.1 a_4.2.2.2.2.2.2.2.2.2.1 a_4.2.2.2.2.2.2.2.2.2.2.1 a_4.2.2.2.2.2.2.2.2.2.2.2.1 a_4.2.2.2.2.2.2.2.2.2.2.2.2.1 a_4.2.2.2.2.2.2.2.2.2.2.2.2.2).bind fun x_5=>onL x_5 (fun a_6=>(Cb n n (0:Int) a_6.1 a_6.2.1 a_6.2.2.1 a_6.2.2.2.1 a_6.2.2.2.2.1 a_6.2.2.2.2.2.1 a_6.2.2.2.2.2.2.1 a_6.2.2.2.2.2.2.2.1 a_6.2.2.2.2.2.2.2.2.1 a_6.2.2.2.2.2.2.2.2.2.1 a_6.2.2.2.2.2.2.2.2.2.2.1 a_6.2.2.2.2.2.2.2.2.2.2.2.1 a_6.2.2.2.2.2.2.2.2.2.2.2.2.1 a_6.2.2.2.2.2.2.2.2.2.2.2.2.2).bind fun x_7=>onL x_7 (fun a_8=>(xe n a_8.1 a_8.2.1 a_8.2.2.1 a_8.2.2.2.1 a_8.2.2.2.2.1 a_8.2.2.2.2.2.1 a_8.2.2.2.2.2.2.1 a_8.2.2.2.2.2.2.2.1 a_8.2.2.2.2.2.2.2.2.1 a_8.2.2.2.2.2.2.2.2.2.1 a_8.2.2.2.2.2.2.2.2.2.2.1 a_8.2.2.2.2.2.2.2.2.2.2.2.1 a_8.2.2.2.2.2.2.2.2.2.2.2.2.1 a_8.2.2.2.2.2.2.2.2.2.2.2.2.2).bind fun x_9=>onL x_9
 (fun a_10=>(Db n n (0:Int) (0:Int) a_10.1 a_10.2.1 a_10.2.2.1 a_10.2.2.2.1 a_10.2.2.2.2.1 a_10.2.2.2.2.2.1 a_10.2.2.2.2.2.2.1 a_10.2.2.2.2.2.2.2.1 a_10.2.2.2.2.2.2.2.2.1 a_10.2.2.2.2.2.2.2.2.2.1 a_10.2.2.2.2.2.2.2.2.2.2.1 a_10.2.2.2.2.2.2.2.2.2.2.2.1 a_10.2.2.2.2.2.2.2.2.2.2.2.2.1 a_10.2.2.2.2.2.2.2.2.2.2.2.2.2).bind fun x_11=>onL x_11 (fun a_12=>k (a_12.2.2.2.2.2.2.2.2.2.2.2.2.2.1==a_12.1)) (fun a_13=>k a_13) (fun _=>none)) (fun a_14=>k a_14) (fun _=>none)) (fun a_15=>k a_15) (fun _=>none)) (fun a_16=>k a_16) (fun _=>none)) (fun a_17=>k a_17) (fun _=>none) else (ve n false a_2.1 a_2.2.1 a_2.2.2.1 a_2.2.2.2.1 a_2.2.2.2.2.1 a_2.2.2.2.2.2.1 a_2.2.2.2.2.2.2.1 a_2.2.2.2.2.2.2.2.1 a_2.2.2.2.2.2.2.2.2.1 a_2.2.2.2.2.2.2.2.2.2.1 a_2.2.2.2.2.2.2.2.2.2.2.1 a_2.2.2.2.2.2.2.2.2.2.2.2.1 a_2.2.2.2.2.2.2.2.2.2.2.2.2.1 a_2.2.2.2.2.2.2.2.2.2.2.2.2.2).bind fun x_18=>onL x_18 (fun a_19=>(we n a_19.1 a_19.2.1 a_19.2.2.1 a_19.2.2.2.1 a_19.2.2.2.2.1 a_19.2.2.2.2.2.1 a_19.2.2.2.2.2.2.1 a_19.2.2.2.2.2.2.2.1 a_19.2.2.2.2.2.2.2.2.1 a_19.2.2.2.2.2.2.2.2.2.1 a_19.2.2.2.2.2.2.2.2.2.2.1 a_19.2.2.2.2.2.2.2.2.2.2.2.1 a_19.2.2.2.2.2.2.2.2.2.2.2.2.1 a_19.2.2.2.2.2.2.2.2.2.2.2.2.2).bind fun x_20=>onL x_20 (fun a_21=>(Cb n n (0:Int) a_21.1 a_21.2.1 a_21.2.2.1 a_21.2.2.2.1 a_21.2.2.2.2.1 a_21.2.2.2.2.2.1 a_21.2.2.2.2.2.2.1 a_21.2.2.2.2.2.2.2.1 a_21.2.2.2.2.2.2.2.2.1 a_21.2.2.2.2.2.2.2.2.2.1 a_21.2.2.2.2.2.2.2.2.2.2.1 a_21.2.2.2.2.2.2.2.2.2.2.2.1 a_21.2.2.2.2.2.2.2.2.2.2.2.2.1 a_21.2.2.2.2.2.2.2.2.2.2.2.2.2).bind fun x_22=>onL x_22
 (fun a_23=>(xe n a_23.1 a_23.2.1 a_23.2.2.1 a_23.2.2.2.1 a_23.2.2.2.2.1 a_23.2.2.2.2.2.1 a_23.2.2.2.2.2.2.1 a_23.2.2.2.2.2.2.2.1 a_23.2.2.2.2.2.2.2.2.1 a_23.2.2.2.2.2.2.2.2.2.1 a_23.2.2.2.2.2.2.2.2.2.2.1 a_23.2.2.2.2.2.2.2.2.2.2.2.1 a_23.2.2.2.2.2.2.2.2.2.2.2.2.1 a_23.2.2.2.2.2.2.2.2.2.2.2.2.2).bind fun x_24=>onL x_24 (fun a_25=>(Db n n (0:Int) (0:Int) a_25.1 a_25.2.1 a_25.2.2.1 a_25.2.2.2.1 a_25.2.2.2.2.1 a_25.2.2.2.2.2.1 a_25.2.2.2.2.2.2.1 a_25.2.2.2.2.2.2.2.1 a_25.2.2.2.2.2.2.2.2.1 a_25.2.2.2.2.2.2.2.2.2.1 a_25.2.2.2.2.2.2.2.2.2.2.1 a_25.2.2.2.2.2.2.2.2.2.2.2.1 a_25.2.2.2.2.2.2.2.2.2.2.2.2.1 a_25.2.2.2.2.2.2.2.2.2.2.2.2.2).bind fun x_26=>onL x_26 (fun a_27=>k (a_27.2.2.2.2.2.2.2.2.2.2.2.2.2.1==a_27.1)) (fun a_28=>k a_28) (fun _=>none)) (fun a_29=>k a_29) (fun _=>none)) (fun a_30=>k a_30) (fun _=>none)) (fun a_31=>k a_31) (fun _=>none)) (fun a_32=>k a_32) (fun _=>none)) (fun a_33=>k a_33) (fun _=>none)
def Pl (n:Nat) (c:T0):Option Bool:=Lw n c some
theorem M8 (n:Nat) {S:Type}:∀ c (φ:_→Option S),(Pl n c).bind φ=Lw n c φ:=by
  intros;unfold Pl Lw;first | (simp only [ia,ba,iB,bB,oL,oX,nB,Option.bind_some]) | rfl
def Sa (n:Nat):Hint Out:={ live:=fun c=>(cond (Nat.beq c 3) (lv [1,5,6]) (cond (Nat.beq c 1) [(1,none),(4,none)] [])),run:=fun c=>(cond (Nat.beq c 3) (some (Qf Sp Rp fun σ ρ K=>(Db n n σ.1 σ.2.1 ρ.1.1 ρ.1.2.1 ρ.1.2.2.1 ρ.1.2.2.2.1 ρ.1.2.2.2.2.1 ρ.1.2.2.2.2.2.1 ρ.1.2.2.2.2.2.2.1 ρ.1.2.2.2.2.2.2.2.1 ρ.1.2.2.2.2.2.2.2.2.1 ρ.1.2.2.2.2.2.2.2.2.2.1 ρ.1.2.2.2.2.2.2.2.2.2.2.1 ρ.1.2.2.2.2.2.2.2.2.2.2.2.1 ρ.1.2.2.2.2.2.2.2.2.2.2.2.2.1 ρ.1.2.2.2.2.2.2.2.2.2.2.2.2.2.1).bind (Nd K))) (cond (Nat.beq c 1) (some (Qf Qp Pp fun σ ρ K=>(Cb n n σ.1 ρ.1.1 ρ.1.2.1 ρ.1.2.2.1 ρ.1.2.2.2.1 ρ.1.2.2.2.2.1 ρ.1.2.2.2.2.2.1 ρ.1.2.2.2.2.2.2.1 ρ.1.2.2.2.2.2.2.2.1 ρ.1.2.2.2.2.2.2.2.2.1 ρ.1.2.2.2.2.2.2.2.2.2.1 ρ.1.2.2.2.2.2.2.2.2.2.2.1 ρ.1.2.2.2.2.2.2.2.2.2.2.2.1 ρ.1.2.2.2.2.2.2.2.2.2.2.2.2.1 ρ.1.2.2.2.2.2.2.2.2.2.2.2.2.2.1).bind (Md K))) none)),xm:=fun c q=>(cond (Nat.beq c 3&&Nat.beq (q.getD 1000000) 3&&q.isSome) (some [(1,none),(5,none)]) (cond (Nat.beq c 4&&q.isNone) (some [(2,none)]) (cond (Nat.beq c 1&&Nat.beq (q.getD 1000000) 1&&q.isSome) (some [(1,none)]) (cond (Nat.beq c 2&&q.isNone) (some [(2,none)]) (cond (Nat.beq c 0&&q.isNone) (some [(2,none)]) none))))),jn:=fun c=>(cond (Nat.beq c 31) (some (Qf xA wA fun σ ρ K=>(wi n σ.1 σ.2.1 ρ.1.1 ρ.1.2.1 ρ.1.2.2.1 ρ.1.2.2.2.1 ρ.1.2.2.2.2.1 ρ.1.2.2.2.2.2.1 ρ.1.2.2.2.2.2.2.1 ρ.1.2.2.2.2.2.2.2.1 ρ.1.2.2.2.2.2.2.2.2.1 ρ.1.2.2.2.2.2.2.2.2.2.1 ρ.1.2.2.2.2.2.2.2.2.2.2.1 ρ.1.2.2.2.2.2.2.2.2.2.2.2.1 ρ.1.2.2.2.2.2.2.2.2.2.2.2.2.1 ρ.1.2.2.2.2.2.2.2.2.2.2.2.2.2.1).bind (DE K))) (cond (Nat.beq c 34) (some (Qf AA yA fun σ ρ K=>(xi n σ.1 σ.2.1 ρ.1.1 ρ.1.2.1 ρ.1.2.2.1 ρ.1.2.2.2.1 ρ.1.2.2.2.2.1 ρ.1.2.2.2.2.2.1 ρ.1.2.2.2.2.2.2.1 ρ.1.2.2.2.2.2.2.2.1 ρ.1.2.2.2.2.2.2.2.2.1 ρ.1.2.2.2.2.2.2.2.2.2.1 ρ.1.2.2.2.2.2.2.2.2.2.2.1 ρ.1.2.2.2.2.2.2.2.2.2.2.2.1 ρ.1.2.2.2.2.2.2.2.2.2.2.2.2.1 ρ.1.2.2.2.2.2.2.2.2.2.2.2.2.2.1).bind (EE K))) (cond (Nat.beq c 28) (some (Qf vA uA fun σ ρ K=>(xe n ρ.1.1 ρ.1.2.1 ρ.1.2.2.1 ρ.1.2.2.2.1 ρ.1.2.2.2.2.1 ρ.1.2.2.2.2.2.1 ρ.1.2.2.2.2.2.2.1 ρ.1.2.2.2.2.2.2.2.1 ρ.1.2.2.2.2.2.2.2.2.1 ρ.1.2.2.2.2.2.2.2.2.2.1 ρ.1.2.2.2.2.2.2.2.2.2.2.1 ρ.1.2.2.2.2.2.2.2.2.2.2.2.1 ρ.1.2.2.2.2.2.2.2.2.2.2.2.2.1 ρ.1.2.2.2.2.2.2.2.2.2.2.2.2.2.1).bind (BE K))) (cond (Nat.beq c 23) (some (Qf tA sA fun σ ρ K=>(vi n σ.1 ρ.1.1 ρ.1.2.1 ρ.1.2.2.1 ρ.1.2.2.2.1 ρ.1.2.2.2.2.1 ρ.1.2.2.2.2.2.1 ρ.1.2.2.2.2.2.2.1 ρ.1.2.2.2.2.2.2.2.1 ρ.1.2.2.2.2.2.2.2.2.1 ρ.1.2.2.2.2.2.2.2.2.2.1 ρ.1.2.2.2.2.2.2.2.2.2.2.1 ρ.1.2.2.2.2.2.2.2.2.2.2.2.1 ρ.1.2.2.2.2.2.2.2.2.2.2.2.2.1 ρ.1.2.2.2.2.2.2.2.2.2.2.2.2.2.1).bind (AE K))) (cond (Nat.beq c 21) (some (Qf pA oA fun σ ρ K=>(we n ρ.1.1 ρ.1.2.1 ρ.1.2.2.1 ρ.1.2.2.2.1 ρ.1.2.2.2.2.1 ρ.1.2.2.2.2.2.1 ρ.1.2.2.2.2.2.2.1 ρ.1.2.2.2.2.2.2.2.1 ρ.1.2.2.2.2.2.2.2.2.1 ρ.1.2.2.2.2.2.2.2.2.2.1 ρ.1.2.2.2.2.2.2.2.2.2.2.1 ρ.1.2.2.2.2.2.2.2.2.2.2.2.1 ρ.1.2.2.2.2.2.2.2.2.2.2.2.2.1 ρ.1.2.2.2.2.2.2.2.2.2.2.2.2.2.1).bind (yE K))) (cond (Nat.beq c 17) (some (Qf rA qA fun σ ρ K=>(ui n ρ.1.1 ρ.1.2.1 ρ.1.2.2.1 ρ.1.2.2.2.1 ρ.1.2.2.2.2.1 ρ.1.2.2.2.2.2.1 ρ.1.2.2.2.2.2.2.1 ρ.1.2.2.2.2.2.2.2.1 ρ.1.2.2.2.2.2.2.2.2.1 ρ.1.2.2.2.2.2.2.2.2.2.1 ρ.1.2.2.2.2.2.2.2.2.2.2.1 ρ.1.2.2.2.2.2.2.2.2.2.2.2.1 ρ.1.2.2.2.2.2.2.2.2.2.2.2.2.1 ρ.1.2.2.2.2.2.2.2.2.2.2.2.2.2.1).bind (zE K))) (cond (Nat.beq c 14) (some (Qf nA mA fun σ ρ K=>(ve n σ.1 ρ.1.1 ρ.1.2.1 ρ.1.2.2.1 ρ.1.2.2.2.1 ρ.1.2.2.2.2.1 ρ.1.2.2.2.2.2.1 ρ.1.2.2.2.2.2.2.1 ρ.1.2.2.2.2.2.2.2.1 ρ.1.2.2.2.2.2.2.2.2.1 ρ.1.2.2.2.2.2.2.2.2.2.1 ρ.1.2.2.2.2.2.2.2.2.2.2.1 ρ.1.2.2.2.2.2.2.2.2.2.2.2.1 ρ.1.2.2.2.2.2.2.2.2.2.2.2.2.1 ρ.1.2.2.2.2.2.2.2.2.2.2.2.2.2.1).bind (xE K))) (cond (Nat.beq c 4) (some (Qf lA kA fun σ ρ K=>(ti n ρ.1.1 ρ.1.2.1 ρ.1.2.2.1 ρ.1.2.2.2.1 ρ.1.2.2.2.2.1 ρ.1.2.2.2.2.2.1 ρ.1.2.2.2.2.2.2.1 ρ.1.2.2.2.2.2.2.2.1 ρ.1.2.2.2.2.2.2.2.2.1 ρ.1.2.2.2.2.2.2.2.2.2.1 ρ.1.2.2.2.2.2.2.2.2.2.2.1 ρ.1.2.2.2.2.2.2.2.2.2.2.2.1 ρ.1.2.2.2.2.2.2.2.2.2.2.2.2.1 ρ.1.2.2.2.2.2.2.2.2.2.2.2.2.2.1).bind (wE K))) none)))))))),jl:=fun c=>(cond (Nat.beq c 31) (lv [1,5,6]) (cond (Nat.beq c 34) (lv [1,5,6]) (cond (Nat.beq c 28) [(1,none)] (cond (Nat.beq c 23) [(1,none),(4,none)] (cond (Nat.beq c 21) [(1,none)] (cond (Nat.beq c 17) [(1,none)] (cond (Nat.beq c 14) [(1,none),(3,none)] (cond (Nat.beq c 4) [(1,none)] [])))))))),jo:=fun c=>(cond (Nat.beq c 31) (lv [1,5,6]) (cond (Nat.beq c 34) (lv [1,5,6]) (cond (Nat.beq c 28) [(1,none)] (cond (Nat.beq c 23) [(1,none),(4,none)] (cond (Nat.beq c 21) [(1,none)] (cond (Nat.beq c 17) [(1,none)] (cond (Nat.beq c 14) [(1,none)] (cond (Nat.beq c 4) [(1,none)] [])))))))) }
theorem uS (n:Nat):gX tys (ja Out (wb n)) (Sa n) n (ta [1,0] (fa Tryz.f16)) 0 4:=cg (sp:=lA) (rp:=kA) (by kernel_rfl) fun K σ ρ=>Eq.trans (by kernel_rfl) (mP n ρ.1.1 ρ.1.2.1 ρ.1.2.2.1 ρ.1.2.2.2.1 ρ.1.2.2.2.2.1 ρ.1.2.2.2.2.2.1 ρ.1.2.2.2.2.2.2.1 ρ.1.2.2.2.2.2.2.2.1 ρ.1.2.2.2.2.2.2.2.2.1 ρ.1.2.2.2.2.2.2.2.2.2.1 ρ.1.2.2.2.2.2.2.2.2.2.2.1 ρ.1.2.2.2.2.2.2.2.2.2.2.2.1 ρ.1.2.2.2.2.2.2.2.2.2.2.2.2.1 ρ.1.2.2.2.2.2.2.2.2.2.2.2.2.2.1 (wE K)).symm
theorem vS (n:Nat):gX tys (ja Out (wb n)) (Sa n) n (ta [1,1,1,0] (fa Tryz.f16)) 0 14:=cg (sp:=nA) (rp:=mA) (by kernel_rfl) fun K σ ρ=>Eq.trans (by kernel_rfl) (nP n σ.1 ρ.1.1 ρ.1.2.1 ρ.1.2.2.1 ρ.1.2.2.2.1 ρ.1.2.2.2.2.1 ρ.1.2.2.2.2.2.1 ρ.1.2.2.2.2.2.2.1 ρ.1.2.2.2.2.2.2.2.1 ρ.1.2.2.2.2.2.2.2.2.1 ρ.1.2.2.2.2.2.2.2.2.2.1 ρ.1.2.2.2.2.2.2.2.2.2.2.1 ρ.1.2.2.2.2.2.2.2.2.2.2.2.1 ρ.1.2.2.2.2.2.2.2.2.2.2.2.2.1 ρ.1.2.2.2.2.2.2.2.2.2.2.2.2.2.1 (xE K)).symm
theorem xS (n:Nat):gX tys (ja Out (wb n)) (Sa n) n (ta [1,1,1,1,0,1,0,0] (fa Tryz.f16)) 0 17:=cg (sp:=rA) (rp:=qA) (by kernel_rfl) fun K σ ρ=>Eq.trans (by kernel_rfl) (pP n ρ.1.1 ρ.1.2.1 ρ.1.2.2.1 ρ.1.2.2.2.1 ρ.1.2.2.2.2.1 ρ.1.2.2.2.2.2.1 ρ.1.2.2.2.2.2.2.1 ρ.1.2.2.2.2.2.2.2.1 ρ.1.2.2.2.2.2.2.2.2.1 ρ.1.2.2.2.2.2.2.2.2.2.1 ρ.1.2.2.2.2.2.2.2.2.2.2.1 ρ.1.2.2.2.2.2.2.2.2.2.2.2.1 ρ.1.2.2.2.2.2.2.2.2.2.2.2.2.1 ρ.1.2.2.2.2.2.2.2.2.2.2.2.2.2.1 (zE K)).symm
theorem wS (n:Nat):gX tys (ja Out (wb n)) (Sa n) n (ta [1,1,1,1,0] (fa Tryz.f16)) 0 21:=cg (sp:=pA) (rp:=oA) (by kernel_rfl) fun K σ ρ=>Eq.trans (by kernel_rfl) (oP n ρ.1.1 ρ.1.2.1 ρ.1.2.2.1 ρ.1.2.2.2.1 ρ.1.2.2.2.2.1 ρ.1.2.2.2.2.2.1 ρ.1.2.2.2.2.2.2.1 ρ.1.2.2.2.2.2.2.2.1 ρ.1.2.2.2.2.2.2.2.2.1 ρ.1.2.2.2.2.2.2.2.2.2.1 ρ.1.2.2.2.2.2.2.2.2.2.2.1 ρ.1.2.2.2.2.2.2.2.2.2.2.2.1 ρ.1.2.2.2.2.2.2.2.2.2.2.2.2.1 ρ.1.2.2.2.2.2.2.2.2.2.2.2.2.2.1 (yE K)).symm
theorem yS (n:Nat):gX tys (ja Out (wb n)) (Sa n) n (ta [1,1,1,1,1,0,1,0,0,1,0] (fa Tryz.f16)) 1 23:=cg (sp:=tA) (rp:=sA) (by kernel_rfl) fun K σ ρ=>Eq.trans (by kernel_rfl) (qP n σ.1 ρ.1.1 ρ.1.2.1 ρ.1.2.2.1 ρ.1.2.2.2.1 ρ.1.2.2.2.2.1 ρ.1.2.2.2.2.2.1 ρ.1.2.2.2.2.2.2.1 ρ.1.2.2.2.2.2.2.2.1 ρ.1.2.2.2.2.2.2.2.2.1 ρ.1.2.2.2.2.2.2.2.2.2.1 ρ.1.2.2.2.2.2.2.2.2.2.2.1 ρ.1.2.2.2.2.2.2.2.2.2.2.2.1 ρ.1.2.2.2.2.2.2.2.2.2.2.2.2.1 ρ.1.2.2.2.2.2.2.2.2.2.2.2.2.2.1 (AE K)).symm
def ql (n:Nat) (K:XE→List AV→oa→Option Out) (m:Nat) (i:Int) (c113:Int) (c114:Int) (c115:Int) (c116:BA) (c117:Bool) (c118:Int) (c119:BA) (c120:Bool) (c121:BA) (c122:BA) (c123:(Sq U0)) (c124:(Sq BA)) (c125:Int) (c126:Bool):Option Out:=Dc tys (ja Out (wb n)) (Sa n) n (ta [1,1,1,1,1,0,1,0,0] (fa Tryz.f16)) 1 Qp Pp K m (i,()) ((c113,(c114,(c115,(c116,(c117,(c118,(c119,(c120,(c121,(c122,(c123,(c124,(c125,(c126,())))))))))))))),())
theorem FE (n:Nat) (K:XE→List AV→oa→Option Out):∀ (m:Nat) i c113 c114 c115 c116 c117 c118 c119 c120 c121 c122 c123 c124 c125 c126,ql n K m i c113 c114 c115 c116 c117 c118 c119 c120 c121 c122 c123 c124 c125 c126=(Cb n m i c113 c114 c115 c116 c117 c118 c119 c120 c121 c122 c123 c124 c125 c126).bind (Md K)
  | 0,_,_,_,_,_,_,_,_,_,_,_,_,_,_,_=>by kernel_rfl
  | m+1,i,c113,c114,c115,c116,c117,c118,c119,c120,c121,c122,c123,c124,c125,c126=>by
    have h1:ql n K (m+1) i c113 c114 c115 c116 c117 c118 c119 c120 c121 c122 c123 c124 c125 c126=ri n i c113 c114 c115 c116 c117 c118 c119 c120 c121 c122 c123 c124 c125 c126 (ql n K m) (fun a=>Md K (.out a)) (fun a=>Md K (.ret a)) (fun p=>Md K (.pan p)):=by kernel_rfl
    have h2:ql n K m=fun i c113 c114 c115 c116 c117 c118 c119 c120 c121 c122 c123 c124 c125 c126=>(Cb n m i c113 c114 c115 c116 c117 c118 c119 c120 c121 c122 c123 c124 c125 c126).bind (Md K):=by
      repeat (refine funext fun _=>?_)
      exact FE n K m _ _ _ _ _ _ _ _ _ _ _ _ _ _ _
    rw [h1,h2];exact (uV n m _ _ _ _ _ _ _ _ _ _ _ _ _ _ _ (Md K)).symm
theorem CS (n:Nat):ec tys (ja Out (wb n)) (Sa n) n (ta [1,1,1,1,1,0,1,0,0] (fa Tryz.f16)) 1:=Ba (sp:=Qp) (rp:=Pp) (by kernel_rfl) fun K σ ρ=>FE n K n σ.1 ρ.1.1 ρ.1.2.1 ρ.1.2.2.1 ρ.1.2.2.2.1 ρ.1.2.2.2.2.1 ρ.1.2.2.2.2.2.1 ρ.1.2.2.2.2.2.2.1 ρ.1.2.2.2.2.2.2.2.1 ρ.1.2.2.2.2.2.2.2.2.1 ρ.1.2.2.2.2.2.2.2.2.2.1 ρ.1.2.2.2.2.2.2.2.2.2.2.1 ρ.1.2.2.2.2.2.2.2.2.2.2.2.1 ρ.1.2.2.2.2.2.2.2.2.2.2.2.2.1 ρ.1.2.2.2.2.2.2.2.2.2.2.2.2.2.1
theorem zS (n:Nat):gX tys (ja Out (wb n)) (Sa n) n (ta [1,1,1,1,1,1,0] (fa Tryz.f16)) 0 28:=cg (sp:=vA) (rp:=uA) (by kernel_rfl) fun K σ ρ=>Eq.trans (by kernel_rfl) (rP n ρ.1.1 ρ.1.2.1 ρ.1.2.2.1 ρ.1.2.2.2.1 ρ.1.2.2.2.2.1 ρ.1.2.2.2.2.2.1 ρ.1.2.2.2.2.2.2.1 ρ.1.2.2.2.2.2.2.2.1 ρ.1.2.2.2.2.2.2.2.2.1 ρ.1.2.2.2.2.2.2.2.2.2.1 ρ.1.2.2.2.2.2.2.2.2.2.2.1 ρ.1.2.2.2.2.2.2.2.2.2.2.2.1 ρ.1.2.2.2.2.2.2.2.2.2.2.2.2.1 ρ.1.2.2.2.2.2.2.2.2.2.2.2.2.2.1 (BE K)).symm
theorem BS (n:Nat):gX tys (ja Out (wb n)) (Sa n) n (ta [1,1,1,1,1,1,1,1,0,1,0,0,1,0,0,0] (fa Tryz.f16)) 4 34:=cg (sp:=AA) (rp:=yA) (by kernel_rfl) fun K σ ρ=>Eq.trans (by kernel_rfl) (tP n σ.1 σ.2.1 ρ.1.1 ρ.1.2.1 ρ.1.2.2.1 ρ.1.2.2.2.1 ρ.1.2.2.2.2.1 ρ.1.2.2.2.2.2.1 ρ.1.2.2.2.2.2.2.1 ρ.1.2.2.2.2.2.2.2.1 ρ.1.2.2.2.2.2.2.2.2.1 ρ.1.2.2.2.2.2.2.2.2.2.1 ρ.1.2.2.2.2.2.2.2.2.2.2.1 ρ.1.2.2.2.2.2.2.2.2.2.2.2.1 ρ.1.2.2.2.2.2.2.2.2.2.2.2.2.1 ρ.1.2.2.2.2.2.2.2.2.2.2.2.2.2.1 (EE K)).symm
theorem AS (n:Nat):gX tys (ja Out (wb n)) (Sa n) n (ta [1,1,1,1,1,1,1,1,0,1,0,0,1,0] (fa Tryz.f16)) 3 31:=cg (sp:=xA) (rp:=wA) (by kernel_rfl) fun K σ ρ=>Eq.trans (by kernel_rfl) (sP n σ.1 σ.2.1 ρ.1.1 ρ.1.2.1 ρ.1.2.2.1 ρ.1.2.2.2.1 ρ.1.2.2.2.2.1 ρ.1.2.2.2.2.2.1 ρ.1.2.2.2.2.2.2.1 ρ.1.2.2.2.2.2.2.2.1 ρ.1.2.2.2.2.2.2.2.2.1 ρ.1.2.2.2.2.2.2.2.2.2.1 ρ.1.2.2.2.2.2.2.2.2.2.2.1 ρ.1.2.2.2.2.2.2.2.2.2.2.2.1 ρ.1.2.2.2.2.2.2.2.2.2.2.2.2.1 ρ.1.2.2.2.2.2.2.2.2.2.2.2.2.2.1 (DE K)).symm
def rl (n:Nat) (K:XE→List AV→oa→Option Out) (m:Nat) (n0:Int) (i3:Int) (c197:Int) (c198:Int) (c199:Int) (c200:BA) (c201:Bool) (c202:Int) (c203:BA) (c204:Bool) (c205:BA) (c206:BA) (c207:(Sq U0)) (c208:(Sq BA)) (c209:Int) (c210:Bool):Option Out:=Dc tys (ja Out (wb n)) (Sa n) n (ta [1,1,1,1,1,1,1,1,0,1,0,0] (fa Tryz.f16)) 3 Sp Rp K m (n0,(i3,())) ((c197,(c198,(c199,(c200,(c201,(c202,(c203,(c204,(c205,(c206,(c207,(c208,(c209,(c210,())))))))))))))),())
theorem GE (n:Nat) (K:XE→List AV→oa→Option Out):∀ (m:Nat) n0 i3 c197 c198 c199 c200 c201 c202 c203 c204 c205 c206 c207 c208 c209 c210,rl n K m n0 i3 c197 c198 c199 c200 c201 c202 c203 c204 c205 c206 c207 c208 c209 c210=(Db n m n0 i3 c197 c198 c199 c200 c201 c202 c203 c204 c205 c206 c207 c208 c209 c210).bind (Nd K)
  | 0,_,_,_,_,_,_,_,_,_,_,_,_,_,_,_,_=>by kernel_rfl
  | m+1,n0,i3,c197,c198,c199,c200,c201,c202,c203,c204,c205,c206,c207,c208,c209,c210=>by
    have h1:rl n K (m+1) n0 i3 c197 c198 c199 c200 c201 c202 c203 c204 c205 c206 c207 c208 c209 c210=si n n0 i3 c197 c198 c199 c200 c201 c202 c203 c204 c205 c206 c207 c208 c209 c210 (rl n K m) (fun a=>Nd K (.out a)) (fun a=>Nd K (.ret a)) (fun p=>Nd K (.pan p)):=by kernel_rfl
    have h2:rl n K m=fun n0 i3 c197 c198 c199 c200 c201 c202 c203 c204 c205 c206 c207 c208 c209 c210=>(Db n m n0 i3 c197 c198 c199 c200 c201 c202 c203 c204 c205 c206 c207 c208 c209 c210).bind (Nd K):=by
      repeat (refine funext fun _=>?_)
      exact GE n K m _ _ _ _ _ _ _ _ _ _ _ _ _ _ _ _
    rw [h1,h2];exact (vV n m _ _ _ _ _ _ _ _ _ _ _ _ _ _ _ _ (Nd K)).symm
theorem DS (n:Nat):ec tys (ja Out (wb n)) (Sa n) n (ta [1,1,1,1,1,1,1,1,0,1,0,0] (fa Tryz.f16)) 3:=Ba (sp:=Sp) (rp:=Rp) (by kernel_rfl) fun K σ ρ=>GE n K n σ.1 σ.2.1 ρ.1.1 ρ.1.2.1 ρ.1.2.2.1 ρ.1.2.2.2.1 ρ.1.2.2.2.2.1 ρ.1.2.2.2.2.2.1 ρ.1.2.2.2.2.2.2.1 ρ.1.2.2.2.2.2.2.2.1 ρ.1.2.2.2.2.2.2.2.2.1 ρ.1.2.2.2.2.2.2.2.2.2.1 ρ.1.2.2.2.2.2.2.2.2.2.2.1 ρ.1.2.2.2.2.2.2.2.2.2.2.2.1 ρ.1.2.2.2.2.2.2.2.2.2.2.2.2.1 ρ.1.2.2.2.2.2.2.2.2.2.2.2.2.2.1
theorem wV (n:Nat):qa tys (ja Out (wb n)) (Sa n) n (fa Tryz.f16) 0:=⟨aa,⟨⟨⟨aa,⟨⟨aa,aa⟩,aa⟩⟩,⟨aa,⟨⟨⟨aa,⟨aa,⟨⟨aa,⟨⟨aa,aa⟩,aa⟩⟩,⟨aa,⟨⟨aa,⟨⟨aa,aa⟩,aa⟩⟩,⟨aa,⟨⟨aa,aa⟩,aa⟩⟩⟩⟩⟩⟩⟩,⟨⟨⟨aa,⟨⟨⟨⟨aa,⟨⟨aa,aa⟩,aa⟩⟩,⟨aa,⟨⟨aa,aa⟩,aa⟩⟩⟩,xS n⟩,⟨aa,⟨⟨aa,aa⟩,aa⟩⟩⟩⟩,⟨⟨aa,⟨CS n,⟨⟨aa,⟨aa,aa⟩⟩,⟨⟨⟨aa,⟨⟨aa,aa⟩,aa⟩⟩,aa⟩,yS n⟩⟩⟩⟩,⟨⟨⟨aa,⟨⟨aa,aa⟩,aa⟩⟩,⟨aa,⟨⟨aa,⟨DS n,⟨⟨aa,⟨aa,aa⟩⟩,⟨⟨⟨⟨⟨aa,⟨⟨aa,aa⟩,aa⟩⟩,⟨aa,⟨aa,⟨⟨aa,aa⟩,aa⟩⟩⟩⟩,BS n⟩,aa⟩,AS n⟩⟩⟩⟩,⟨aa,aa⟩⟩⟩⟩,zS n⟩⟩⟩,wS n⟩⟩,vS n⟩⟩⟩,uS n⟩⟩
theorem JY (n:Nat):Enters Tryz.prog 16:=enters_of (c:=fa Tryz.f16) Tryz.func16 (by kernel_rfl) (by kernel_rfl)
def mO (n:Nat):Entry:=⟨16,pcT K1 (.one .bool) (fun xs=>Pl n xs.1),none,none⟩
theorem B4 (n:Nat):EntryOk Tryz.prog gl (mO n):=ya (JY n) fun xs y h=>ma tys_ok (uE n) mixed (hint:=Sa n) (n:=n) Tryz.func16 (za (wV n)) (la (φ:=(fun y=>some (Out.ret (ib (.one .bool) y)))) (by kernel_rfl) (M8 n xs.1 _) h)
def CA (n:Nat):List Entry:=mO n::wb n
theorem DA (n:Nat):AllOk Tryz.prog gl (CA n):=.cons (B4 n) (uE n)
def eC (n:Nat) {R:Type} (n0 least most:Int) (k:Bool→Option R):Option R:=if (decide (n0≥least))=true then k (decide (n0≤most)) else k false
def In (n:Nat) (n0 least most:Int):Option Bool:=eC n n0 least most some
theorem dcb (n:Nat) {S:Type}:∀ n0 least most (φ:_→Option S),(In n n0 least most).bind φ=eC n n0 least most φ:=by
  intros;unfold In eC;first | (simp only [ia,ba,iB,bB,oL,oX,nB,Option.bind_some]) | rfl
def EI (n:Nat):Hint Out:={ live:=fun c=>[],run:=fun c=>none,xm:=fun c q=>none }
theorem aY (n:Nat):qa tys (ja Out (CA n)) (EI n) n (fa Tryz.f63) 0:=na (fun _=>rfl) _ _ (by kernel_rfl)
theorem G2 (n:Nat):Enters Tryz.prog 63:=enters_of (c:=fa Tryz.f63) Tryz.func63 (by kernel_rfl) (by kernel_rfl)
def FR (n:Nat):Entry:=⟨63,pcT (.pair (.int .i64) (.pair (.int .i64) (.pair (.int .i64) .unit))) (.one .bool) (fun xs=>In n xs.1 xs.2.1 xs.2.2.1),none,none⟩
theorem N7 (n:Nat):EntryOk Tryz.prog gl (FR n):=ya (G2 n) fun xs y h=>ma tys_ok (DA n) mixed (hint:=EI n) (n:=n) Tryz.func63 (za (aY n)) (la (φ:=(fun y=>some (Out.ret (ib (.one .bool) y)))) (by kernel_rfl) (dcb n xs.1 xs.2.1 xs.2.2.1 _) h)
def GR (n:Nat):List Entry:=FR n::CA n
theorem WU (n:Nat):AllOk Tryz.prog gl (GR n):=.cons (N7 n) (DA n)
def Ut (n:Nat):List Entry:=⟨89,pcT (.pair .str (.pair .str .unit)) (.one .bool) (fun xs=>Iu xs.1 xs.2.1),none,none⟩::GR n
theorem Lv (n:Nat):AllOk Tryz.prog gl (Ut n):=.cons P7 (WU n)
def Bw (n:Nat) {R:Type} (f:U10) (k:Bool→Option R):Option R:=if f.2.1=true then if (f.1.toList==(⟨#[]⟩:BA).toList)=false then k (f.1.toList==(⟨#[13]⟩:BA).toList) else k true else if (decide ((f.1.size:Int)<(512:Int)))=true then (Iu f.1 (⟨#[13,10]⟩:BA)).bind fun v=>k (!v) else k false
def Ju (n:Nat) (f:U10):Option Bool:=Bw n f some
theorem Z7 (n:Nat) {S:Type}:∀ f (φ:_→Option S),(Ju n f).bind φ=Bw n f φ:=by
  intros;unfold Ju Bw;first | (simp only [ia,ba,iB,bB,oL,oX,nB,Option.bind_some]) | rfl
def mE (n:Nat):Hint Out:={ live:=fun c=>[],run:=fun c=>none,xm:=fun c q=>none }
theorem eV (n:Nat):qa tys (ja Out (Ut n)) (mE n) n (fa Tryz.f64) 0:=na (fun _=>rfl) _ _ (by kernel_rfl)
theorem gY (n:Nat):Enters Tryz.prog 64:=enters_of (c:=fa Tryz.f64) Tryz.func64 (by kernel_rfl) (by kernel_rfl)
def eO (n:Nat):Entry:=⟨64,pcT (.pair (.pair .str (.pair .bool .unit)) .unit) (.one .bool) (fun xs=>Ju n xs.1),none,none⟩
theorem o3 (n:Nat):EntryOk Tryz.prog gl (eO n):=ya (gY n) fun xs y h=>ma tys_ok (Lv n) mixed (hint:=mE n) (n:=n) Tryz.func64 (za (eV n)) (la (φ:=(fun y=>some (Out.ret (ib (.one .bool) y)))) (by kernel_rfl) (Z7 n xs.1 _) h)
def Rz (n:Nat):List Entry:=eO n::Ut n
theorem Sz (n:Nat):AllOk Tryz.prog gl (Rz n):=.cons (o3 n) (Lv n)
def Vk (n:Nat) {R:Type} (s prefix0:BA) (k:Bool→Option R):Option R:=if (decide ((s.size:Int)≥(prefix0.size:Int)))=true then if 0≤(prefix0.size:Int)∧(prefix0.size:Int)≤(s.size:Int) then k ((s.extract (Int.toNat (0:Int)) (Int.toNat (prefix0.size:Int))).toList==prefix0.toList) else none else k false
def se (n:Nat) (s prefix0:BA):Option Bool:=Vk n s prefix0 some
theorem fV (n:Nat) {S:Type}:∀ s prefix0 (φ:_→Option S),(se n s prefix0).bind φ=Vk n s prefix0 φ:=by
  intros;unfold se Vk;first | (simp only [ia,ba,iB,bB,oL,oX,nB,Option.bind_some]) | rfl
def Mu (n:Nat):Hint Out:={ live:=fun c=>[],run:=fun c=>none,xm:=fun c q=>none }
theorem YL (n:Nat):qa tys (ja Out (Rz n)) (Mu n) n (fa Tryz.f163) 0:=na (fun _=>rfl) _ _ (by kernel_rfl)
theorem aP (n:Nat):Enters Tryz.prog 163:=enters_of (c:=fa Tryz.f163) Tryz.func163 (by kernel_rfl) (by kernel_rfl)
def Vz (n:Nat):Entry:=⟨163,pcT (.pair .str (.pair .str .unit)) (.one .bool) (fun xs=>se n xs.1 xs.2.1),none,none⟩
theorem QR (n:Nat):EntryOk Tryz.prog gl (Vz n):=ya (aP n) fun xs y h=>ma tys_ok (Sz n) mixed (hint:=Mu n) (n:=n) Tryz.func163 (za (YL n)) (la (φ:=(fun y=>some (Out.ret (ib (.one .bool) y)))) (by kernel_rfl) (fV n xs.1 xs.2.1 _) h)
def vp (n:Nat):List Entry:=Vz n::Rz n
theorem ar (n:Nat):AllOk Tryz.prog gl (vp n):=.cons (QR n) (Sz n)
def Ah (n:Nat) {R:Type} (s prefix0:BA) (k:Bool→Option R):Option R:=(se n s prefix0).bind fun v=>k v
def Xb (n:Nat) (s prefix0:BA):Option Bool:=Ah n s prefix0 some
theorem WV (n:Nat) {S:Type}:∀ s prefix0 (φ:_→Option S),(Xb n s prefix0).bind φ=Ah n s prefix0 φ:=by
  intros;unfold Xb Ah;first | (simp only [ia,ba,iB,bB,oL,oX,nB,Option.bind_some]) | rfl
def Mv (n:Nat):Hint Out:={ live:=fun c=>[],run:=fun c=>none,xm:=fun c q=>none }
theorem TM (n:Nat):qa tys (ja Out (vp n)) (Mv n) n (fa Tryz.f140) 0:=na (fun _=>rfl) _ _ (by kernel_rfl)
theorem KP (n:Nat):Enters Tryz.prog 140:=enters_of (c:=fa Tryz.f140) Tryz.func140 (by kernel_rfl) (by kernel_rfl)
def fB (n:Nat):Entry:=⟨140,pcT (.pair .str (.pair .str .unit)) (.one .bool) (fun xs=>Xb n xs.1 xs.2.1),none,none⟩
theorem zT (n:Nat):EntryOk Tryz.prog gl (fB n):=ya (KP n) fun xs y h=>ma tys_ok (ar n) mixed (hint:=Mv n) (n:=n) Tryz.func140 (za (TM n)) (la (φ:=(fun y=>some (Out.ret (ib (.one .bool) y)))) (by kernel_rfl) (WV n xs.1 xs.2.1 _) h)
def iq (n:Nat):List Entry:=fB n::vp n
theorem ss (n:Nat):AllOk Tryz.prog gl (iq n):=.cons (zT n) (ar n)
def Qk (n:Nat) {R:Type} (s:BA) (k:Bool→Option R):Option R:=(Xb n s (⟨#[91]⟩:BA)).bind fun v=>k v
def oe (n:Nat) (s:BA):Option Bool:=Qk n s some
theorem vU (n:Nat) {S:Type}:∀ s (φ:_→Option S),(oe n s).bind φ=Qk n s φ:=by
  intros;unfold oe Qk;first | (simp only [ia,ba,iB,bB,oL,oX,nB,Option.bind_some]) | rfl
def Cu (n:Nat):Hint Out:={ live:=fun c=>[],run:=fun c=>none,xm:=fun c q=>none }
theorem zL (n:Nat):qa tys (ja Out (iq n)) (Cu n) n (fa Tryz.f118) 0:=na (fun _=>rfl) _ _ (by kernel_rfl)
theorem OO (n:Nat):Enters Tryz.prog 118:=enters_of (c:=fa Tryz.f118) Tryz.func118 (by kernel_rfl) (by kernel_rfl)
def az (n:Nat):Entry:=⟨118,pcT (.pair .str .unit) (.one .bool) (fun xs=>oe n xs.1),none,none⟩
theorem bz (n:Nat):EntryOk Tryz.prog gl (az n):=ya (OO n) fun xs y h=>ma tys_ok (ss n) mixed (hint:=Cu n) (n:=n) Tryz.func118 (za (zL n)) (la (φ:=(fun y=>some (Out.ret (ib (.one .bool) y)))) (by kernel_rfl) (vU n xs.1 _) h)
def Oo (n:Nat):List Entry:=az n::iq n
theorem Jq (n:Nat):AllOk Tryz.prog gl (Oo n):=.cons (bz n) (ss n)
def Wk (n:Nat) {R:Type} (s suffix:BA) (k:Bool→Option R):Option R:=if (decide ((s.size:Int)≥(suffix.size:Int)))=true then if 0≤(IntKind.wrap .i64 ((s.size:Int) - (suffix.size:Int)))∧(IntKind.wrap .i64 ((s.size:Int) - (suffix.size:Int)))≤(s.size:Int) then k ((s.extract (Int.toNat (IntKind.wrap .i64 ((s.size:Int) - (suffix.size:Int)))) (Int.toNat (s.size:Int))).toList==suffix.toList) else none else k false
def Ml (n:Nat) (s suffix:BA):Option Bool:=Wk n s suffix some
theorem gV (n:Nat) {S:Type}:∀ s suffix (φ:_→Option S),(Ml n s suffix).bind φ=Wk n s suffix φ:=by
  intros;unfold Ml Wk;first | (simp only [ia,ba,iB,bB,oL,oX,nB,Option.bind_some]) | rfl
def Nu (n:Nat):Hint Out:={ live:=fun c=>[],run:=fun c=>none,xm:=fun c q=>none }
theorem ZL (n:Nat):qa tys (ja Out (Oo n)) (Nu n) n (fa Tryz.f141) 0:=na (fun _=>rfl) _ _ (by kernel_rfl)
theorem cP (n:Nat):Enters Tryz.prog 141:=enters_of (c:=fa Tryz.f141) Tryz.func141 (by kernel_rfl) (by kernel_rfl)
def Wz (n:Nat):Entry:=⟨141,pcT (.pair .str (.pair .str .unit)) (.one .bool) (fun xs=>Ml n xs.1 xs.2.1),none,none⟩
theorem RR (n:Nat):EntryOk Tryz.prog gl (Wz n):=ya (cP n) fun xs y h=>ma tys_ok (Jq n) mixed (hint:=Nu n) (n:=n) Tryz.func141 (za (ZL n)) (la (φ:=(fun y=>some (Out.ret (ib (.one .bool) y)))) (by kernel_rfl) (gV n xs.1 xs.2.1 _) h)
def xp (n:Nat):List Entry:=Wz n::Oo n
theorem br (n:Nat):AllOk Tryz.prog gl (xp n):=.cons (RR n) (Jq n)
def Cl (n:Nat) {R:Type} (s suffix:BA) (k:Bool→Option R):Option R:=(Ml n s suffix).bind fun v=>k v
def Be (n:Nat) (s suffix:BA):Option Bool:=Cl n s suffix some
theorem XV (n:Nat) {S:Type}:∀ s suffix (φ:_→Option S),(Be n s suffix).bind φ=Cl n s suffix φ:=by
  intros;unfold Be Cl;first | (simp only [ia,ba,iB,bB,oL,oX,nB,Option.bind_some]) | rfl
def Nv (n:Nat):Hint Out:={ live:=fun c=>[],run:=fun c=>none,xm:=fun c q=>none }
theorem UM (n:Nat):qa tys (ja Out (xp n)) (Nv n) n (fa Tryz.f119) 0:=na (fun _=>rfl) _ _ (by kernel_rfl)
theorem LP (n:Nat):Enters Tryz.prog 119:=enters_of (c:=fa Tryz.f119) Tryz.func119 (by kernel_rfl) (by kernel_rfl)
def gB (n:Nat):Entry:=⟨119,pcT (.pair .str (.pair .str .unit)) (.one .bool) (fun xs=>Be n xs.1 xs.2.1),none,none⟩
theorem kB (n:Nat):EntryOk Tryz.prog gl (gB n):=ya (LP n) fun xs y h=>ma tys_ok (br n) mixed (hint:=Nv n) (n:=n) Tryz.func119 (za (UM n)) (la (φ:=(fun y=>some (Out.ret (ib (.one .bool) y)))) (by kernel_rfl) (XV n xs.1 xs.2.1 _) h)
def jB (n:Nat):List Entry:=gB n::xp n
theorem LK (n:Nat):AllOk Tryz.prog gl (jB n):=.cons (kB n) (br n)
theorem WL:Tryz.prog.funcs[199]?=some Tryz.f199:=by kernel_rfl
theorem XL:EntryOk Tryz.prog gl ⟨199,me,some (.flat zbb),none⟩:=Q7 WL (by kernel_rfl) (by kernel_rfl) (by kernel_rfl) (by kernel_rfl)
def Ku (n:Nat):List Entry:=⟨199,me,some (.flat zbb),none⟩::jB n
theorem fD (n:Nat):AllOk Tryz.prog gl (Ku n):=.cons XL (LK n)
theorem Tz:Tryz.prog.funcs[181]?=some Tryz.f181:=by kernel_rfl
theorem Uz:EntryOk Tryz.prog gl ⟨181,me,some (.flat ZC),none⟩:=WR Tz (by kernel_rfl) (by kernel_rfl) (by kernel_rfl) (by kernel_rfl)
def Xf (n:Nat):List Entry:=⟨181,me,some (.flat ZC),none⟩::Ku n
theorem ni (n:Nat):AllOk Tryz.prog gl (Xf n):=.cons Uz (fD n)
def yh (n:Nat) {R:Type} (s:BA) (c:Int) (k:Int→Option R):Option R:=k (Lib.indexByte s.data.toList (Nat.toUInt8 (Int.toNat c)))
def Zf (n:Nat) (s:BA) (c:Int):Option Int:=yh n s c some
theorem iV (n:Nat) {S:Type}:∀ s c (φ:_→Option S),(Zf n s c).bind φ=yh n s c φ:=by
  intros;unfold Zf yh;first | (simp only [ia,ba,iB,bB,oL,oX,nB,Option.bind_some]) | rfl
def Ou (n:Nat):Hint Out:={ live:=fun c=>[],run:=fun c=>none,xm:=fun c q=>none }
theorem aM (n:Nat):qa tys (ja Out (Xf n)) (Ou n) n (fa Tryz.f159) 0:=na (fun _=>rfl) _ _ (by kernel_rfl)
theorem dP (n:Nat):Enters Tryz.prog 159:=enters_of (c:=fa Tryz.f159) Tryz.func159 (by kernel_rfl) (by kernel_rfl)
def Xz (n:Nat):Entry:=⟨159,pcT (.pair .str (.pair (.int .u8) .unit)) (.one (.int .i64)) (fun xs=>Zf n xs.1 xs.2.1),none,none⟩
theorem SR (n:Nat):EntryOk Tryz.prog gl (Xz n):=ya (dP n) fun xs y h=>ma tys_ok (ni n) mixed (hint:=Ou n) (n:=n) Tryz.func159 (za (aM n)) (la (φ:=(fun y=>some (Out.ret (ib (.one (.int .i64)) y)))) (by kernel_rfl) (iV n xs.1 xs.2.1 _) h)
def yp (n:Nat):List Entry:=Xz n::Xf n
theorem dr (n:Nat):AllOk Tryz.prog gl (yp n):=.cons (SR n) (ni n)
def kC (n:Nat) {R:Type} (s substr:BA) (k:Int→Option R):Option R:=if ((substr.size:Int)==(0:Int))=false then if (substr.toList==s.toList)=true then k (0:Int) else if ((substr.size:Int)==(1:Int))=true then if 0≤(0:Int)∧(0:Int)<(substr.size:Int) then (Zf n s (bt substr (0:Int))).bind fun v=>k v else none else if (decide ((substr.size:Int)≥(s.size:Int)))=true then k (-1:Int) else none else k (0:Int)
def NI (n:Nat) (s substr:BA):Option Int:=kC n s substr some
theorem mcb (n:Nat) {S:Type}:∀ s substr (φ:_→Option S),(NI n s substr).bind φ=kC n s substr φ:=by
  intros;unfold NI kC;first | (simp only [ia,ba,iB,bB,oL,oX,nB,Option.bind_some]) | rfl
def OI (n:Nat):Hint Out:={ live:=fun c=>[],run:=fun c=>none,xm:=fun c q=>none }
theorem kY (n:Nat):qa tys (ja Out (yp n)) (OI n) n (fa Tryz.f139) 0:=⟨aa,⟨aa,⟨⟨aa,⟨⟨aa,aa⟩,⟨aa,⟨⟨aa,aa⟩,⟨aa,⟨⟨aa,aa⟩,⟨aa,⟨⟨aa,aa⟩,aa⟩⟩⟩⟩⟩⟩⟩⟩,⟨aa,⟨aa,⟨aa,⟨aa,⟨aa,⟨⟨Pcb (by kernel_rfl),⟨⟨aa,⟨aa,aa⟩⟩,⟨⟨aa,⟨⟨aa,⟨⟨aa,⟨⟨aa,aa⟩,aa⟩⟩,aa⟩⟩,aa⟩⟩,⟨⟨aa,⟨⟨aa,aa⟩,aa⟩⟩,⟨aa,⟨aa,⟨aa,⟨⟨aa,⟨⟨aa,⟨⟨aa,aa⟩,aa⟩⟩,⟨aa,aa⟩⟩⟩,⟨aa,⟨⟨aa,⟨⟨aa,⟨⟨aa,aa⟩,aa⟩⟩,⟨aa,aa⟩⟩⟩,aa⟩⟩⟩⟩⟩⟩⟩⟩⟩⟩,⟨aa,aa⟩⟩⟩⟩⟩⟩⟩⟩⟩⟩
theorem B3 (n:Nat):Enters Tryz.prog 139:=enters_of (c:=fa Tryz.f139) Tryz.func139 (by kernel_rfl) (by kernel_rfl)
def TR (n:Nat):Entry:=⟨139,pcT (.pair .str (.pair .str .unit)) (.one (.int .i64)) (fun xs=>NI n xs.1 xs.2.1),none,none⟩
theorem d8 (n:Nat):EntryOk Tryz.prog gl (TR n):=ya (B3 n) fun xs y h=>ma tys_ok (dr n) mixed (hint:=OI n) (n:=n) Tryz.func139 (za (kY n)) (la (φ:=(fun y=>some (Out.ret (ib (.one (.int .i64)) y)))) (by kernel_rfl) (mcb n xs.1 xs.2.1 _) h)
def DF (n:Nat):List Entry:=TR n::yp n
theorem nE (n:Nat):AllOk Tryz.prog gl (DF n):=.cons (d8 n) (dr n)
def RC (n:Nat) {R:Type} (s substr:BA) (k:Int→Option R):Option R:=(NI n s substr).bind fun v=>k v
def Dl (n:Nat) (s substr:BA):Option Int:=RC n s substr some
theorem Xcb (n:Nat) {S:Type}:∀ s substr (φ:_→Option S),(Dl n s substr).bind φ=RC n s substr φ:=by
  intros;unfold Dl RC;first | (simp only [ia,ba,iB,bB,oL,oX,nB,Option.bind_some]) | rfl
def MK (n:Nat):Hint Out:={ live:=fun c=>[],run:=fun c=>none,xm:=fun c q=>none }
theorem xZ (n:Nat):qa tys (ja Out (DF n)) (MK n) n (fa Tryz.f117) 0:=na (fun _=>rfl) _ _ (by kernel_rfl)
theorem L5 (n:Nat):Enters Tryz.prog 117:=enters_of (c:=fa Tryz.f117) Tryz.func117 (by kernel_rfl) (by kernel_rfl)
def DT (n:Nat):Entry:=⟨117,pcT (.pair .str (.pair .str .unit)) (.one (.int .i64)) (fun xs=>Dl n xs.1 xs.2.1),none,none⟩
theorem ET (n:Nat):EntryOk Tryz.prog gl (DT n):=ya (L5 n) fun xs y h=>ma tys_ok (nE n) mixed (hint:=MK n) (n:=n) Tryz.func117 (za (xZ n)) (la (φ:=(fun y=>some (Out.ret (ib (.one (.int .i64)) y)))) (by kernel_rfl) (Xcb n xs.1 xs.2.1 _) h)
def kq (n:Nat):List Entry:=DT n::DF n
theorem YE (n:Nat):AllOk Tryz.prog gl (kq n):=.cons (ET n) (nE n)
def px (n:Nat) {R:Type} (s1 substr1:BA) (n0:Int) (kn:BA→BA→Int→Option R) (ko:Unit→Option R) (kr:(Int)→Option R) (kp:Int→Option R):Option R:=(Dl n s1 substr1).bind fun v=>if (v==(-1:Int))=true then kr n0 else if 0≤(IntKind.wrap .i64 (v+(substr1.size:Int)))∧(IntKind.wrap .i64 (v+(substr1.size:Int)))≤(s1.size:Int) then kn (s1.extract (Int.toNat (IntKind.wrap .i64 (v+(substr1.size:Int)))) (Int.toNat (s1.size:Int))) substr1 (IntKind.wrap .i64 (n0+(1:Int))) else none
def xg (n:Nat):Nat→BA→BA→Int→Option (Lx Unit (Int))
 | 0,_,_,_=>none
 | m+1,s1,substr1,n0=>px n s1 substr1 n0 (xg n m) (fun a=>some (.out a)) (fun a=>some (.ret a)) (fun p=>some (.pan p))
theorem vZ (n m:Nat) {S:Type}:∀ s1 substr1 n0 (φ:_→Option S),(xg n (m+1) s1 substr1 n0).bind φ=px n s1 substr1 n0 (fun s1 substr1 n0=>(xg n m s1 substr1 n0).bind φ) (fun a=>φ (.out a)) (fun a=>φ (.ret a)) (fun p=>φ (.pan p)):=by
  intros;first | (simp only [xg,px,ia,ba,iB,bB,oL,oX,nB,Option.bind_some]) | rfl
def Wt:List Sl:=.dat .str::.dat .str::.top::.top::.top::.dat (.int .i64)::tp 28 []
def Vt:List RS:=[]
def KK:List Sl:=tp 4 (.dat (.int .i64)::tp 29 [])
def JK:List RS:=[]
def jf (K:XE→List AV→oa→Option Out):Lx Unit (Int)→Option Out:=fun x=>onL x (fun _=>none) (fun a=>Zb KK JK (a,()) () (K .ret)) (fun _=>none)
def QC (n:Nat) {R:Type} (s substr:BA) (k:Int→Option R):Option R:=if ((substr.size:Int)==(0:Int))=true then none else if ((substr.size:Int)==(1:Int))=true then if 0≤(0:Int)∧(0:Int)<(substr.size:Int) then k ((Lib.countByte s.data.toList (Nat.toUInt8 (Int.toNat (bt substr (0:Int)))):Nat):Int) else none else (xg n n s substr (0:Int)).bind fun x_1=>onL x_1 (fun _=>none) (fun a_2=>k a_2) (fun _=>none)
def PC (n:Nat) (s substr:BA):Option Int:=QC n s substr some
theorem Wcb (n:Nat) {S:Type}:∀ s substr (φ:_→Option S),(PC n s substr).bind φ=QC n s substr φ:=by
  intros;unfold PC QC;first | (simp only [ia,ba,iB,bB,oL,oX,nB,Option.bind_some]) | rfl
def yo (n:Nat):Hint Out:={ live:=fun c=>(cond (Nat.beq c 0) (lv [0,1,5]) []),run:=fun c=>(cond (Nat.beq c 0) (some (Qf Wt Vt fun σ ρ K=>(xg n n σ.1 σ.2.1 σ.2.2.1).bind (jf K))) none),xm:=fun c q=>(cond (Nat.beq c 1&&q.isNone) (some [(4,none)]) none) }
def xo (n:Nat) (K:XE→List AV→oa→Option Out) (m:Nat) (s1:BA) (substr1:BA) (n0:Int):Option Out:=Dc tys (ja Out (kq n)) (yo n) n (ta [1,1,1,1,0,0] (fa Tryz.f184)) 0 Wt Vt K m (s1,(substr1,(n0,()))) ()
theorem IK (n:Nat) (K:XE→List AV→oa→Option Out):∀ (m:Nat) s1 substr1 n0,xo n K m s1 substr1 n0=(xg n m s1 substr1 n0).bind (jf K)
  | 0,_,_,_=>by kernel_rfl
  | m+1,s1,substr1,n0=>by
    have h1:xo n K (m+1) s1 substr1 n0=px n s1 substr1 n0 (xo n K m) (fun a=>jf K (.out a)) (fun a=>jf K (.ret a)) (fun p=>jf K (.pan p)):=by kernel_rfl
    have h2:xo n K m=fun s1 substr1 n0=>(xg n m s1 substr1 n0).bind (jf K):=by
      repeat (refine funext fun _=>?_)
      exact IK n K m _ _ _
    rw [h1,h2];exact (vZ n m _ _ _ (jf K)).symm
theorem VV (n:Nat):ec tys (ja Out (kq n)) (yo n) n (ta [1,1,1,1,0,0] (fa Tryz.f184)) 0:=Ba (sp:=Wt) (rp:=Vt) (by kernel_rfl) fun K σ ρ=>IK n K n σ.1 σ.2.1 σ.2.2.1
theorem wZ (n:Nat):qa tys (ja Out (kq n)) (yo n) n (fa Tryz.f184) 0:=⟨aa,⟨⟨aa,⟨⟨aa,aa⟩,aa⟩⟩,⟨⟨aa,⟨⟨aa,aa⟩,aa⟩⟩,⟨aa,⟨VV n,⟨aa,⟨⟨aa,⟨⟨aa,aa⟩,aa⟩⟩,⟨aa,aa⟩⟩⟩⟩⟩⟩⟩⟩
theorem J5 (n:Nat):Enters Tryz.prog 184:=enters_of (c:=fa Tryz.f184) Tryz.func184 (by kernel_rfl) (by kernel_rfl)
def yT (n:Nat):Entry:=⟨184,pcT (.pair .str (.pair .str .unit)) (.one (.int .i64)) (fun xs=>PC n xs.1 xs.2.1),none,none⟩
theorem C9 (n:Nat):EntryOk Tryz.prog gl (yT n):=ya (J5 n) fun xs y h=>ma tys_ok (YE n) mixed (hint:=yo n) (n:=n) Tryz.func184 (za (wZ n)) (la (φ:=(fun y=>some (Out.ret (ib (.one (.int .i64)) y)))) (by kernel_rfl) (Wcb n xs.1 xs.2.1 _) h)
def gq (n:Nat):List Entry:=yT n::kq n
theorem WE (n:Nat):AllOk Tryz.prog gl (gq n):=.cons (C9 n) (YE n)
end
end Go.Proofs.YtdohilmgblkppaaGreatDoor.AM
