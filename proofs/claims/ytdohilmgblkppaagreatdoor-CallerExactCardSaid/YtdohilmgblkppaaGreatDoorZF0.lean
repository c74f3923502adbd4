/- Typed functions that tell what the Go functions of this seat answer, and proofs of it, by program (gen.py). -/
import Derived.Test.YtdohilmgblkppaaGreatDoorZT
import Derived.Test.YtdohilmgblkppaaGreatDoorZB
import Derived.Test.YtdohilmgblkppaaGreatDoorZL
import Derived.Test.YtdohilmgblkppaaGreatDoorZM
import Derived.Test.YtdohilmgblkppaaGreatDoorZN
set_option linter.all false
set_option linter.unusedVariables false
set_option linter.unusedSimpArgs false
set_option maxRecDepth 1000000
set_option maxHeartbeats 0
namespace Go.Proofs.YtdohilmgblkppaaGreatDoor.AM
open Go Go.RowKit
noncomputable section
abbrev K0:CTy:=(.pair (.int .i64) (.pair (.int .i64) (.pair (.int .i64) (.pair (.pair .str (.pair .bool .unit)) (.pair (.int .i64) (.pair .str (.pair .bool (.pair (.pair .str (.pair .str .unit)) (.pair (.sl (.pair .str (.pair .str .unit))) (.pair (.sl .str) (.pair (.int .i64) (.pair .bool .unit))))))))))))
abbrev K1:CTy:=(.pair K0 .unit)
abbrev K2:CTy:=(.pair (.int .i64) (.pair .str (.pair .bool (.pair (.pair .str (.pair .str .unit)) (.pair (.int .i64) .unit)))))
abbrev K3:CTy:=(.pair (.int .i64) (.pair (.int .i64) (.pair (.int .i64) (.pair (.pair .str (.pair .bool .unit)) (.pair K2 .unit)))))
abbrev K4:CTy:=(.pair K0 (.pair (.sl K3) .unit))
abbrev K5:CTy:=(.pair K4 .unit)
abbrev K6:CTy:=(.pair (.sl (.pair .str (.pair .str .unit))) (.pair (.pair .str (.pair .str .unit)) .unit))
abbrev K7:CTy:=(.pair .str (.pair .str (.pair (.int .i64) (.pair (.int .i64) .unit))))
abbrev K8:CTy:=(.pair (.pair .str (.pair .str .unit)) (.pair .bool (.pair (.int .i64) .unit)))
abbrev K9:CTy:=(.pair (.pair .str (.pair .str .unit)) (.pair .bool (.pair .str .unit)))
abbrev K10:CTy:=(.pair K2 (.pair .bool .unit))
abbrev K11:CTy:=(.pair K2 .unit)
abbrev K12:CTy:=(.pair K2 (.pair (.int .i64) .unit))
abbrev K13:CTy:=(.pair K0 (.pair K2 .unit))
abbrev K14:CTy:=(.pair K0 (.pair (.int .i64) (.pair .str .unit)))
abbrev K15:CTy:=(.pair K0 (.pair (.int .i64) (.pair .str (.pair (.int .i64) .unit))))
abbrev K16:CTy:=(.pair K0 (.pair (.pair .str (.pair .bool .unit)) .unit))
abbrev K17:CTy:=(.pair (.sl (.pair .str (.pair .str .unit))) (.pair (.sl (.pair .str (.pair .str .unit))) .unit))
abbrev K18:CTy:=(.pair K0 (.pair K0 .unit))
abbrev K19:CTy:=(.pair K0 (.pair (.int .i64) .unit))
abbrev K20:CTy:=(.pair (.pair .str (.pair .str .unit)) (.pair .bool (.pair .bool .unit)))
abbrev K21:CTy:=(.pair K0 (.pair .bool .unit))
abbrev K22:CTy:=(.pair K0 (.pair K3 .unit))
abbrev K23:CTy:=(.pair K4 (.pair (.int .i64) .unit))
theorem aa:True:=trivial
abbrev U0:Type:=(BA×(BA×Unit))
abbrev T1:Type:=(Int×(BA×(Bool×(U0×(Int×Unit)))))
abbrev U1:Type:=(Int×Int×Int×BA×Bool×Int×BA×Bool×BA×BA×(Sq U0)×(Sq BA)×Int×Bool)
abbrev U2:Type:=(Int×Int×Int×BA×Bool×Int×BA×Bool×BA×BA×Int×Bool×(Sq U0)×(Sq BA)×Unit)
abbrev U3:Type:=(Int×Int×Int×BA×Bool×Int×BA×Bool×BA×BA×Int×Bool×Int×(Sq U0)×(Sq BA)×Unit)
abbrev U5:Type:=(Int×Int×Int×Int×Int×BA×Bool×Int×BA×Bool×BA×BA×(Sq U0)×(Sq BA)×Int×Bool)
abbrev U6:Type:=(Int×Int×Int×Int×BA×Bool×Int×BA×Bool×BA×BA×(Sq U0)×(Sq BA)×Int×Bool)
abbrev U7:Type:=(Int×BA×BA×Int×BA×Bool×BA×BA×Int×Int×BA×Bool×BA×BA×Int)
abbrev U8:Type:=(Int×Int×BA×Bool×BA×BA×Int)
abbrev U9:Type:=(BA×(Bool×Unit))
abbrev T0:Type:=(Int×(Int×(Int×(U9×(Int×(BA×(Bool×(U0×((Sq U0)×((Sq BA)×(Int×(Bool×Unit))))))))))))
abbrev T2:Type:=(Int×(Int×(Int×(U9×(T1×Unit)))))
abbrev U4:Type:=(T0×((Sq T2)×Unit))
abbrev U10:Type:=(Int×Int×Int×BA×Bool×Int×BA×Bool×BA×BA×Int×Bool×Int×BA×Int×(Sq U0)×(Sq BA)×Unit)
abbrev U11:Type:=(Int×Int×Int×Int×BA×Bool×Int×BA×Bool×BA×BA×(Sq U0)×(Sq BA)×Int×Bool×(Sq T2))
abbrev U12:Type:=(BA×Int×Int×BA×Bool×BA×BA×Int)
abbrev U13:Type:=(Int×Int×Int×BA×Bool×Int×BA×Bool×BA×BA×Int×Bool×(Sq U0)×(Sq BA))
abbrev U14:Type:=(T0×Int×BA×Unit)
abbrev U15:Type:=(Int×BA×Int×BA×Bool×BA×BA×Int×Int×BA×Bool×BA×BA×Int)
abbrev U16:Type:=(BA×Int×Int×BA×Bool×BA×BA×Int×Int×BA×Bool×BA×BA×Int)
abbrev U17:Type:=(Bool×Int×BA×Bool×BA×BA×Int×Int×BA×Bool×BA×BA×Int)
abbrev U18:Type:=(Int×BA×Bool×BA×BA×Int×Int×BA×Bool×BA×BA×Int)
abbrev U19:Type:=((Sq Int)×Unit)
abbrev U20:Type:=(BA×Int×Int×Int×BA×Bool×BA×BA×Int)
def Zkb (n:Nat):List Entry:=[]
theorem neb (n:Nat):AllOk Tryz.prog gl (Zkb n):=.nil
def Mc (n:Nat) {R:Type} (l1:(Sq BA)) (n0 i:Int) (kn:(Sq BA)→Int→Int→Option R) (ko:(Int)→Option R) (kr:Unit→Option R) (kp:Int→Option R):Option R:=if (decide (i<(l1.n:Int)))=true then if (decide (n0<(1048576:Int)))=true then if 0≤i∧i<(l1.n:Int) then kn l1 (IntKind.wrap .i64 (n0+((l1.at' (Int.toNat i)).size:Int))) (IntKind.wrap .i64 (i+(1:Int))) else none else ko n0 else ko n0
def Xa (n:Nat):Nat→(Sq BA)→Int→Int→Option (Lx (Int) Unit)
 | 0,_,_,_=>none
 | m+1,l1,n0,i=>Mc n l1 n0 i (Xa n m) (fun a=>some (.out a)) (fun a=>some (.ret a)) (fun p=>some (.pan p))
theorem WK (n m:Nat) {S:Type}:∀ l1 n0 i (φ:_→Option S),(Xa n (m+1) l1 n0 i).bind φ=Mc n l1 n0 i (fun l1 n0 i=>(Xa n m l1 n0 i).bind φ) (fun a=>φ (.out a)) (fun a=>φ (.ret a)) (fun p=>φ (.pan p)):=by
  intros;first | (simp only [Xa,Mc,la,fa,iB,bB,oL,oX,nB,Option.bind_some]) | rfl
def qi:List Sl:=.dat (.sl .str)::.top::.top::.dat (.int .i64)::.dat (.int .i64)::tp 20 []
def pi:List RS:=[]
def yx:List Sl:=.top::.top::.top::.dat (.int .i64)::tp 21 []
def xx:List RS:=[]
def bc (K:XE→List AV→pa→Option Out):Lx (Int) Unit→Option Out:=fun x=>onL x (fun a=>vc yx xx (a,()) () (K (.exit 0))) (fun _=>none) (fun _=>none)
def vj (n:Nat) {R:Type} (l:(Sq BA)) (k:Int→Option R):Option R:=(Xa n n l (l.n:Int) (0:Int)).bind fun x_1=>onL x_1 (fun a_2=>k a_2) (fun _=>none) (fun _=>none)
def oh (n:Nat) (l:(Sq BA)):Option Int:=vj n l some
theorem VT (n:Nat) {S:Type}:∀ l (φ:_→Option S),(oh n l).bind φ=vj n l φ:=by
  intros;unfold oh vj;first | (simp only [la,fa,iB,bB,oL,oX,nB,Option.bind_some]) | rfl
def Wf (n:Nat):Hint Out:={ live:=fun c=>(cond (Nat.beq c 0) [(0,some (.sl .str)),(3,none),(4,none)] []),run:=fun c=>(cond (Nat.beq c 0) (some (Ng qi pi fun σ ρ K=>(Xa n n σ.1 σ.2.1 σ.2.2.1).bind (bc K))) none),xm:=fun c q=>(cond (Nat.beq c 0&&Nat.beq (q.getD 1000000) 0&&q.isSome) (some [(3,none)]) none) }
def Vf (n:Nat) (K:XE→List AV→pa→Option Out) (m:Nat) (l1:(Sq BA)) (n0:Int) (i:Int):Option Out:=Oc tys (ja Out (Zkb n)) (Wf n) n (ya [1,1,0,1,0,0] (ia Tryz.f57)) 0 qi pi K m (l1,(n0,(i,()))) ()
theorem Cs (n:Nat) (K:XE→List AV→pa→Option Out):∀ (m:Nat) l1 n0 i,Vf n K m l1 n0 i=(Xa n m l1 n0 i).bind (bc K)
  | 0,_,_,_=>by kernel_rfl
  | m+1,l1,n0,i=>by
    have h1:Vf n K (m+1) l1 n0 i=Mc n l1 n0 i (Vf n K m) (fun a=>bc K (.out a)) (fun a=>bc K (.ret a)) (fun p=>bc K (.pan p)):=by kernel_rfl
    have h2:Vf n K m=fun l1 n0 i=>(Xa n m l1 n0 i).bind (bc K):=by
      repeat (refine funext fun _=>?_)
      exact Cs n K m _ _ _
    rw [h1,h2];exact (WK n m _ _ _ (bc K)).symm
theorem uH (n:Nat):yc tys (ja Out (Zkb n)) (Wf n) n (ya [1,1,0,1,0,0] (ia Tryz.f57)) 0:=Fa (sp:=qi) (rp:=pi) (by kernel_rfl) fun K σ ρ=>Cs n K n σ.1 σ.2.1 σ.2.2.1
theorem XK (n:Nat):ra tys (ja Out (Zkb n)) (Wf n) n (ia Tryz.f57) 0:=⟨aa,⟨aa,⟨⟨aa,⟨uH n,⟨⟨aa,⟨aa,aa⟩⟩,⟨aa,aa⟩⟩⟩⟩,⟨aa,aa⟩⟩⟩⟩
theorem dN (n:Nat):Enters Tryz.prog 57:=enters_of (c:=ia Tryz.f57) Tryz.func57 (by kernel_rfl) (by kernel_rfl)
def ey (n:Nat):Entry:=⟨57,pcT (.pair (.sl .str) .unit) (.one (.int .i64)) (fun xs=>oh n xs.1),none,none⟩
theorem VP (n:Nat):EntryOk Tryz.prog gl (ey n):=Aa (dN n) fun xs y h=>oa tys_ok (neb n) mixed (hint:=Wf n) (n:=n) Tryz.func57 (Ba (XK n)) (ma (φ:=(fun y=>some (Out.ret (rb (.one (.int .i64)) y)))) (by kernel_rfl) (VT n xs.1 _) h)
def Jf (n:Nat):List Entry:=ey n::Zkb n
theorem jq (n:Nat):AllOk Tryz.prog gl (Jf n):=.cons (VP n) (neb n)
def mb (n:Nat) {R:Type} (n0 i c1 c2 c3:Int) (c4:BA) (c5:Bool) (c6:Int) (c7:BA) (c8:Bool) (c9 c10:BA) (c11:(Sq U0)) (c12:(Sq BA)) (c13:Int) (c14:Bool) (kn:Int→Int→Int→Int→Int→BA→Bool→Int→BA→Bool→BA→BA→(Sq U0)→(Sq BA)→Int→Bool→Option R) (ko:(Int)→Option R) (kr:Unit→Option R) (kp:Int→Option R):Option R:=if (decide (i<(c11.n:Int)))=true then if (decide (n0<(1048576:Int)))=true then if 0≤i∧i<(c11.n:Int) then if 0≤i∧i<(c11.n:Int) then kn (IntKind.wrap .i64 ((IntKind.wrap .i64 ((IntKind.wrap .i64 (n0+(1:Int)))+((((c11.at' (Int.toNat i))).1).size:Int)))+(((((c11.at' (Int.toNat i))).2).1).size:Int))) (IntKind.wrap .i64 (i+(1:Int))) c1 c2 c3 c4 c5 c6 c7 c8 c9 c10 c11 c12 c13 c14 else none else none else ko n0 else ko n0
def Ia (n:Nat):Nat→Int→Int→Int→Int→Int→BA→Bool→Int→BA→Bool→BA→BA→(Sq U0)→(Sq BA)→Int→Bool→Option (Lx (Int) Unit)
 | 0,_,_,_,_,_,_,_,_,_,_,_,_,_,_,_,_=>none
 | m+1,n0,i,c1,c2,c3,c4,c5,c6,c7,c8,c9,c10,c11,c12,c13,c14=>mb n n0 i c1 c2 c3 c4 c5 c6 c7 c8 c9 c10 c11 c12 c13 c14 (Ia n m) (fun a=>some (.out a)) (fun a=>some (.ret a)) (fun p=>some (.pan p))
theorem DD (n m:Nat) {S:Type}:∀ n0 i c1 c2 c3 c4 c5 c6 c7 c8 c9 c10 c11 c12 c13 c14 (φ:_→Option S),(Ia n (m+1) n0 i c1 c2 c3 c4 c5 c6 c7 c8 c9 c10 c11 c12 c13 c14).bind φ=mb n n0 i c1 c2 c3 c4 c5 c6 c7 c8 c9 c10 c11 c12 c13 c14 (fun n0 i c1 c2 c3 c4 c5 c6 c7 c8 c9 c10 c11 c12 c13 c14=>(Ia n m n0 i c1 c2 c3 c4 c5 c6 c7 c8 c9 c10 c11 c12 c13 c14).bind φ) (fun a=>φ (.out a)) (fun a=>φ (.ret a)) (fun p=>φ (.pan p)):=by
  intros;first | (simp only [Ia,mb,la,fa,iB,bB,oL,oX,nB,Option.bind_some]) | rfl
def Jg:List Sl:=.top::.ptr 0 0 0::.top::.dat (.int .i64)::.dat (.int .i64)::tp 52 []
def Ig:List RS:=[.box 29 14 true [.dat (.int .i64),.dat (.int .i64),.dat (.int .i64),.dat .str,.dat .bool,.dat (.int .i64),.dat .str,.dat .bool,.dat .str,.dat .str,.dat (.sl (.pair .str (.pair .str .unit))),.dat (.sl .str),.dat (.int .i64),.dat .bool]]
def Wt:List Sl:=.top::.top::.top::.dat (.int .i64)::tp 53 []
def Vt:List RS:=[]
def ub (K:XE→List AV→pa→Option Out):Lx (Int) Unit→Option Out:=fun x=>onL x (fun a=>vc Wt Vt (a,()) () (K (.exit 0))) (fun _=>none) (fun _=>none)
def kh (n:Nat) {R:Type} (c:T0) (k:Int→Option R):Option R:=(oh n c.2.2.2.2.2.2.2.2.2.1).bind fun v=>(Ia n n (IntKind.wrap .i64 ((IntKind.wrap .i64 ((IntKind.wrap .i64 ((IntKind.wrap .i64 ((c.2.2.2.2.2.1.size:Int)+(c.2.2.2.1.1.size:Int)))+v))+(c.2.2.2.2.2.2.2.1.1.size:Int)))+(c.2.2.2.2.2.2.2.1.2.1.size:Int))) (0:Int) c.1 c.2.1 c.2.2.1 c.2.2.2.1.1 c.2.2.2.1.2.1 c.2.2.2.2.1 c.2.2.2.2.2.1 c.2.2.2.2.2.2.1 c.2.2.2.2.2.2.2.1.1 c.2.2.2.2.2.2.2.1.2.1 c.2.2.2.2.2.2.2.2.1 c.2.2.2.2.2.2.2.2.2.1 c.2.2.2.2.2.2.2.2.2.2.1 c.2.2.2.2.2.2.2.2.2.2.2.1).bind fun x_1=>onL x_1 (fun a_2=>k a_2) (fun _=>none) (fun _=>none)
def Ce (n:Nat) (c:T0):Option Int:=kh n c some
theorem XM (n:Nat) {S:Type}:∀ c (φ:_→Option S),(Ce n c).bind φ=kh n c φ:=by
  intros;unfold Ce kh;first | (simp only [la,fa,iB,bB,oL,oX,nB,Option.bind_some]) | rfl
def ge (n:Nat):Hint Out:={ live:=fun c=>(cond (Nat.beq c 0) (lv [1,3,4]) []),run:=fun c=>(cond (Nat.beq c 0) (some (Ng Jg Ig fun σ ρ K=>(Ia n n σ.1 σ.2.1 ρ.1.1 ρ.1.2.1 ρ.1.2.2.1 ρ.1.2.2.2.1 ρ.1.2.2.2.2.1 ρ.1.2.2.2.2.2.1 ρ.1.2.2.2.2.2.2.1 ρ.1.2.2.2.2.2.2.2.1 ρ.1.2.2.2.2.2.2.2.2.1 ρ.1.2.2.2.2.2.2.2.2.2.1 ρ.1.2.2.2.2.2.2.2.2.2.2.1 ρ.1.2.2.2.2.2.2.2.2.2.2.2.1 ρ.1.2.2.2.2.2.2.2.2.2.2.2.2.1 ρ.1.2.2.2.2.2.2.2.2.2.2.2.2.2.1).bind (ub K))) none),xm:=fun c q=>(cond (Nat.beq c 0&&Nat.beq (q.getD 1000000) 0&&q.isSome) (some [(3,none)]) none) }
def fe (n:Nat) (K:XE→List AV→pa→Option Out) (m:Nat) (n0:Int) (i:Int) (c1:Int) (c2:Int) (c3:Int) (c4:BA) (c5:Bool) (c6:Int) (c7:BA) (c8:Bool) (c9:BA) (c10:BA) (c11:(Sq U0)) (c12:(Sq BA)) (c13:Int) (c14:Bool):Option Out:=Oc tys (ja Out (Jf n)) (ge n) n (ya [1,1,0,1,0,0] (ia Tryz.f28)) 0 Jg Ig K m (n0,(i,())) ((c1,(c2,(c3,(c4,(c5,(c6,(c7,(c8,(c9,(c10,(c11,(c12,(c13,(c14,())))))))))))))),())
theorem Pm (n:Nat) (K:XE→List AV→pa→Option Out):∀ (m:Nat) n0 i c1 c2 c3 c4 c5 c6 c7 c8 c9 c10 c11 c12 c13 c14,fe n K m n0 i c1 c2 c3 c4 c5 c6 c7 c8 c9 c10 c11 c12 c13 c14=(Ia n m n0 i c1 c2 c3 c4 c5 c6 c7 c8 c9 c10 c11 c12 c13 c14).bind (ub K)
  | 0,_,_,_,_,_,_,_,_,_,_,_,_,_,_,_,_=>by kernel_rfl
  | m+1,n0,i,c1,c2,c3,c4,c5,c6,c7,c8,c9,c10,c11,c12,c13,c14=>by
    have h1:fe n K (m+1) n0 i c1 c2 c3 c4 c5 c6 c7 c8 c9 c10 c11 c12 c13 c14=mb n n0 i c1 c2 c3 c4 c5 c6 c7 c8 c9 c10 c11 c12 c13 c14 (fe n K m) (fun a=>ub K (.out a)) (fun a=>ub K (.ret a)) (fun p=>ub K (.pan p)):=by kernel_rfl
    have h2:fe n K m=fun n0 i c1 c2 c3 c4 c5 c6 c7 c8 c9 c10 c11 c12 c13 c14=>(Ia n m n0 i c1 c2 c3 c4 c5 c6 c7 c8 c9 c10 c11 c12 c13 c14).bind (ub K):=by
      repeat (refine funext fun _=>?_)
      exact Pm n K m _ _ _ _ _ _ _ _ _ _ _ _ _ _ _ _
    rw [h1,h2];exact (DD n m _ _ _ _ _ _ _ _ _ _ _ _ _ _ _ _ (ub K)).symm
theorem IB (n:Nat):yc tys (ja Out (Jf n)) (ge n) n (ya [1,1,0,1,0,0] (ia Tryz.f28)) 0:=Fa (sp:=Jg) (rp:=Ig) (by kernel_rfl) fun K σ ρ=>Pm n K n σ.1 σ.2.1 ρ.1.1 ρ.1.2.1 ρ.1.2.2.1 ρ.1.2.2.2.1 ρ.1.2.2.2.2.1 ρ.1.2.2.2.2.2.1 ρ.1.2.2.2.2.2.2.1 ρ.1.2.2.2.2.2.2.2.1 ρ.1.2.2.2.2.2.2.2.2.1 ρ.1.2.2.2.2.2.2.2.2.2.1 ρ.1.2.2.2.2.2.2.2.2.2.2.1 ρ.1.2.2.2.2.2.2.2.2.2.2.2.1 ρ.1.2.2.2.2.2.2.2.2.2.2.2.2.1 ρ.1.2.2.2.2.2.2.2.2.2.2.2.2.2.1
theorem ED (n:Nat):ra tys (ja Out (Jf n)) (ge n) n (ia Tryz.f28) 0:=⟨aa,⟨aa,⟨⟨aa,⟨IB n,⟨⟨aa,⟨aa,aa⟩⟩,⟨aa,aa⟩⟩⟩⟩,⟨aa,aa⟩⟩⟩⟩
theorem sH (n:Nat):Enters Tryz.prog 28:=enters_of (c:=ia Tryz.f28) Tryz.func28 (by kernel_rfl) (by kernel_rfl)
def ws (n:Nat):Entry:=⟨28,pcT K1 (.one (.int .i64)) (fun xs=>Ce n xs.1),none,none⟩
theorem SK (n:Nat):EntryOk Tryz.prog gl (ws n):=Aa (sH n) fun xs y h=>oa tys_ok (jq n) mixed (hint:=ge n) (n:=n) Tryz.func28 (Ba (ED n)) (ma (φ:=(fun y=>some (Out.ret (rb (.one (.int .i64)) y)))) (by kernel_rfl) (XM n xs.1 _) h)
def Rd (n:Nat):List Entry:=ws n::Jf n
theorem Tl (n:Nat):AllOk Tryz.prog gl (Rd n):=.cons (SK n) (jq n)
def Cf (n:Nat) {R:Type} (n0 i p1 p2 p3:Int) (p4:BA) (p5:Bool) (p6:Int) (p7:BA) (p8:Bool) (p9 p10:BA) (p11:(Sq U0)) (p12:(Sq BA)) (p13:Int) (p14:Bool) (p15:(Sq T2)) (kn:Int→Int→Int→Int→Int→BA→Bool→Int→BA→Bool→BA→BA→(Sq U0)→(Sq BA)→Int→Bool→(Sq T2)→Option R) (ko:U11→Option R) (kr:Unit→Option R) (kp:Int→Option R):Option R:=if (decide (i<(p15.n:Int)))=true then if (decide (n0<(1048576:Int)))=true then if 0≤i∧i<(p15.n:Int) then if 0≤i∧i<(p15.n:Int) then if 0≤i∧i<(p15.n:Int) then if 0≤i∧i<(p15.n:Int) then kn (IntKind.wrap .i64 ((IntKind.wrap .i64 ((IntKind.wrap .i64 ((IntKind.wrap .i64 ((IntKind.wrap .i64 (n0+(1:Int)))+((((((((p15.at' (Int.toNat i))).2).2).2).1).1).size:Int)))+((((((((((p15.at' (Int.toNat i))).2).2).2).2).1).2).1).size:Int)))+(((((((((((((p15.at' (Int.toNat i))).2).2).2).2).1).2).2).2).1).1).size:Int)))+((((((((((((((p15.at' (Int.toNat i))).2).2).2).2).1).2).2).2).1).2).1).size:Int))) (IntKind.wrap .i64 (i+(1:Int))) p1 p2 p3 p4 p5 p6 p7 p8 p9 p10 p11 p12 p13 p14 p15 else none else none else none else none else ko (n0,p1,p2,p3,p4,p5,p6,p7,p8,p9,p10,p11,p12,p13,p14,p15)
 else ko (n0,p1,p2,p3,p4,p5,p6,p7,p8,p9,p10,p11,p12,p13,p14,p15)
def cc (n:Nat):Nat→Int→Int→Int→Int→Int→BA→Bool→Int→BA→Bool→BA→BA→(Sq U0)→(Sq BA)→Int→Bool→(Sq T2)→Option (Lx U11 Unit)
 | 0,_,_,_,_,_,_,_,_,_,_,_,_,_,_,_,_,_=>none
 | m+1,n0,i,p1,p2,p3,p4,p5,p6,p7,p8,p9,p10,p11,p12,p13,p14,p15=>Cf n n0 i p1 p2 p3 p4 p5 p6 p7 p8 p9 p10 p11 p12 p13 p14 p15 (cc n m) (fun a=>some (.out a)) (fun a=>some (.ret a)) (fun p=>some (.pan p))
theorem wZ (n m:Nat) {S:Type}:∀ n0 i p1 p2 p3 p4 p5 p6 p7 p8 p9 p10 p11 p12 p13 p14 p15 (φ:_→Option S),(cc n (m+1) n0 i p1 p2 p3 p4 p5 p6 p7 p8 p9 p10 p11 p12 p13 p14 p15).bind φ=Cf n n0 i p1 p2 p3 p4 p5 p6 p7 p8 p9 p10 p11 p12 p13 p14 p15 (fun n0 i p1 p2 p3 p4 p5 p6 p7 p8 p9 p10 p11 p12 p13 p14 p15=>(cc n m n0 i p1 p2 p3 p4 p5 p6 p7 p8 p9 p10 p11 p12 p13 p14 p15).bind φ) (fun a=>φ (.out a)) (fun a=>φ (.ret a)) (fun p=>φ (.pan p)):=by
  intros;first | (simp only [cc,Cf,la,fa,iB,bB,oL,oX,nB,Option.bind_some]) | rfl
def du:List Sl:=.top::.ptr 0 0 0::.top::.dat (.int .i64)::.dat (.int .i64)::tp 62 []
def cu:List RS:=[.box 32 15 true [.dat (.int .i64),.dat (.int .i64),.dat (.int .i64),.dat .str,.dat .bool,.dat (.int .i64),.dat .str,.dat .bool,.dat .str,.dat .str,.dat (.sl (.pair .str (.pair .str .unit))),.dat (.sl .str),.dat (.int .i64),.dat .bool,.dat (.sl K3)]]
def iL:List Sl:=.top::.ptr 0 0 0::.top::.dat (.int .i64)::tp 63 []
def gL:List RS:=[.box 32 15 true [.dat (.int .i64),.dat (.int .i64),.dat (.int .i64),.dat .str,.dat .bool,.dat (.int .i64),.dat .str,.dat .bool,.dat .str,.dat .str,.dat (.sl (.pair .str (.pair .str .unit))),.dat (.sl .str),.dat (.int .i64),.dat .bool,.dat (.sl K3)]]
def Df (K:XE→List AV→pa→Option Out):Lx U11 Unit→Option Out:=fun x=>onL x (fun a=>vc iL gL (a.1,()) ((a.2.1,(a.2.2.1,(a.2.2.2.1,(a.2.2.2.2.1,(a.2.2.2.2.2.1,(a.2.2.2.2.2.2.1,(a.2.2.2.2.2.2.2.1,(a.2.2.2.2.2.2.2.2.1,(a.2.2.2.2.2.2.2.2.2.1,(a.2.2.2.2.2.2.2.2.2.2.1,(a.2.2.2.2.2.2.2.2.2.2.2.1,(a.2.2.2.2.2.2.2.2.2.2.2.2.1,(a.2.2.2.2.2.2.2.2.2.2.2.2.2.1,(a.2.2.2.2.2.2.2.2.2.2.2.2.2.2.1,(a.2.2.2.2.2.2.2.2.2.2.2.2.2.2.2,()))))))))))))))),()) (K (.exit 0))) (fun _=>none) (fun _=>none)
def UC (n:Nat) {R:Type} (p:U4) (k:Bool→Option R):Option R:=(Ce n p.1).bind fun v=>(cc n n v (0:Int) p.1.1 p.1.2.1 p.1.2.2.1 p.1.2.2.2.1.1 p.1.2.2.2.1.2.1 p.1.2.2.2.2.1 p.1.2.2.2.2.2.1 p.1.2.2.2.2.2.2.1 p.1.2.2.2.2.2.2.2.1.1 p.1.2.2.2.2.2.2.2.1.2.1 p.1.2.2.2.2.2.2.2.2.1 p.1.2.2.2.2.2.2.2.2.2.1 p.1.2.2.2.2.2.2.2.2.2.2.1 p.1.2.2.2.2.2.2.2.2.2.2.2.1 p.2.1).bind fun x_1=>onL x_1 (fun a_2=>if (decide (a_2.1>(20000:Int)))=false then k (decide ((a_2.2.2.2.2.2.2.2.2.2.2.2.2.2.2.2.n:Int)>(100:Int))) else k true) (fun _=>none) (fun _=>none)
def Gs (n:Nat) (p:U4):Option Bool:=UC n p some
theorem qdb (n:Nat) {S:Type}:∀ p (φ:_→Option S),(Gs n p).bind φ=UC n p φ:=by
  intros;unfold Gs UC;first | (simp only [la,fa,iB,bB,oL,oX,nB,Option.bind_some]) | rfl
def qo (n:Nat):Hint Out:={ live:=fun c=>(cond (Nat.beq c 0) (lv [1,3,4]) []),run:=fun c=>(cond (Nat.beq c 0) (some (Ng du cu fun σ ρ K=>(cc n n σ.1 σ.2.1 ρ.1.1 ρ.1.2.1 ρ.1.2.2.1 ρ.1.2.2.2.1 ρ.1.2.2.2.2.1 ρ.1.2.2.2.2.2.1 ρ.1.2.2.2.2.2.2.1 ρ.1.2.2.2.2.2.2.2.1 ρ.1.2.2.2.2.2.2.2.2.1 ρ.1.2.2.2.2.2.2.2.2.2.1 ρ.1.2.2.2.2.2.2.2.2.2.2.1 ρ.1.2.2.2.2.2.2.2.2.2.2.2.1 ρ.1.2.2.2.2.2.2.2.2.2.2.2.2.1 ρ.1.2.2.2.2.2.2.2.2.2.2.2.2.2.1 ρ.1.2.2.2.2.2.2.2.2.2.2.2.2.2.2.1).bind (Df K))) none),xm:=fun c q=>(cond (Nat.beq c 0&&Nat.beq (q.getD 1000000) 0&&q.isSome) (some [(1,none),(3,none)]) none) }
def po (n:Nat) (K:XE→List AV→pa→Option Out) (m:Nat) (n0:Int) (i:Int) (p1:Int) (p2:Int) (p3:Int) (p4:BA) (p5:Bool) (p6:Int) (p7:BA) (p8:Bool) (p9:BA) (p10:BA) (p11:(Sq U0)) (p12:(Sq BA)) (p13:Int) (p14:Bool) (p15:(Sq T2)):Option Out:=Oc tys (ja Out (Rd n)) (qo n) n (ya [1,1,0,1,0,0] (ia Tryz.f15)) 0 du cu K m (n0,(i,())) ((p1,(p2,(p3,(p4,(p5,(p6,(p7,(p8,(p9,(p10,(p11,(p12,(p13,(p14,(p15,()))))))))))))))),())
theorem fL (n:Nat) (K:XE→List AV→pa→Option Out):∀ (m:Nat) n0 i p1 p2 p3 p4 p5 p6 p7 p8 p9 p10 p11 p12 p13 p14 p15,po n K m n0 i p1 p2 p3 p4 p5 p6 p7 p8 p9 p10 p11 p12 p13 p14 p15=(cc n m n0 i p1 p2 p3 p4 p5 p6 p7 p8 p9 p10 p11 p12 p13 p14 p15).bind (Df K)
  | 0,_,_,_,_,_,_,_,_,_,_,_,_,_,_,_,_,_=>by kernel_rfl
  | m+1,n0,i,p1,p2,p3,p4,p5,p6,p7,p8,p9,p10,p11,p12,p13,p14,p15=>by
    have h1:po n K (m+1) n0 i p1 p2 p3 p4 p5 p6 p7 p8 p9 p10 p11 p12 p13 p14 p15=Cf n n0 i p1 p2 p3 p4 p5 p6 p7 p8 p9 p10 p11 p12 p13 p14 p15 (po n K m) (fun a=>Df K (.out a)) (fun a=>Df K (.ret a)) (fun p=>Df K (.pan p)):=by kernel_rfl
    have h2:po n K m=fun n0 i p1 p2 p3 p4 p5 p6 p7 p8 p9 p10 p11 p12 p13 p14 p15=>(cc n m n0 i p1 p2 p3 p4 p5 p6 p7 p8 p9 p10 p11 p12 p13 p14 p15).bind (Df K):=by
      repeat (refine funext fun _=>?_)
      exact fL n K m _ _ _ _ _ _ _ _ _ _ _ _ _ _ _ _ _
    rw [h1,h2];exact (wZ n m _ _ _ _ _ _ _ _ _ _ _ _ _ _ _ _ _ (Df K)).symm
theorem VV (n:Nat):yc tys (ja Out (Rd n)) (qo n) n (ya [1,1,0,1,0,0] (ia Tryz.f15)) 0:=Fa (sp:=du) (rp:=cu) (by kernel_rfl) fun K σ ρ=>fL n K n σ.1 σ.2.1 ρ.1.1 ρ.1.2.1 ρ.1.2.2.1 ρ.1.2.2.2.1 ρ.1.2.2.2.2.1 ρ.1.2.2.2.2.2.1 ρ.1.2.2.2.2.2.2.1 ρ.1.2.2.2.2.2.2.2.1 ρ.1.2.2.2.2.2.2.2.2.1 ρ.1.2.2.2.2.2.2.2.2.2.1 ρ.1.2.2.2.2.2.2.2.2.2.2.1 ρ.1.2.2.2.2.2.2.2.2.2.2.2.1 ρ.1.2.2.2.2.2.2.2.2.2.2.2.2.1 ρ.1.2.2.2.2.2.2.2.2.2.2.2.2.2.1 ρ.1.2.2.2.2.2.2.2.2.2.2.2.2.2.2.1
theorem xZ (n:Nat):ra tys (ja Out (Rd n)) (qo n) n (ia Tryz.f15) 0:=⟨aa,⟨aa,⟨⟨aa,⟨VV n,⟨⟨aa,⟨aa,aa⟩⟩,⟨aa,aa⟩⟩⟩⟩,⟨aa,aa⟩⟩⟩⟩
theorem Z5 (n:Nat):Enters Tryz.prog 15:=enters_of (c:=ia Tryz.f15) Tryz.func15 (by kernel_rfl) (by kernel_rfl)
def WT (n:Nat):Entry:=⟨15,pcT K5 (.one .bool) (fun xs=>Gs n xs.1),none,none⟩
theorem D9 (n:Nat):EntryOk Tryz.prog gl (WT n):=Aa (Z5 n) fun xs y h=>oa tys_ok (Tl n) mixed (hint:=qo n) (n:=n) Tryz.func15 (Ba (xZ n)) (ma (φ:=(fun y=>some (Out.ret (rb (.one .bool) y)))) (by kernel_rfl) (qdb n xs.1 _) h)
def DH (n:Nat):List Entry:=WT n::Rd n
theorem cF (n:Nat):AllOk Tryz.prog gl (DH n):=.cons (D9 n) (Tl n)
def qQ (n:Nat) {R:Type} (n0 most:Int) (k:Bool→Option R):Option R:=if (decide (n0≥(0:Int)))=true then k (decide (n0≤most)) else k false
def UI (n:Nat) (n0 most:Int):Option Bool:=qQ n n0 most some
theorem shb (n:Nat) {S:Type}:∀ n0 most (φ:_→Option S),(UI n n0 most).bind φ=qQ n n0 most φ:=by
  intros;unfold UI qQ;first | (simp only [la,fa,iB,bB,oL,oX,nB,Option.bind_some]) | rfl
def gS (n:Nat):Hint Out:={ live:=fun c=>[],run:=fun c=>none,xm:=fun c q=>none }
theorem X7 (n:Nat):ra tys (ja Out (DH n)) (gS n) n (ia Tryz.f29) 0:=na (fun _=>rfl) _ _ (by kernel_rfl)
theorem scb (n:Nat):Enters Tryz.prog 29:=enters_of (c:=ia Tryz.f29) Tryz.func29 (by kernel_rfl) (by kernel_rfl)
def F3 (n:Nat):Entry:=⟨29,pcT (.pair (.int .i64) (.pair (.int .i64) .unit)) (.one .bool) (fun xs=>UI n xs.1 xs.2.1),none,none⟩
theorem gfb (n:Nat):EntryOk Tryz.prog gl (F3 n):=Aa (scb n) fun xs y h=>oa tys_ok (cF n) mixed (hint:=gS n) (n:=n) Tryz.func29 (Ba (X7 n)) (ma (φ:=(fun y=>some (Out.ret (rb (.one .bool) y)))) (by kernel_rfl) (shb n xs.1 xs.2.1 _) h)
def fS (n:Nat):List Entry:=F3 n::DH n
theorem XN (n:Nat):AllOk Tryz.prog gl (fS n):=.cons (gfb n) (cF n)
def qJ (n:Nat) {R:Type} (s:BA) (k:Bool→Option R):Option R:=if (decide ((s.size:Int)≥(2:Int)))=true then if 0≤(IntKind.wrap .i64 ((s.size:Int) - (2:Int)))∧(IntKind.wrap .i64 ((s.size:Int) - (2:Int)))<(s.size:Int) then if ((bt s (IntKind.wrap .i64 ((s.size:Int) - (2:Int))))==(13:Int))=true then if 0≤(IntKind.wrap .i64 ((s.size:Int) - (1:Int)))∧(IntKind.wrap .i64 ((s.size:Int) - (1:Int)))<(s.size:Int) then k ((bt s (IntKind.wrap .i64 ((s.size:Int) - (1:Int))))==(10:Int)) else none else k false else none else k false
def eM (n:Nat) (s:BA):Option Bool:=qJ n s some
theorem ifb (n:Nat) {S:Type}:∀ s (φ:_→Option S),(eM n s).bind φ=qJ n s φ:=by
  intros;unfold eM qJ;first | (simp only [la,fa,iB,bB,oL,oX,nB,Option.bind_some]) | rfl
def aO (n:Nat):Hint Out:={ live:=fun c=>[],run:=fun c=>none,xm:=fun c q=>none }
theorem O3 (n:Nat):ra tys (ja Out (fS n)) (aO n) n (ia Tryz.f58) 0:=na (fun _=>rfl) _ _ (by kernel_rfl)
theorem m8 (n:Nat):Enters Tryz.prog 58:=enters_of (c:=ia Tryz.f58) Tryz.func58 (by kernel_rfl) (by kernel_rfl)
def BW (n:Nat):Entry:=⟨58,pcT (.pair .str .unit) (.one .bool) (fun xs=>eM n xs.1),none,none⟩
theorem xcb (n:Nat):EntryOk Tryz.prog gl (BW n):=Aa (m8 n) fun xs y h=>oa tys_ok (XN n) mixed (hint:=aO n) (n:=n) Tryz.func58 (Ba (O3 n)) (ma (φ:=(fun y=>some (Out.ret (rb (.one .bool) y)))) (by kernel_rfl) (ifb n xs.1 _) h)
def Su (n:Nat):List Entry:=BW n::fS n
theorem rJ (n:Nat):AllOk Tryz.prog gl (Su n):=.cons (xcb n) (XN n)
def sg (n:Nat) {R:Type} (i:Int) (f1:BA) (f2:Bool) (kn:Int→BA→Bool→Option R) (ko:(Unit)→Option R) (kr:(Bool)→Option R) (kp:Int→Option R):Option R:=if (decide (i≤(f1.size:Int)))=true then if 0≤i∧i≤(f1.size:Int) then (eM n (f1.extract (Int.toNat (0:Int)) (Int.toNat i))).bind fun v=>if v=true then kr false else kn (IntKind.wrap .i64 (i+(1:Int))) f1 f2 else none else ko ()
def ec (n:Nat):Nat→Int→BA→Bool→Option (Lx (Unit) (Bool))
 | 0,_,_,_=>none
 | m+1,i,f1,f2=>sg n i f1 f2 (ec n m) (fun a=>some (.out a)) (fun a=>some (.ret a)) (fun p=>some (.pan p))
theorem jV (n m:Nat) {S:Type}:∀ i f1 f2 (φ:_→Option S),(ec n (m+1) i f1 f2).bind φ=sg n i f1 f2 (fun i f1 f2=>(ec n m i f1 f2).bind φ) (fun a=>φ (.out a)) (fun a=>φ (.ret a)) (fun p=>φ (.pan p)):=by
  intros;first | (simp only [ec,sg,la,fa,iB,bB,oL,oX,nB,Option.bind_some]) | rfl
def Dp:List Sl:=.top::.ptr 0 0 0::.top::.dat (.int .i64)::tp 26 []
def Cp:List RS:=[.box 23 2 true [.dat .str,.dat .bool]]
def FF:List Sl:=tp 30 []
def EF:List RS:=[]
def HF:List Sl:=.top::.top::.dat .bool::tp 27 []
def GF:List RS:=[]
def Yd (K:XE→List AV→pa→Option Out):Lx (Unit) (Bool)→Option Out:=fun x=>onL x (fun a=>vc FF EF () () (K (.exit 0))) (fun a=>vc HF GF (a,()) () (K .ret)) (fun _=>none)
def Gw (n:Nat) {R:Type} (f:U9) (k:Bool→Option R):Option R:=if f.2.1=true then if (f.1.toList==(⟨#[]⟩:BA).toList)=false then k (f.1.toList==(⟨#[13]⟩:BA).toList) else k true else if (decide ((f.1.size:Int)>(511:Int)))=true then k false else (ec n n (2:Int) f.1 f.2.1).bind fun x_1=>onL x_1 (fun a_2=>k true) (fun a_3=>k a_3) (fun _=>none)
def Ru (n:Nat) (f:U9):Option Bool:=Gw n f some
theorem i8 (n:Nat) {S:Type}:∀ f (φ:_→Option S),(Ru n f).bind φ=Gw n f φ:=by
  intros;unfold Ru Gw;first | (simp only [la,fa,iB,bB,oL,oX,nB,Option.bind_some]) | rfl
def Qk (n:Nat):Hint Out:={ live:=fun c=>(cond (Nat.beq c 0) [(1,none),(3,none)] []),run:=fun c=>(cond (Nat.beq c 0) (some (Ng Dp Cp fun σ ρ K=>(ec n n σ.1 ρ.1.1 ρ.1.2.1).bind (Yd K))) none),xm:=fun c q=>(cond (Nat.beq c 0&&Nat.beq (q.getD 1000000) 0&&q.isSome) (some []) (cond (Nat.beq c 1&&q.isNone) (some [(2,none)]) none)) }
def Pk (n:Nat) (K:XE→List AV→pa→Option Out) (m:Nat) (i:Int) (f1:BA) (f2:Bool):Option Out:=Oc tys (ja Out (Su n)) (Qk n) n (ya [1,1,1,0,1,0,0] (ia Tryz.f30)) 0 Dp Cp K m (i,()) ((f1,(f2,())),())
theorem sE (n:Nat) (K:XE→List AV→pa→Option Out):∀ (m:Nat) i f1 f2,Pk n K m i f1 f2=(ec n m i f1 f2).bind (Yd K)
  | 0,_,_,_=>by kernel_rfl
  | m+1,i,f1,f2=>by
    have h1:Pk n K (m+1) i f1 f2=sg n i f1 f2 (Pk n K m) (fun a=>Yd K (.out a)) (fun a=>Yd K (.ret a)) (fun p=>Yd K (.pan p)):=by kernel_rfl
    have h2:Pk n K m=fun i f1 f2=>(ec n m i f1 f2).bind (Yd K):=by
      repeat (refine funext fun _=>?_)
      exact sE n K m _ _ _
    rw [h1,h2];exact (jV n m _ _ _ (Yd K)).symm
theorem mS (n:Nat):yc tys (ja Out (Su n)) (Qk n) n (ya [1,1,1,0,1,0,0] (ia Tryz.f30)) 0:=Fa (sp:=Dp) (rp:=Cp) (by kernel_rfl) fun K σ ρ=>sE n K n σ.1 ρ.1.1 ρ.1.2.1
theorem kV (n:Nat):ra tys (ja Out (Su n)) (Qk n) n (ia Tryz.f30) 0:=⟨aa,⟨⟨aa,⟨⟨aa,aa⟩,aa⟩⟩,⟨⟨aa,⟨⟨aa,aa⟩,aa⟩⟩,⟨⟨aa,⟨mS n,⟨⟨aa,⟨aa,aa⟩⟩,⟨⟨aa,⟨⟨aa,aa⟩,aa⟩⟩,aa⟩⟩⟩⟩,⟨aa,aa⟩⟩⟩⟩⟩
theorem zY (n:Nat):Enters Tryz.prog 30:=enters_of (c:=ia Tryz.f30) Tryz.func30 (by kernel_rfl) (by kernel_rfl)
def YN (n:Nat):Entry:=⟨30,pcT (.pair (.pair .str (.pair .bool .unit)) .unit) (.one .bool) (fun xs=>Ru n xs.1),none,none⟩
theorem M3 (n:Nat):EntryOk Tryz.prog gl (YN n):=Aa (zY n) fun xs y h=>oa tys_ok (rJ n) mixed (hint:=Qk n) (n:=n) Tryz.func30 (Ba (kV n)) (ma (φ:=(fun y=>some (Out.ret (rb (.one .bool) y)))) (by kernel_rfl) (i8 n xs.1 _) h)
def Il (n:Nat):List Entry:=YN n::Su n
theorem mA (n:Nat):AllOk Tryz.prog gl (Il n):=.cons (M3 n) (rJ n)
def Tj (n:Nat) {R:Type} (s1:BA) (by01 from0 i:Int) (l:(Sq BA)) (kn:BA→Int→Int→Int→(Sq BA)→Option R) (ko:((Sq BA))→Option R) (kr:Unit→Option R) (kp:Int→Option R):Option R:=if (decide (i≤(s1.size:Int)))=true then if (i==(s1.size:Int))=false then if 0≤i∧i<(s1.size:Int) then if ((bt s1 i)==by01)=true then if 0≤i∧i≤(s1.size:Int) then if 0≤from0∧from0≤i then if zb (l.n+1) 16=true then kn s1 by01 (IntKind.wrap .i64 (i+(1:Int))) (IntKind.wrap .i64 (i+(1:Int))) (⟨(l.n+1),fun q=>if q<l.n then l.at' q else (fun q=>List.getD (α:=BA) [(s1.extract (Int.toNat from0) (Int.toNat i))] q (ua .str)) (q - l.n)⟩:Sq BA) else none else none else none else kn s1 by01 from0 (IntKind.wrap .i64 (i+(1:Int))) l else none else if 0≤i∧i≤(s1.size:Int) then if 0≤from0∧from0≤i then if zb (l.n+1) 16=true then kn s1 by01 (IntKind.wrap .i64 (i+(1:Int))) (IntKind.wrap .i64 (i+(1:Int))) (⟨(l.n+1),fun q=>if q<l.n then l.at' q else (fun q=>List.getD (α:=BA) [(s1.extract (Int.toNat from0) (Int.toNat i))] q (ua .str)) (q - l.n)⟩:Sq BA) else none else none else none else ko l
def sd (n:Nat):Nat→BA→Int→Int→Int→(Sq BA)→Option (Lx ((Sq BA)) Unit)
 | 0,_,_,_,_,_=>none
 | m+1,s1,by01,from0,i,l=>Tj n s1 by01 from0 i l (sd n m) (fun a=>some (.out a)) (fun a=>some (.ret a)) (fun p=>some (.pan p))
theorem tY (n m:Nat) {S:Type}:∀ s1 by01 from0 i l (φ:_→Option S),(sd n (m+1) s1 by01 from0 i l).bind φ=Tj n s1 by01 from0 i l (fun s1 by01 from0 i l=>(sd n m s1 by01 from0 i l).bind φ) (fun a=>φ (.out a)) (fun a=>φ (.ret a)) (fun p=>φ (.pan p)):=by
  intros;first | (simp only [sd,Tj,la,fa,iB,bB,oL,oX,nB,Option.bind_some]) | rfl
def rt:List Sl:=.dat .str::.dat (.int .u8)::.top::.top::.top::.row 0::.dat (.int .i64)::.dat (.int .i64)::tp 27 []
def ot:List RS:=[.row 9 1 .str true false]
def cJ:List Sl:=tp 5 (.row 0::tp 29 [])
def bJ:List RS:=[.row 9 1 .str true false]
def ef (K:XE→List AV→pa→Option Out):Lx ((Sq BA)) Unit→Option Out:=fun x=>onL x (fun a=>vc cJ bJ () (a,()) (K (.exit 0))) (fun _=>none) (fun _=>none)
def rC (n:Nat) {R:Type} (s:BA) (by0:Int) (k:(Sq BA)→Option R):Option R:=(sd n n s by0 (0:Int) (0:Int) (⟨0,fun _=>ua .str⟩:Sq BA)).bind fun x_1=>onL x_1 (fun a_2=>k a_2) (fun _=>none) (fun _=>none)
def Gn (n:Nat) (s:BA) (by0:Int):Option (Sq BA):=rC n s by0 some
theorem ucb (n:Nat) {S:Type}:∀ s by0 (φ:_→Option S),(Gn n s by0).bind φ=rC n s by0 φ:=by
  intros;unfold Gn rC;first | (simp only [la,fa,iB,bB,oL,oX,nB,Option.bind_some]) | rfl
def In (n:Nat):Hint Out:={ live:=fun c=>(cond (Nat.beq c 0) [(0,none),(1,none),(5,some (.sl .str)),(6,none),(7,none)] []),run:=fun c=>(cond (Nat.beq c 0) (some (Ng rt ot fun σ ρ K=>(sd n n σ.1 σ.2.1 σ.2.2.1 σ.2.2.2.1 ρ.1).bind (ef K))) none),xm:=fun c q=>(cond (Nat.beq c 0&&Nat.beq (q.getD 1000000) 0&&q.isSome) (some [(5,some (.sl .str))]) none) }
def Hn (n:Nat) (K:XE→List AV→pa→Option Out) (m:Nat) (s1:BA) (by01:Int) (from0:Int) (i:Int) (l:(Sq BA)):Option Out:=Oc tys (ja Out (Il n)) (In n) n (ya [1,1,1,0,1,0,0] (ia Tryz.f60)) 0 rt ot K m (s1,(by01,(from0,(i,())))) (l,())
theorem aJ (n:Nat) (K:XE→List AV→pa→Option Out):∀ (m:Nat) s1 by01 from0 i l,Hn n K m s1 by01 from0 i l=(sd n m s1 by01 from0 i l).bind (ef K)
  | 0,_,_,_,_,_=>by kernel_rfl
  | m+1,s1,by01,from0,i,l=>by
    have h1:Hn n K (m+1) s1 by01 from0 i l=Tj n s1 by01 from0 i l (Hn n K m) (fun a=>ef K (.out a)) (fun a=>ef K (.ret a)) (fun p=>ef K (.pan p)):=by kernel_rfl
    have h2:Hn n K m=fun s1 by01 from0 i l=>(sd n m s1 by01 from0 i l).bind (ef K):=by
      repeat (refine funext fun _=>?_)
      exact aJ n K m _ _ _ _ _
    rw [h1,h2];exact (tY n m _ _ _ _ _ (ef K)).symm
theorem fV (n:Nat):yc tys (ja Out (Il n)) (In n) n (ya [1,1,1,0,1,0,0] (ia Tryz.f60)) 0:=Fa (sp:=rt) (rp:=ot) (by kernel_rfl) fun K σ ρ=>aJ n K n σ.1 σ.2.1 σ.2.2.1 σ.2.2.2.1 ρ.1
theorem uY (n:Nat):ra tys (ja Out (Il n)) (In n) n (ia Tryz.f60) 0:=⟨aa,⟨aa,⟨aa,⟨⟨aa,⟨fV n,⟨⟨aa,⟨aa,aa⟩⟩,⟨⟨aa,⟨⟨aa,aa⟩,aa⟩⟩,aa⟩⟩⟩⟩,⟨aa,aa⟩⟩⟩⟩⟩
theorem H3 (n:Nat):Enters Tryz.prog 60:=enters_of (c:=ia Tryz.f60) Tryz.func60 (by kernel_rfl) (by kernel_rfl)
def jS (n:Nat):Entry:=⟨60,pcT (.pair .str (.pair (.int .u8) .unit)) (.one (.sl .str)) (fun xs=>Gn n xs.1 xs.2.1),none,none⟩
theorem Z7 (n:Nat):EntryOk Tryz.prog gl (jS n):=Aa (H3 n) fun xs y h=>oa tys_ok (mA n) mixed (hint:=In n) (n:=n) Tryz.func60 (Ba (uY n)) (ma (φ:=(fun y=>some (Out.ret (rb (.one (.sl .str)) y)))) (by kernel_rfl) (ucb n xs.1 xs.2.1 _) h)
def Ap (n:Nat):List Entry:=jS n::Il n
theorem pE (n:Nat):AllOk Tryz.prog gl (Ap n):=.cons (Z7 n) (mA n)
def rg (n:Nat) {R:Type} (s1:BA) (n0 i:Int) (kn:BA→Int→Int→Option R) (ko:(Int)→Option R) (kr:(Int×Bool)→Option R) (kp:Int→Option R):Option R:=if (decide (i<(s1.size:Int)))=true then if 0≤i∧i<(s1.size:Int) then if (decide ((bt s1 i)<(48:Int)))=false then if 0≤i∧i<(s1.size:Int) then if (decide ((bt s1 i)>(57:Int)))=true then kr ((0:Int),false) else if 0≤i∧i<(s1.size:Int) then kn s1 (IntKind.wrap .i64 ((IntKind.wrap .i64 ((10:Int)*n0))+(IntKind.wrap .i64 (IntKind.wrap .u8 ((bt s1 i) - (48:Int)))))) (IntKind.wrap .i64 (i+(1:Int))) else none else none else kr ((0:Int),false) else none else ko n0
def Xb (n:Nat):Nat→BA→Int→Int→Option (Lx (Int) (Int×Bool))
 | 0,_,_,_=>none
 | m+1,s1,n0,i=>rg n s1 n0 i (Xb n m) (fun a=>some (.out a)) (fun a=>some (.ret a)) (fun p=>some (.pan p))
theorem vY (n m:Nat) {S:Type}:∀ s1 n0 i (φ:_→Option S),(Xb n (m+1) s1 n0 i).bind φ=rg n s1 n0 i (fun s1 n0 i=>(Xb n m s1 n0 i).bind φ) (fun a=>φ (.out a)) (fun a=>φ (.ret a)) (fun p=>φ (.pan p)):=by
  intros;first | (simp only [Xb,rg,la,fa,iB,bB,oL,oX,nB,Option.bind_some]) | rfl
def ut:List Sl:=.dat .str::.top::.top::.top::.dat (.int .i64)::.dat (.int .i64)::tp 42 []
def tt:List RS:=[]
def fJ:List Sl:=tp 4 (.dat (.int .i64)::tp 43 [])
def eJ:List RS:=[]
def iJ:List Sl:=.top::.top::.dat (.int .i64)::.dat .bool::tp 44 []
def gJ:List RS:=[]
def ff (K:XE→List AV→pa→Option Out):Lx (Int) (Int×Bool)→Option Out:=fun x=>onL x (fun a=>vc fJ eJ (a,()) () (K (.exit 0))) (fun a=>vc iJ gJ (a.1,(a.2,())) () (K .ret)) (fun _=>none)
def tC (n:Nat) {R:Type} (s:BA) (k:(Int×Bool×Unit)→Option R):Option R:=if (s.toList==(⟨#[]⟩:BA).toList)=false then if (decide ((s.size:Int)>(16:Int)))=false then if (decide ((s.size:Int)>(1:Int)))=true then if 0≤(0:Int)∧(0:Int)<(s.size:Int) then if ((bt s (0:Int))==(48:Int))=true then k ((0:Int),(false,())) else (Xb n n s (0:Int) (0:Int)).bind fun x_1=>onL x_1 (fun a_2=>k (a_2,(true,()))) (fun a_3=>k (a_3.1,(a_3.2,()))) (fun _=>none) else none else (Xb n n s (0:Int) (0:Int)).bind fun x_4=>onL x_4 (fun a_5=>k (a_5,(true,()))) (fun a_6=>k (a_6.1,(a_6.2,()))) (fun _=>none) else k ((0:Int),(false,())) else k ((0:Int),(false,()))
def sC (n:Nat) (s:BA):Option (Int×Bool×Unit):=tC n s some
theorem vcb (n:Nat) {S:Type}:∀ s (φ:_→Option S),(sC n s).bind φ=tC n s φ:=by
  intros;unfold sC tC;first | (simp only [la,fa,iB,bB,oL,oX,nB,Option.bind_some]) | rfl
def Kn (n:Nat):Hint Out:={ live:=fun c=>(cond (Nat.beq c 0) (lv [0,4,5]) []),run:=fun c=>(cond (Nat.beq c 0) (some (Ng ut tt fun σ ρ K=>(Xb n n σ.1 σ.2.1 σ.2.2.1).bind (ff K))) none),xm:=fun c q=>(cond (Nat.beq c 0&&Nat.beq (q.getD 1000000) 0&&q.isSome) (some [(4,none)]) (cond (Nat.beq c 1&&q.isNone) (some [(2,none),(3,none)]) none)) }
def Jn (n:Nat) (K:XE→List AV→pa→Option Out) (m:Nat) (s1:BA) (n0:Int) (i:Int):Option Out:=Oc tys (ja Out (Ap n)) (Kn n) n (ya [1,1,1,0,1,0,0] (ia Tryz.f85)) 0 ut tt K m (s1,(n0,(i,()))) ()
theorem dJ (n:Nat) (K:XE→List AV→pa→Option Out):∀ (m:Nat) s1 n0 i,Jn n K m s1 n0 i=(Xb n m s1 n0 i).bind (ff K)
  | 0,_,_,_=>by kernel_rfl
  | m+1,s1,n0,i=>by
    have h1:Jn n K (m+1) s1 n0 i=rg n s1 n0 i (Jn n K m) (fun a=>ff K (.out a)) (fun a=>ff K (.ret a)) (fun p=>ff K (.pan p)):=by kernel_rfl
    have h2:Jn n K m=fun s1 n0 i=>(Xb n m s1 n0 i).bind (ff K):=by
      repeat (refine funext fun _=>?_)
      exact dJ n K m _ _ _
    rw [h1,h2];exact (vY n m _ _ _ (ff K)).symm
theorem gV (n:Nat):yc tys (ja Out (Ap n)) (Kn n) n (ya [1,1,1,0,1,0,0] (ia Tryz.f85)) 0:=Fa (sp:=ut) (rp:=tt) (by kernel_rfl) fun K σ ρ=>dJ n K n σ.1 σ.2.1 σ.2.2.1
theorem wY (n:Nat):ra tys (ja Out (Ap n)) (Kn n) n (ia Tryz.f85) 0:=⟨aa,⟨⟨aa,⟨⟨aa,aa⟩,aa⟩⟩,⟨aa,⟨⟨aa,⟨gV n,⟨⟨aa,⟨aa,aa⟩⟩,⟨⟨⟨aa,⟨⟨aa,aa⟩,aa⟩⟩,aa⟩,aa⟩⟩⟩⟩,⟨aa,aa⟩⟩⟩⟩⟩
theorem I3 (n:Nat):Enters Tryz.prog 85:=enters_of (c:=ia Tryz.f85) Tryz.func85 (by kernel_rfl) (by kernel_rfl)
def kS (n:Nat):Entry:=⟨85,pcT (.pair .str .unit) (.many (.pair (.int .i64) (.pair .bool .unit))) (fun xs=>sC n xs.1),none,none⟩
theorem b8 (n:Nat):EntryOk Tryz.prog gl (kS n):=Aa (I3 n) fun xs y h=>oa tys_ok (pE n) mixed (hint:=Kn n) (n:=n) Tryz.func85 (Ba (wY n)) (ma (φ:=(fun y=>some (Out.ret (rb (.many (.pair (.int .i64) (.pair .bool .unit))) y)))) (by kernel_rfl) (vcb n xs.1 _) h)
def Bp (n:Nat):List Entry:=kS n::Ap n
theorem qE (n:Nat):AllOk Tryz.prog gl (Bp n):=.cons (b8 n) (pE n)
def Vg (n:Nat) {R:Type} (l:(Sq BA)) (i:Int) (kn:(Sq BA)→Int→Option R) (ko:((Sq BA))→Option R) (kr:(Bool)→Option R) (kp:Int→Option R):Option R:=if (decide (i<(l.n:Int)))=true then if 0≤i∧i<(l.n:Int) then (sC n (l.at' (Int.toNat i))).bind fun v1=>if (!v1.2.1)=false then if (decide (v1.1>(255:Int)))=true then kr false else kn l (IntKind.wrap .i64 (i+(1:Int))) else kr false else none else ko l
def Yb (n:Nat):Nat→(Sq BA)→Int→Option (Lx ((Sq BA)) (Bool))
 | 0,_,_=>none
 | m+1,l,i=>Vg n l i (Yb n m) (fun a=>some (.out a)) (fun a=>some (.ret a)) (fun p=>some (.pan p))
theorem KS (n m:Nat) {S:Type}:∀ l i (φ:_→Option S),(Yb n (m+1) l i).bind φ=Vg n l i (fun l i=>(Yb n m l i).bind φ) (fun a=>φ (.out a)) (fun a=>φ (.ret a)) (fun p=>φ (.pan p)):=by
  intros;first | (simp only [Yb,Vg,la,fa,iB,bB,oL,oX,nB,Option.bind_some]) | rfl
def qm:List Sl:=.top::.top::.top::.dat (.sl .str)::.dat (.int .i64)::tp 47 []
def om:List RS:=[]
def qD:List Sl:=.top::.top::.top::.dat (.sl .str)::tp 48 []
def pD:List RS:=[]
def sD:List Sl:=.top::.top::.dat .bool::tp 49 []
def rD:List RS:=[]
def ud (K:XE→List AV→pa→Option Out):Lx ((Sq BA)) (Bool)→Option Out:=fun x=>onL x (fun a=>vc qD pD (a,()) () (K (.exit 0))) (fun a=>vc sD rD (a,()) () (K .ret)) (fun _=>none)
def br (n:Nat) {R:Type} (s:BA) (k:Bool→Option R):Option R:=if (decide ((s.size:Int)<(2:Int)))=false then if 0≤(0:Int)∧(0:Int)<(s.size:Int) then if ((bt s (0:Int)) !=(91:Int))=false then if 0≤(IntKind.wrap .i64 ((s.size:Int) - (1:Int)))∧(IntKind.wrap .i64 ((s.size:Int) - (1:Int)))<(s.size:Int) then if ((bt s (IntKind.wrap .i64 ((s.size:Int) - (1:Int)))) !=(93:Int))=true then k false else if 0≤(IntKind.wrap .i64 ((s.size:Int) - (1:Int)))∧(IntKind.wrap .i64 ((s.size:Int) - (1:Int)))≤(s.size:Int) then if 0≤(1:Int)∧(1:Int)≤(IntKind.wrap .i64 ((s.size:Int) - (1:Int))) then (Gn n (s.extract (Int.toNat (1:Int)) (Int.toNat (IntKind.wrap .i64 ((s.size:Int) - (1:Int))))) (46:Int)).bind fun v=>(Yb n n v (0:Int)).bind fun x_1=>onL x_1 (fun a_2=>k ((a_2.n:Int)==(4:Int))) (fun a_3=>k a_3) (fun _=>none) else none else none else none else k false else none else k false
def xo (n:Nat) (s:BA):Option Bool:=br n s some
theorem Z3 (n:Nat) {S:Type}:∀ s (φ:_→Option S),(xo n s).bind φ=br n s φ:=by
  intros;unfold xo br;first | (simp only [la,fa,iB,bB,oL,oX,nB,Option.bind_some]) | rfl
def cj (n:Nat):Hint Out:={ live:=fun c=>(cond (Nat.beq c 0) [(3,some (.sl .str)),(4,none)] []),run:=fun c=>(cond (Nat.beq c 0) (some (Ng qm om fun σ ρ K=>(Yb n n σ.1 σ.2.1).bind (ud K))) none),xm:=fun c q=>(cond (Nat.beq c 0&&Nat.beq (q.getD 1000000) 0&&q.isSome) (some [(3,some (.sl .str))]) (cond (Nat.beq c 1&&q.isNone) (some [(2,none)]) none)) }
def bj (n:Nat) (K:XE→List AV→pa→Option Out) (m:Nat) (l:(Sq BA)) (i:Int):Option Out:=Oc tys (ja Out (Bp n)) (cj n) n (ya [1,1,1,0,1,0,0] (ia Tryz.f59)) 0 qm om K m (l,(i,())) ()
theorem LA (n:Nat) (K:XE→List AV→pa→Option Out):∀ (m:Nat) l i,bj n K m l i=(Yb n m l i).bind (ud K)
  | 0,_,_=>by kernel_rfl
  | m+1,l,i=>by
    have h1:bj n K (m+1) l i=Vg n l i (bj n K m) (fun a=>ud K (.out a)) (fun a=>ud K (.ret a)) (fun p=>ud K (.pan p)):=by kernel_rfl
    have h2:bj n K m=fun l i=>(Yb n m l i).bind (ud K):=by
      repeat (refine funext fun _=>?_)
      exact LA n K m _ _
    rw [h1,h2];exact (KS n m _ _ (ud K)).symm
theorem nP (n:Nat):yc tys (ja Out (Bp n)) (cj n) n (ya [1,1,1,0,1,0,0] (ia Tryz.f59)) 0:=Fa (sp:=qm) (rp:=om) (by kernel_rfl) fun K σ ρ=>LA n K n σ.1 σ.2.1
theorem LS (n:Nat):ra tys (ja Out (Bp n)) (cj n) n (ia Tryz.f59) 0:=⟨aa,⟨⟨aa,⟨⟨aa,aa⟩,aa⟩⟩,⟨aa,⟨⟨aa,⟨nP n,⟨⟨aa,⟨aa,aa⟩⟩,⟨⟨aa,⟨aa,⟨⟨aa,aa⟩,aa⟩⟩⟩,aa⟩⟩⟩⟩,⟨aa,aa⟩⟩⟩⟩⟩
theorem vV (n:Nat):Enters Tryz.prog 59:=enters_of (c:=ia Tryz.f59) Tryz.func59 (by kernel_rfl) (by kernel_rfl)
def xJ (n:Nat):Entry:=⟨59,pcT (.pair .str .unit) (.one .bool) (fun xs=>xo n xs.1),none,none⟩
theorem GY (n:Nat):EntryOk Tryz.prog gl (xJ n):=Aa (vV n) fun xs y h=>oa tys_ok (qE n) mixed (hint:=cj n) (n:=n) Tryz.func59 (Ba (LS n)) (ma (φ:=(fun y=>some (Out.ret (rb (.one .bool) y)))) (by kernel_rfl) (Z3 n xs.1 _) h)
def Pw (n:Nat):List Entry:=xJ n::Bp n
theorem Wx (n:Nat):AllOk Tryz.prog gl (Pw n):=.cons (GY n) (qE n)
def FC (n:Nat) {R:Type} (c:Int) (k:Bool→Option R):Option R:=if (decide (c≥(48:Int)))=true then k (decide (c≤(57:Int))) else k false
def ol (n:Nat) (c:Int):Option Bool:=FC n c some
theorem Fcb (n:Nat) {S:Type}:∀ c (φ:_→Option S),(ol n c).bind φ=FC n c φ:=by
  intros;unfold ol FC;first | (simp only [la,fa,iB,bB,oL,oX,nB,Option.bind_some]) | rfl
def OJ (n:Nat):Hint Out:={ live:=fun c=>[],run:=fun c=>none,xm:=fun c q=>none }
theorem LY (n:Nat):ra tys (ja Out (Pw n)) (OJ n) n (ia Tryz.f61) 0:=na (fun _=>rfl) _ _ (by kernel_rfl)
theorem A4 (n:Nat):Enters Tryz.prog 61:=enters_of (c:=ia Tryz.f61) Tryz.func61 (by kernel_rfl) (by kernel_rfl)
def OS (n:Nat):Entry:=⟨61,pcT (.pair (.int .u8) .unit) (.one .bool) (fun xs=>ol n xs.1),none,none⟩
theorem C8 (n:Nat):EntryOk Tryz.prog gl (OS n):=Aa (A4 n) fun xs y h=>oa tys_ok (Wx n) mixed (hint:=OJ n) (n:=n) Tryz.func61 (Ba (LY n)) (ma (φ:=(fun y=>some (Out.ret (rb (.one .bool) y)))) (by kernel_rfl) (Fcb n xs.1 _) h)
def di (n:Nat):List Entry:=OS n::Pw n
theorem ME (n:Nat):AllOk Tryz.prog gl (di n):=.cons (C8 n) (Wx n)
def Gi (n:Nat) {R:Type} (l1:(Sq BA)) (i1:Int) (w:BA) (k0:Int) (kn:(Sq BA)→Int→BA→Int→Option R) (ko:((Sq BA)×Int)→Option R) (kr:(Bool)→Option R) (kp:Int→Option R):Option R:=if (decide (k0<(w.size:Int)))=true then if 0≤k0∧k0<(w.size:Int) then if (decide ((bt w k0)≥(97:Int)))=true then if 0≤k0∧k0<(w.size:Int) then if (!(decide ((bt w k0)≤(122:Int))))=true then if 0≤k0∧k0<(w.size:Int) then (ol n (bt w k0)).bind fun v2=>if (!v2)=true then if 0≤k0∧k0<(w.size:Int) then if ((bt w k0) !=(45:Int))=true then kr false else kn l1 i1 w (IntKind.wrap .i64 (k0+(1:Int))) else none else kn l1 i1 w (IntKind.wrap .i64 (k0+(1:Int))) else none else kn l1 i1 w (IntKind.wrap .i64 (k0+(1:Int))) else none else if 0≤k0∧k0<(w.size:Int) then (ol n (bt w k0)).bind fun v3=>if (!v3)=true then if 0≤k0∧k0<(w.size:Int) then if ((bt w k0) !=(45:Int))=true then kr false else kn l1 i1 w (IntKind.wrap .i64 (k0+(1:Int))) else none else kn l1 i1 w (IntKind.wrap .i64 (k0+(1:Int))) else none else none else ko (l1,i1)
def Cc (n:Nat):Nat→(Sq BA)→Int→BA→Int→Option (Lx ((Sq BA)×Int) (Bool))
 | 0,_,_,_,_=>none
 | m+1,l1,i1,w,k0=>Gi n l1 i1 w k0 (Cc n m) (fun a=>some (.out a)) (fun a=>some (.ret a)) (fun p=>some (.pan p))
theorem tV (n m:Nat) {S:Type}:∀ l1 i1 w k0 (φ:_→Option S),(Cc n (m+1) l1 i1 w k0).bind φ=Gi n l1 i1 w k0 (fun l1 i1 w k0=>(Cc n m l1 i1 w k0).bind φ) (fun a=>φ (.out a)) (fun a=>φ (.ret a)) (fun p=>φ (.pan p)):=by
  intros;first | (simp only [Cc,Gi,la,fa,iB,bB,oL,oX,nB,Option.bind_some]) | rfl
def Mp:List Sl:=.top::.top::.top::.dat (.sl .str)::.dat (.int .i64)::.dat .str::.dat (.int .i64)::tp 68 []
def Lp:List RS:=[]
def GG:List Sl:=.top::.top::.top::.dat (.sl .str)::.dat (.int .i64)::tp 70 []
def EG:List RS:=[]
def IG:List Sl:=.top::.top::.dat .bool::tp 72 []
def HG:List RS:=[]
def ce (K:XE→List AV→pa→Option Out):Lx ((Sq BA)×Int) (Bool)→Option Out:=fun x=>onL x (fun a=>vc GG EG (a.1,(a.2,())) () (K (.exit 2))) (fun a=>vc IG HG (a,()) () (K .ret)) (fun _=>none)
def Fi (n:Nat) {R:Type} (l:(Sq BA)) (i:Int) (kn:(Sq BA)→Int→Option R) (ko:(Unit)→Option R) (kr:(Bool)→Option R) (kp:Int→Option R):Option R:=if (decide (i<(l.n:Int)))=true then if 0≤i∧i<(l.n:Int) then if (decide (((l.at' (Int.toNat i)).size:Int)<(1:Int)))=false then if (decide (((l.at' (Int.toNat i)).size:Int)>(63:Int)))=false then if 0≤(0:Int)∧(0:Int)<((l.at' (Int.toNat i)).size:Int) then if ((bt (l.at' (Int.toNat i)) (0:Int))==(45:Int))=false then if 0≤(IntKind.wrap .i64 (((l.at' (Int.toNat i)).size:Int) - (1:Int)))∧(IntKind.wrap .i64 (((l.at' (Int.toNat i)).size:Int) - (1:Int)))<((l.at' (Int.toNat i)).size:Int) then if ((bt (l.at' (Int.toNat i)) (IntKind.wrap .i64 (((l.at' (Int.toNat i)).size:Int) - (1:Int))))==(45:Int))=true then kr false else (Cc n n l i (l.at' (Int.toNat i)) (0:Int)).bind fun x_1=>onL x_1 (fun a_2=>kn a_2.1 (IntKind.wrap .i64 (a_2.2+(1:Int)))) (fun a_3=>kr a_3) (fun _=>none) else none else kr false else none else kr false else kr false else none else ko ()
def Bc (n:Nat):Nat→(Sq BA)→Int→Option (Lx (Unit) (Bool))
 | 0,_,_=>none
 | m+1,l,i=>Fi n l i (Bc n m) (fun a=>some (.out a)) (fun a=>some (.ret a)) (fun p=>some (.pan p))
theorem sV (n m:Nat) {S:Type}:∀ l i (φ:_→Option S),(Bc n (m+1) l i).bind φ=Fi n l i (fun l i=>(Bc n m l i).bind φ) (fun a=>φ (.out a)) (fun a=>φ (.ret a)) (fun p=>φ (.pan p)):=by
  intros;first | (simp only [Bc,Fi,la,fa,iB,bB,oL,oX,nB,Option.bind_some]) | rfl
def Kp:List Sl:=.top::.top::.top::.dat (.sl .str)::.dat (.int .i64)::tp 70 []
def Jp:List RS:=[]
def BG:List Sl:=tp 75 []
def AG:List RS:=[]
def DG:List Sl:=.top::.top::.dat .bool::tp 72 []
def CG:List RS:=[]
def be (K:XE→List AV→pa→Option Out):Lx (Unit) (Bool)→Option Out:=fun x=>onL x (fun a=>vc BG AG () () (K (.exit 0))) (fun a=>vc DG CG (a,()) () (K .ret)) (fun _=>none)
def Ow (n:Nat) {R:Type} (s:BA) (k:Bool→Option R):Option R:=if (decide ((s.size:Int)>(255:Int)))=true then k false else (xo n s).bind fun v=>if v=true then k true else (Gn n s (46:Int)).bind fun v1=>(Bc n n v1 (0:Int)).bind fun x_1=>onL x_1 (fun a_2=>k true) (fun a_3=>k a_3) (fun _=>none)
def aj (n:Nat) (s:BA):Option Bool:=Ow n s some
theorem w8 (n:Nat) {S:Type}:∀ s (φ:_→Option S),(aj n s).bind φ=Ow n s φ:=by
  intros;unfold aj Ow;first | (simp only [la,fa,iB,bB,oL,oX,nB,Option.bind_some]) | rfl
def Lf (n:Nat):Hint Out:={ live:=fun c=>(cond (Nat.beq c 0) [(3,some (.sl .str)),(4,none)] (cond (Nat.beq c 2) [(3,some (.sl .str)),(4,none),(5,none),(6,none)] [])),run:=fun c=>(cond (Nat.beq c 0) (some (Ng Kp Jp fun σ ρ K=>(Bc n n σ.1 σ.2.1).bind (be K))) (cond (Nat.beq c 2) (some (Ng Mp Lp fun σ ρ K=>(Cc n n σ.1 σ.2.1 σ.2.2.1 σ.2.2.2.1).bind (ce K))) none)),xm:=fun c q=>(cond (Nat.beq c 0&&Nat.beq (q.getD 1000000) 0&&q.isSome) (some []) (cond (Nat.beq c 2&&Nat.beq (q.getD 1000000) 2&&q.isSome) (some [(3,some (.sl .str)),(4,none)]) (cond (Nat.beq c 3&&q.isNone) (some [(2,none)]) (cond (Nat.beq c 1&&q.isNone) (some [(2,none)]) none)))) }
def ll (n:Nat) (K:XE→List AV→pa→Option Out) (m:Nat) (l1:(Sq BA)) (i1:Int) (w:BA) (k0:Int):Option Out:=Oc tys (ja Out (di n)) (Lf n) n (ya [1,1,1,1,0,1,0,0,1,0,0,1,1,1,0,0] (ia Tryz.f31)) 2 Mp Lp K m (l1,(i1,(w,(k0,())))) ()
theorem IE (n:Nat) (K:XE→List AV→pa→Option Out):∀ (m:Nat) l1 i1 w k0,ll n K m l1 i1 w k0=(Cc n m l1 i1 w k0).bind (ce K)
  | 0,_,_,_,_=>by kernel_rfl
  | m+1,l1,i1,w,k0=>by
    have h1:ll n K (m+1) l1 i1 w k0=Gi n l1 i1 w k0 (ll n K m) (fun a=>ce K (.out a)) (fun a=>ce K (.ret a)) (fun p=>ce K (.pan p)):=by kernel_rfl
    have h2:ll n K m=fun l1 i1 w k0=>(Cc n m l1 i1 w k0).bind (ce K):=by
      repeat (refine funext fun _=>?_)
      exact IE n K m _ _ _ _
    rw [h1,h2];exact (tV n m _ _ _ _ (ce K)).symm
theorem JS (n:Nat):yc tys (ja Out (di n)) (Lf n) n (ya [1,1,1,1,0,1,0,0,1,0,0,1,1,1,0,0] (ia Tryz.f31)) 2:=Fa (sp:=Mp) (rp:=Lp) (by kernel_rfl) fun K σ ρ=>IE n K n σ.1 σ.2.1 σ.2.2.1 σ.2.2.2.1
def il (n:Nat) (K:XE→List AV→pa→Option Out) (m:Nat) (l:(Sq BA)) (i:Int):Option Out:=Oc tys (ja Out (di n)) (Lf n) n (ya [1,1,1,1,0,1,0,0] (ia Tryz.f31)) 0 Kp Jp K m (l,(i,())) ()
theorem HE (n:Nat) (K:XE→List AV→pa→Option Out):∀ (m:Nat) l i,il n K m l i=(Bc n m l i).bind (be K)
  | 0,_,_=>by kernel_rfl
  | m+1,l,i=>by
    have h1:il n K (m+1) l i=Fi n l i (il n K m) (fun a=>be K (.out a)) (fun a=>be K (.ret a)) (fun p=>be K (.pan p)):=by kernel_rfl
    have h2:il n K m=fun l i=>(Bc n m l i).bind (be K):=by
      repeat (refine funext fun _=>?_)
      exact HE n K m _ _
    rw [h1,h2];exact (sV n m _ _ (be K)).symm
theorem IS (n:Nat):yc tys (ja Out (di n)) (Lf n) n (ya [1,1,1,1,0,1,0,0] (ia Tryz.f31)) 0:=Fa (sp:=Kp) (rp:=Jp) (by kernel_rfl) fun K σ ρ=>HE n K n σ.1 σ.2.1
theorem uV (n:Nat):ra tys (ja Out (di n)) (Lf n) n (ia Tryz.f31) 0:=⟨aa,⟨⟨aa,⟨⟨aa,aa⟩,aa⟩⟩,⟨⟨aa,⟨⟨aa,aa⟩,aa⟩⟩,⟨aa,⟨⟨aa,⟨IS n,⟨⟨aa,⟨aa,aa⟩⟩,⟨⟨aa,⟨⟨aa,⟨⟨aa,aa⟩,aa⟩⟩,⟨aa,⟨JS n,⟨⟨aa,⟨aa,aa⟩⟩,⟨⟨aa,⟨⟨aa,aa⟩,aa⟩⟩,aa⟩⟩⟩⟩⟩⟩,aa⟩⟩⟩⟩,⟨aa,aa⟩⟩⟩⟩⟩⟩
theorem FY (n:Nat):Enters Tryz.prog 31:=enters_of (c:=ia Tryz.f31) Tryz.func31 (by kernel_rfl) (by kernel_rfl)
def gO (n:Nat):Entry:=⟨31,pcT (.pair .str .unit) (.one .bool) (fun xs=>aj n xs.1),none,none⟩
theorem Y3 (n:Nat):EntryOk Tryz.prog gl (gO n):=Aa (FY n) fun xs y h=>oa tys_ok (ME n) mixed (hint:=Lf n) (n:=n) Tryz.func31 (Ba (uV n)) (ma (φ:=(fun y=>some (Out.ret (rb (.one .bool) y)))) (by kernel_rfl) (w8 n xs.1 _) h)
def JA (n:Nat):List Entry:=gO n::di n
theorem KA (n:Nat):AllOk Tryz.prog gl (JA n):=.cons (Y3 n) (ME n)
def BC (n:Nat) {R:Type} (state:Int) (k:Bool→Option R):Option R:=if (state==(2:Int))=false then if (state==(3:Int))=false then k (state==(4:Int)) else k true else k true
def AC (n:Nat) (state:Int):Option Bool:=BC n state some
theorem Acb (n:Nat) {S:Type}:∀ state (φ:_→Option S),(AC n state).bind φ=BC n state φ:=by
  intros;unfold AC BC;first | (simp only [la,fa,iB,bB,oL,oX,nB,Option.bind_some]) | rfl
def wJ (n:Nat):Hint Out:={ live:=fun c=>[],run:=fun c=>none,xm:=fun c q=>none }
theorem EY (n:Nat):ra tys (ja Out (JA n)) (wJ n) n (ia Tryz.f32) 0:=na (fun _=>rfl) _ _ (by kernel_rfl)
theorem V3 (n:Nat):Enters Tryz.prog 32:=enters_of (c:=ia Tryz.f32) Tryz.func32 (by kernel_rfl) (by kernel_rfl)
def GS (n:Nat):Entry:=⟨32,pcT (.pair (.int .i64) .unit) (.one .bool) (fun xs=>AC n xs.1),none,none⟩
theorem s8 (n:Nat):EntryOk Tryz.prog gl (GS n):=Aa (V3 n) fun xs y h=>oa tys_ok (KA n) mixed (hint:=wJ n) (n:=n) Tryz.func32 (Ba (EY n)) (ma (φ:=(fun y=>some (Out.ret (rb (.one .bool) y)))) (by kernel_rfl) (Acb n xs.1 _) h)
def zG (n:Nat):List Entry:=GS n::JA n
theorem GE (n:Nat):AllOk Tryz.prog gl (zG n):=.cons (s8 n) (KA n)
def Sw (n:Nat) {R:Type} (c:Int) (k:Bool→Option R):Option R:=if (decide (c≥(97:Int)))=true then if (decide (c≤(122:Int)))=false then if (decide (c≥(65:Int)))=true then k (decide (c≤(90:Int))) else k false else k true else if (decide (c≥(65:Int)))=true then k (decide (c≤(90:Int))) else k false
def qv (n:Nat) (c:Int):Option Bool:=Sw n c some
theorem E8 (n:Nat) {S:Type}:∀ c (φ:_→Option S),(qv n c).bind φ=Sw n c φ:=by
  intros;unfold qv Sw;first | (simp only [la,fa,iB,bB,oL,oX,nB,Option.bind_some]) | rfl
def OE (n:Nat):Hint Out:={ live:=fun c=>[],run:=fun c=>none,xm:=fun c q=>none }
theorem BV (n:Nat):ra tys (ja Out (zG n)) (OE n) n (ia Tryz.f115) 0:=na (fun _=>rfl) _ _ (by kernel_rfl)
theorem OY (n:Nat):Enters Tryz.prog 115:=enters_of (c:=ia Tryz.f115) Tryz.func115 (by kernel_rfl) (by kernel_rfl)
def lO (n:Nat):Entry:=⟨115,pcT (.pair (.int .u8) .unit) (.one .bool) (fun xs=>qv n xs.1),none,none⟩
theorem C4 (n:Nat):EntryOk Tryz.prog gl (lO n):=Aa (OY n) fun xs y h=>oa tys_ok (GE n) mixed (hint:=OE n) (n:=n) Tryz.func115 (Ba (BV n)) (ma (φ:=(fun y=>some (Out.ret (rb (.one .bool) y)))) (by kernel_rfl) (E8 n xs.1 _) h)
def Ll (n:Nat):List Entry:=lO n::zG n
theorem QA (n:Nat):AllOk Tryz.prog gl (Ll n):=.cons (C4 n) (GE n)
def zo (n:Nat) {R:Type} (c1:Int) (s:BA) (i:Int) (kn:Int→BA→Int→Option R) (ko:(Unit)→Option R) (kr:(Bool)→Option R) (kp:Int→Option R):Option R:=if (decide (i<(s.size:Int)))=true then if 0≤i∧i<(s.size:Int) then if ((bt s i)==c1)=true then kr true else kn c1 s (IntKind.wrap .i64 (i+(1:Int))) else none else ko ()
def xe (n:Nat):Nat→Int→BA→Int→Option (Lx (Unit) (Bool))
 | 0,_,_,_=>none
 | m+1,c1,s,i=>zo n c1 s i (xe n m) (fun a=>some (.out a)) (fun a=>some (.ret a)) (fun p=>some (.pan p))
theorem H4 (n m:Nat) {S:Type}:∀ c1 s i (φ:_→Option S),(xe n (m+1) c1 s i).bind φ=zo n c1 s i (fun c1 s i=>(xe n m c1 s i).bind φ) (fun a=>φ (.out a)) (fun a=>φ (.ret a)) (fun p=>φ (.pan p)):=by
  intros;first | (simp only [xe,zo,la,fa,iB,bB,oL,oX,nB,Option.bind_some]) | rfl
def Ww:List Sl:=.dat (.int .u8)::.top::.top::.dat .str::.dat (.int .i64)::tp 11 []
def Vw:List RS:=[]
def qM:List Sl:=tp 16 []
def pM:List RS:=[]
def sM:List Sl:=.top::.top::.dat .bool::tp 13 []
def rM:List RS:=[]
def wg (K:XE→List AV→pa→Option Out):Lx (Unit) (Bool)→Option Out:=fun x=>onL x (fun a=>vc qM pM () () (K (.exit 0))) (fun a=>vc sM rM (a,()) () (K .ret)) (fun _=>none)
def jK (n:Nat) {R:Type} (c:Int) (k:Bool→Option R):Option R:=(xe n n c (⟨#[33,35,36,37,38,39,42,43,45,47,61,63,94,95,96,123,124,125,126]⟩:BA) (0:Int)).bind fun x_1=>onL x_1 (fun a_2=>k false) (fun a_3=>k a_3) (fun _=>none)
def oM (n:Nat) (c:Int):Option Bool:=jK n c some
theorem pfb (n:Nat) {S:Type}:∀ c (φ:_→Option S),(oM n c).bind φ=jK n c φ:=by
  intros;unfold oM jK;first | (simp only [la,fa,iB,bB,oL,oX,nB,Option.bind_some]) | rfl
def Fr (n:Nat):Hint Out:={ live:=fun c=>(cond (Nat.beq c 0) (lv [0,3,4]) []),run:=fun c=>(cond (Nat.beq c 0) (some (Ng Ww Vw fun σ ρ K=>(xe n n σ.1 σ.2.1 σ.2.2.1).bind (wg K))) none),xm:=fun c q=>(cond (Nat.beq c 0&&Nat.beq (q.getD 1000000) 0&&q.isSome) (some []) (cond (Nat.beq c 1&&q.isNone) (some [(2,none)]) none)) }
def Er (n:Nat) (K:XE→List AV→pa→Option Out) (m:Nat) (c1:Int) (s:BA) (i:Int):Option Out:=Oc tys (ja Out (Ll n)) (Fr n) n (ya [1,1,0,1,0,0] (ia Tryz.f116)) 0 Ww Vw K m (c1,(s,(i,()))) ()
theorem nO (n:Nat) (K:XE→List AV→pa→Option Out):∀ (m:Nat) c1 s i,Er n K m c1 s i=(xe n m c1 s i).bind (wg K)
  | 0,_,_,_=>by kernel_rfl
  | m+1,c1,s,i=>by
    have h1:Er n K (m+1) c1 s i=zo n c1 s i (Er n K m) (fun a=>wg K (.out a)) (fun a=>wg K (.ret a)) (fun p=>wg K (.pan p)):=by kernel_rfl
    have h2:Er n K m=fun c1 s i=>(xe n m c1 s i).bind (wg K):=by
      repeat (refine funext fun _=>?_)
      exact nO n K m _ _ _
    rw [h1,h2];exact (H4 n m _ _ _ (wg K)).symm
theorem UY (n:Nat):yc tys (ja Out (Ll n)) (Fr n) n (ya [1,1,0,1,0,0] (ia Tryz.f116)) 0:=Fa (sp:=Ww) (rp:=Vw) (by kernel_rfl) fun K σ ρ=>nO n K n σ.1 σ.2.1 σ.2.2.1
theorem I4 (n:Nat):ra tys (ja Out (Ll n)) (Fr n) n (ia Tryz.f116) 0:=⟨aa,⟨aa,⟨⟨aa,⟨UY n,⟨⟨aa,⟨aa,aa⟩⟩,⟨⟨aa,⟨⟨aa,aa⟩,aa⟩⟩,aa⟩⟩⟩⟩,⟨aa,aa⟩⟩⟩⟩
theorem I8 (n:Nat):Enters Tryz.prog 116:=enters_of (c:=ia Tryz.f116) Tryz.func116 (by kernel_rfl) (by kernel_rfl)
def DW (n:Nat):Entry:=⟨116,pcT (.pair (.int .u8) .unit) (.one .bool) (fun xs=>oM n xs.1),none,none⟩
theorem Jcb (n:Nat):EntryOk Tryz.prog gl (DW n):=Aa (I8 n) fun xs y h=>oa tys_ok (QA n) mixed (hint:=Fr n) (n:=n) Tryz.func116 (Ba (I4 n)) (ma (φ:=(fun y=>some (Out.ret (rb (.one .bool) y)))) (by kernel_rfl) (pfb n xs.1 _) h)
def Zj (n:Nat):List Entry:=DW n::Ll n
theorem kK (n:Nat):AllOk Tryz.prog gl (Zj n):=.cons (Jcb n) (QA n)
def Yj (n:Nat) {R:Type} (l1:(Sq BA)) (i1 k0:Int) (kn:(Sq BA)→Int→Int→Option R) (ko:((Sq BA)×Int)→Option R) (kr:(Bool)→Option R) (kp:Int→Option R):Option R:=if 0≤i1∧i1<(l1.n:Int) then if (decide (k0<((l1.at' (Int.toNat i1)).size:Int)))=true then if 0≤i1∧i1<(l1.n:Int) then if 0≤k0∧k0<((l1.at' (Int.toNat i1)).size:Int) then (qv n (bt (l1.at' (Int.toNat i1)) k0)).bind fun v1=>if (!v1)=true then if 0≤i1∧i1<(l1.n:Int) then if 0≤k0∧k0<((l1.at' (Int.toNat i1)).size:Int) then (ol n (bt (l1.at' (Int.toNat i1)) k0)).bind fun v2=>if (!v2)=true then if 0≤i1∧i1<(l1.n:Int) then if 0≤k0∧k0<((l1.at' (Int.toNat i1)).size:Int) then (oM n (bt (l1.at' (Int.toNat i1)) k0)).bind fun v3=>if (!v3)=true then kr false else kn l1 i1 (IntKind.wrap .i64 (k0+(1:Int))) else none else none else kn l1 i1 (IntKind.wrap .i64 (k0+(1:Int))) else none else none else kn l1 i1 (IntKind.wrap .i64 (k0+(1:Int))) else none else none else ko (l1,i1) else none
def Cd (n:Nat):Nat→(Sq BA)→Int→Int→Option (Lx ((Sq BA)×Int) (Bool))
 | 0,_,_,_=>none
 | m+1,l1,i1,k0=>Yj n l1 i1 k0 (Cd n m) (fun a=>some (.out a)) (fun a=>some (.ret a)) (fun p=>some (.pan p))
theorem QY (n m:Nat) {S:Type}:∀ l1 i1 k0 (φ:_→Option S),(Cd n (m+1) l1 i1 k0).bind φ=Yj n l1 i1 k0 (fun l1 i1 k0=>(Cd n m l1 i1 k0).bind φ) (fun a=>φ (.out a)) (fun a=>φ (.ret a)) (fun p=>φ (.pan p)):=by
  intros;first | (simp only [Cd,Yj,la,fa,iB,bB,oL,oX,nB,Option.bind_some]) | rfl
def Jt:List Sl:=.top::.top::.top::.dat (.sl .str)::.dat (.int .i64)::.dat (.int .i64)::tp 50 []
def It:List RS:=[]
def cK:List Sl:=.top::.top::.top::.dat (.sl .str)::.dat (.int .i64)::tp 51 []
def bK:List RS:=[]
def eK:List Sl:=.top::.top::.dat .bool::tp 53 []
def dK:List RS:=[]
def mf (K:XE→List AV→pa→Option Out):Lx ((Sq BA)×Int) (Bool)→Option Out:=fun x=>onL x (fun a=>vc cK bK (a.1,(a.2,())) () (K (.exit 2))) (fun a=>vc eK dK (a,()) () (K .ret)) (fun _=>none)
def Xj (n:Nat) {R:Type} (l:(Sq BA)) (i:Int) (kn:(Sq BA)→Int→Option R) (ko:(Unit)→Option R) (kr:(Bool)→Option R) (kp:Int→Option R):Option R:=if (decide (i<(l.n:Int)))=true then if 0≤i∧i<(l.n:Int) then if ((l.at' (Int.toNat i)).toList==(⟨#[]⟩:BA).toList)=true then kr false else (Cd n n l i (0:Int)).bind fun x_1=>onL x_1 (fun a_2=>kn a_2.1 (IntKind.wrap .i64 (a_2.2+(1:Int)))) (fun a_3=>kr a_3) (fun _=>none) else none else ko ()
def Bd (n:Nat):Nat→(Sq BA)→Int→Option (Lx (Unit) (Bool))
 | 0,_,_=>none
 | m+1,l,i=>Xj n l i (Bd n m) (fun a=>some (.out a)) (fun a=>some (.ret a)) (fun p=>some (.pan p))
theorem PY (n m:Nat) {S:Type}:∀ l i (φ:_→Option S),(Bd n (m+1) l i).bind φ=Xj n l i (fun l i=>(Bd n m l i).bind φ) (fun a=>φ (.out a)) (fun a=>φ (.ret a)) (fun p=>φ (.pan p)):=by
  intros;first | (simp only [Bd,Xj,la,fa,iB,bB,oL,oX,nB,Option.bind_some]) | rfl
def Ht:List Sl:=.top::.top::.top::.dat (.sl .str)::.dat (.int .i64)::tp 51 []
def Gt:List RS:=[]
def XJ:List Sl:=tp 56 []
def WJ:List RS:=[]
def ZJ:List Sl:=.top::.top::.dat .bool::tp 53 []
def YJ:List RS:=[]
def lf (K:XE→List AV→pa→Option Out):Lx (Unit) (Bool)→Option Out:=fun x=>onL x (fun a=>vc XJ WJ () () (K (.exit 0))) (fun a=>vc ZJ YJ (a,()) () (K .ret)) (fun _=>none)
def IC (n:Nat) {R:Type} (s:BA) (k:Bool→Option R):Option R:=(Gn n s (46:Int)).bind fun v=>(Bd n n v (0:Int)).bind fun x_1=>onL x_1 (fun a_2=>k true) (fun a_3=>k a_3) (fun _=>none)
def Dr (n:Nat) (s:BA):Option Bool:=IC n s some
theorem Hcb (n:Nat) {S:Type}:∀ s (φ:_→Option S),(Dr n s).bind φ=IC n s φ:=by
  intros;unfold Dr IC;first | (simp only [la,fa,iB,bB,oL,oX,nB,Option.bind_some]) | rfl
def dh (n:Nat):Hint Out:={ live:=fun c=>(cond (Nat.beq c 0) [(3,some (.sl .str)),(4,none)] (cond (Nat.beq c 2) [(3,some (.sl .str)),(4,none),(5,none)] [])),run:=fun c=>(cond (Nat.beq c 0) (some (Ng Ht Gt fun σ ρ K=>(Bd n n σ.1 σ.2.1).bind (lf K))) (cond (Nat.beq c 2) (some (Ng Jt It fun σ ρ K=>(Cd n n σ.1 σ.2.1 σ.2.2.1).bind (mf K))) none)),xm:=fun c q=>(cond (Nat.beq c 0&&Nat.beq (q.getD 1000000) 0&&q.isSome) (some []) (cond (Nat.beq c 2&&Nat.beq (q.getD 1000000) 2&&q.isSome) (some [(3,some (.sl .str)),(4,none)]) (cond (Nat.beq c 3&&q.isNone) (some [(2,none)]) (cond (Nat.beq c 1&&q.isNone) (some [(2,none)]) none)))) }
def Zn (n:Nat) (K:XE→List AV→pa→Option Out) (m:Nat) (l1:(Sq BA)) (i1:Int) (k0:Int):Option Out:=Oc tys (ja Out (Zj n)) (dh n) n (ya [1,1,0,1,0,0,1,0,0,1,1,0,0] (ia Tryz.f86)) 2 Jt It K m (l1,(i1,(k0,()))) ()
theorem aK (n:Nat) (K:XE→List AV→pa→Option Out):∀ (m:Nat) l1 i1 k0,Zn n K m l1 i1 k0=(Cd n m l1 i1 k0).bind (mf K)
  | 0,_,_,_=>by kernel_rfl
  | m+1,l1,i1,k0=>by
    have h1:Zn n K (m+1) l1 i1 k0=Yj n l1 i1 k0 (Zn n K m) (fun a=>mf K (.out a)) (fun a=>mf K (.ret a)) (fun p=>mf K (.pan p)):=by kernel_rfl
    have h2:Zn n K m=fun l1 i1 k0=>(Cd n m l1 i1 k0).bind (mf K):=by
      repeat (refine funext fun _=>?_)
      exact aK n K m _ _ _
    rw [h1,h2];exact (QY n m _ _ _ (mf K)).symm
theorem EV (n:Nat):yc tys (ja Out (Zj n)) (dh n) n (ya [1,1,0,1,0,0,1,0,0,1,1,0,0] (ia Tryz.f86)) 2:=Fa (sp:=Jt) (rp:=It) (by kernel_rfl) fun K σ ρ=>aK n K n σ.1 σ.2.1 σ.2.2.1
def Yn (n:Nat) (K:XE→List AV→pa→Option Out) (m:Nat) (l:(Sq BA)) (i:Int):Option Out:=Oc tys (ja Out (Zj n)) (dh n) n (ya [1,1,0,1,0,0] (ia Tryz.f86)) 0 Ht Gt K m (l,(i,())) ()
theorem VJ (n:Nat) (K:XE→List AV→pa→Option Out):∀ (m:Nat) l i,Yn n K m l i=(Bd n m l i).bind (lf K)
  | 0,_,_=>by kernel_rfl
  | m+1,l,i=>by
    have h1:Yn n K (m+1) l i=Xj n l i (Yn n K m) (fun a=>lf K (.out a)) (fun a=>lf K (.ret a)) (fun p=>lf K (.pan p)):=by kernel_rfl
    have h2:Yn n K m=fun l i=>(Bd n m l i).bind (lf K):=by
      repeat (refine funext fun _=>?_)
      exact VJ n K m _ _
    rw [h1,h2];exact (PY n m _ _ (lf K)).symm
theorem DV (n:Nat):yc tys (ja Out (Zj n)) (dh n) n (ya [1,1,0,1,0,0] (ia Tryz.f86)) 0:=Fa (sp:=Ht) (rp:=Gt) (by kernel_rfl) fun K σ ρ=>VJ n K n σ.1 σ.2.1
theorem RY (n:Nat):ra tys (ja Out (Zj n)) (dh n) n (ia Tryz.f86) 0:=⟨aa,⟨aa,⟨⟨aa,⟨DV n,⟨⟨aa,⟨aa,aa⟩⟩,⟨⟨⟨aa,⟨⟨aa,aa⟩,aa⟩⟩,⟨aa,⟨EV n,⟨⟨aa,⟨aa,aa⟩⟩,⟨⟨aa,⟨⟨aa,aa⟩,aa⟩⟩,aa⟩⟩⟩⟩⟩,aa⟩⟩⟩⟩,⟨aa,aa⟩⟩⟩⟩
theorem F4 (n:Nat):Enters Tryz.prog 86:=enters_of (c:=ia Tryz.f86) Tryz.func86 (by kernel_rfl) (by kernel_rfl)
def WS (n:Nat):Entry:=⟨86,pcT (.pair .str .unit) (.one .bool) (fun xs=>Dr n xs.1),none,none⟩
theorem G8 (n:Nat):EntryOk Tryz.prog gl (WS n):=Aa (F4 n) fun xs y h=>oa tys_ok (kK n) mixed (hint:=dh n) (n:=n) Tryz.func86 (Ba (RY n)) (ma (φ:=(fun y=>some (Out.ret (rb (.one .bool) y)))) (by kernel_rfl) (Hcb n xs.1 _) h)
def Rp (n:Nat):List Entry:=WS n::Zj n
theorem PE (n:Nat):AllOk Tryz.prog gl (Rp n):=.cons (G8 n) (kK n)
def rc (n:Nat) {R:Type} (s1:BA) (i:Int) (b:(Sq Int)) (kn:BA→Int→(Sq Int)→Option R) (ko:(Unit)→Option R) (kr:(BA×Int×Bool)→Option R) (kp:Int→Option R):Option R:=if (decide (i<(s1.size:Int)))=true then if 0≤i∧i<(s1.size:Int) then if ((bt s1 i)==(34:Int))=true then kr ((CD b.n b.at'),(IntKind.wrap .i64 (i+(1:Int))),true) else if ((bt s1 i)==(92:Int))=true then if (decide ((IntKind.wrap .i64 (i+(1:Int)))≥(s1.size:Int)))=true then ko () else if 0≤(IntKind.wrap .i64 (i+(1:Int)))∧(IntKind.wrap .i64 (i+(1:Int)))<(s1.size:Int) then if (decide ((bt s1 (IntKind.wrap .i64 (i+(1:Int))))<(32:Int)))=false then if (decide ((bt s1 (IntKind.wrap .i64 (i+(1:Int))))>(126:Int)))=true then ko () else if zb (b.n+1) 1=true then kn s1 (IntKind.wrap .i64 ((IntKind.wrap .i64 (i+(1:Int)))+(1:Int))) (⟨(b.n+1),fun q=>if q<b.n then b.at' q else (fun q=>List.getD (α:=Int) [(bt s1 (IntKind.wrap .i64 (i+(1:Int))))] q (ua (.int .u8))) (q - b.n)⟩:Sq Int) else none else ko () else none else if (decide ((bt s1 i)<(32:Int)))=false then if (decide ((bt s1 i)>(126:Int)))=true then ko () else if zb (b.n+1) 1=true then kn s1 (IntKind.wrap .i64 (i+(1:Int))) (⟨(b.n+1),fun q=>if q<b.n then b.at' q else (fun q=>List.getD (α:=Int) [(bt s1 i)] q (ua (.int .u8))) (q - b.n)⟩:Sq Int) else none else
 ko () else none else ko ()
def Pa (n:Nat):Nat→BA→Int→(Sq Int)→Option (Lx (Unit) (BA×Int×Bool))
 | 0,_,_,_=>none
 | m+1,s1,i,b=>rc n s1 i b (Pa n m) (fun a=>some (.out a)) (fun a=>some (.ret a)) (fun p=>some (.pan p))
theorem MY (n m:Nat) {S:Type}:∀ s1 i b (φ:_→Option S),(Pa n (m+1) s1 i b).bind φ=rc n s1 i b (fun s1 i b=>(Pa n m s1 i b).bind φ) (fun a=>φ (.out a)) (fun a=>φ (.ret a)) (fun p=>φ (.pan p)):=by
  intros;first | (simp only [Pa,rc,la,fa,iB,bB,oL,oX,nB,Option.bind_some]) | rfl
def Ft:List Sl:=.dat .str::tp 4 (.row 0::.dat (.int .i64)::tp 37 [])
def Et:List RS:=[.row 5 1 (.int .u8) true false]
def RJ:List Sl:=tp 44 []
def QJ:List RS:=[]
def TJ:List Sl:=.top::.top::.dat .str::.dat (.int .i64)::.dat .bool::tp 39 []
def SJ:List RS:=[]
def kf (K:XE→List AV→pa→Option Out):Lx (Unit) (BA×Int×Bool)→Option Out:=fun x=>onL x (fun a=>vc RJ QJ () () (K (.exit 0))) (fun a=>vc TJ SJ (a.1,(a.2.1,(a.2.2,()))) () (K .ret)) (fun _=>none)
def GC (n:Nat) {R:Type} (s:BA) (k:(BA×Int×Bool×Unit)→Option R):Option R:=(Pa n n s (1:Int) (⟨0,fun _=>ua (.int .u8)⟩:Sq Int)).bind fun x_1=>onL x_1 (fun a_2=>k ((⟨#[]⟩:BA),((0:Int),(false,())))) (fun a_3=>k (a_3.1,(a_3.2.1,(a_3.2.2,())))) (fun _=>none)
def Br (n:Nat) (s:BA):Option (BA×Int×Bool×Unit):=GC n s some
theorem Gcb (n:Nat) {S:Type}:∀ s (φ:_→Option S),(Br n s).bind φ=GC n s φ:=by
  intros;unfold Br GC;first | (simp only [la,fa,iB,bB,oL,oX,nB,Option.bind_some]) | rfl
def Wn (n:Nat):Hint Out:={ live:=fun c=>(cond (Nat.beq c 0) [(0,none),(5,some (.sl (.int .u8))),(6,none)] []),run:=fun c=>(cond (Nat.beq c 0) (some (Ng Ft Et fun σ ρ K=>(Pa n n σ.1 σ.2.1 ρ.1).bind (kf K))) none),xm:=fun c q=>(cond (Nat.beq c 0&&Nat.beq (q.getD 1000000) 0&&q.isSome) (some []) (cond (Nat.beq c 1&&Nat.beq (q.getD 1000000) 0&&q.isSome) (some []) (cond (Nat.beq c 1&&q.isNone) (some (lv [2,3,4])) none))) }
def Vn (n:Nat) (K:XE→List AV→pa→Option Out) (m:Nat) (s1:BA) (i:Int) (b:(Sq Int)):Option Out:=Oc tys (ja Out (Rp n)) (Wn n) n (ya [1,1,0,1,0,0] (ia Tryz.f87)) 0 Ft Et K m (s1,(i,())) (b,())
theorem PJ (n:Nat) (K:XE→List AV→pa→Option Out):∀ (m:Nat) s1 i b,Vn n K m s1 i b=(Pa n m s1 i b).bind (kf K)
  | 0,_,_,_=>by kernel_rfl
  | m+1,s1,i,b=>by
    have h1:Vn n K (m+1) s1 i b=rc n s1 i b (Vn n K m) (fun a=>kf K (.out a)) (fun a=>kf K (.ret a)) (fun p=>kf K (.pan p)):=by kernel_rfl
    have h2:Vn n K m=fun s1 i b=>(Pa n m s1 i b).bind (kf K):=by
      repeat (refine funext fun _=>?_)
      exact PJ n K m _ _ _
    rw [h1,h2];exact (MY n m _ _ _ (kf K)).symm
theorem zV (n:Nat):yc tys (ja Out (Rp n)) (Wn n) n (ya [1,1,0,1,0,0] (ia Tryz.f87)) 0:=Fa (sp:=Ft) (rp:=Et) (by kernel_rfl) fun K σ ρ=>PJ n K n σ.1 σ.2.1 ρ.1
theorem NY (n:Nat):ra tys (ja Out (Rp n)) (Wn n) n (ia Tryz.f87) 0:=⟨aa,⟨aa,⟨⟨aa,⟨zV n,⟨⟨aa,⟨aa,aa⟩⟩,⟨⟨aa,⟨⟨aa,⟨⟨aa,aa⟩,aa⟩⟩,⟨⟨aa,⟨⟨aa,⟨⟨aa,⟨aa,aa⟩⟩,aa⟩⟩,aa⟩⟩,⟨⟨aa,⟨aa,aa⟩⟩,aa⟩⟩⟩⟩,aa⟩⟩⟩⟩,⟨aa,aa⟩⟩⟩⟩
theorem B4 (n:Nat):Enters Tryz.prog 87:=enters_of (c:=ia Tryz.f87) Tryz.func87 (by kernel_rfl) (by kernel_rfl)
def PS (n:Nat):Entry:=⟨87,pcT (.pair .str .unit) (.many (.pair .str (.pair (.int .i64) (.pair .bool .unit)))) (fun xs=>Br n xs.1),none,none⟩
theorem D8 (n:Nat):EntryOk Tryz.prog gl (PS n):=Aa (B4 n) fun xs y h=>oa tys_ok (PE n) mixed (hint:=Wn n) (n:=n) Tryz.func87 (Ba (NY n)) (ma (φ:=(fun y=>some (Out.ret (rb (.many (.pair .str (.pair (.int .i64) (.pair .bool .unit)))) y)))) (by kernel_rfl) (Gcb n xs.1 _) h)
def Qp (n:Nat):List Entry:=PS n::Rp n
theorem NE (n:Nat):AllOk Tryz.prog gl (Qp n):=.cons (D8 n) (PE n)
def vg (n:Nat) {R:Type} (s1 q:BA) (i:Int) (kn:BA→BA→Int→Option R) (ko:(BA)→Option R) (kr:Unit→Option R) (kp:Int→Option R):Option R:=if (decide (i<(s1.size:Int)))=true then if 0≤i∧i<(s1.size:Int) then if ((bt s1 i)==(34:Int))=false then if 0≤i∧i<(s1.size:Int) then if ((bt s1 i)==(92:Int))=true then if Eg q (⟨#[92]⟩:BA)=true then if 0≤(IntKind.wrap .i64 (i+(1:Int)))∧(IntKind.wrap .i64 (i+(1:Int)))≤(s1.size:Int) then if 0≤i∧i≤(IntKind.wrap .i64 (i+(1:Int))) then if Eg (q++(⟨#[92]⟩:BA)) (s1.extract (Int.toNat i) (Int.toNat (IntKind.wrap .i64 (i+(1:Int)))))=true then kn s1 ((q++(⟨#[92]⟩:BA))++(s1.extract (Int.toNat i) (Int.toNat (IntKind.wrap .i64 (i+(1:Int)))))) (IntKind.wrap .i64 (i+(1:Int))) else none else none else none else none else if 0≤(IntKind.wrap .i64 (i+(1:Int)))∧(IntKind.wrap .i64 (i+(1:Int)))≤(s1.size:Int) then if 0≤i∧i≤(IntKind.wrap .i64 (i+(1:Int))) then if Eg q (s1.extract (Int.toNat i) (Int.toNat (IntKind.wrap .i64 (i+(1:Int)))))=true then kn s1 (q++(s1.extract (Int.toNat i) (Int.toNat (IntKind.wrap .i64 (i+(1:Int)))))) (IntKind.wrap .i64 (i+(1:Int))) else none else none else none else none else if Eg q (⟨#[92]⟩:BA)=true then if 0≤(IntKind.wrap .i64 (i+(1:Int)))∧(IntKind.wrap .i64 (i+(1:Int)))≤(s1.size:Int) then
 if 0≤i∧i≤(IntKind.wrap .i64 (i+(1:Int))) then if Eg (q++(⟨#[92]⟩:BA)) (s1.extract (Int.toNat i) (Int.toNat (IntKind.wrap .i64 (i+(1:Int)))))=true then kn s1 ((q++(⟨#[92]⟩:BA))++(s1.extract (Int.toNat i) (Int.toNat (IntKind.wrap .i64 (i+(1:Int)))))) (IntKind.wrap .i64 (i+(1:Int))) else none else none else none else none else none else ko q
def tc (n:Nat):Nat→BA→BA→Int→Option (Lx (BA) Unit)
 | 0,_,_,_=>none
 | m+1,s1,q,i=>vg n s1 q i (tc n m) (fun a=>some (.out a)) (fun a=>some (.ret a)) (fun p=>some (.pan p))
theorem SY (n m:Nat) {S:Type}:∀ s1 q i (φ:_→Option S),(tc n (m+1) s1 q i).bind φ=vg n s1 q i (fun s1 q i=>(tc n m s1 q i).bind φ) (fun a=>φ (.out a)) (fun a=>φ (.ret a)) (fun p=>φ (.pan p)):=by
  intros;first | (simp only [tc,vg,la,fa,iB,bB,oL,oX,nB,Option.bind_some]) | rfl
def Lt:List Sl:=.dat .str::.top::.top::.dat .str::.dat (.int .i64)::tp 27 []
def Kt:List RS:=[]
def iK:List Sl:=.top::.top::.top::.dat .str::tp 28 []
def gK:List RS:=[]
def nf (K:XE→List AV→pa→Option Out):Lx (BA) Unit→Option Out:=fun x=>onL x (fun a=>vc iK gK (a,()) () (K (.exit 0))) (fun _=>none) (fun _=>none)
def JC (n:Nat) {R:Type} (s:BA) (k:BA→Option R):Option R:=(tc n n s (⟨#[34]⟩:BA) (0:Int)).bind fun x_1=>onL x_1 (fun a_2=>if Eg a_2 (⟨#[34]⟩:BA)=true then k (a_2++(⟨#[34]⟩:BA)) else none) (fun _=>none) (fun _=>none)
def Uw (n:Nat) (s:BA):Option BA:=JC n s some
theorem Icb (n:Nat) {S:Type}:∀ s (φ:_→Option S),(Uw n s).bind φ=JC n s φ:=by
  intros;unfold Uw JC;first | (simp only [la,fa,iB,bB,oL,oX,nB,Option.bind_some]) | rfl
def bo (n:Nat):Hint Out:={ live:=fun c=>(cond (Nat.beq c 0) (lv [0,3,4]) []),run:=fun c=>(cond (Nat.beq c 0) (some (Ng Lt Kt fun σ ρ K=>(tc n n σ.1 σ.2.1 σ.2.2.1).bind (nf K))) none),xm:=fun c q=>(cond (Nat.beq c 0&&Nat.beq (q.getD 1000000) 0&&q.isSome) (some [(3,none)]) none) }
def ao (n:Nat) (K:XE→List AV→pa→Option Out) (m:Nat) (s1:BA) (q:BA) (i:Int):Option Out:=Oc tys (ja Out (Qp n)) (bo n) n (ya [1,1,0,1,0,0] (ia Tryz.f88)) 0 Lt Kt K m (s1,(q,(i,()))) ()
theorem fK (n:Nat) (K:XE→List AV→pa→Option Out):∀ (m:Nat) s1 q i,ao n K m s1 q i=(tc n m s1 q i).bind (nf K)
  | 0,_,_,_=>by kernel_rfl
  | m+1,s1,q,i=>by
    have h1:ao n K (m+1) s1 q i=vg n s1 q i (ao n K m) (fun a=>nf K (.out a)) (fun a=>nf K (.ret a)) (fun p=>nf K (.pan p)):=by kernel_rfl
    have h2:ao n K m=fun s1 q i=>(tc n m s1 q i).bind (nf K):=by
      repeat (refine funext fun _=>?_)
      exact fK n K m _ _ _
    rw [h1,h2];exact (SY n m _ _ _ (nf K)).symm
theorem FV (n:Nat):yc tys (ja Out (Qp n)) (bo n) n (ya [1,1,0,1,0,0] (ia Tryz.f88)) 0:=Fa (sp:=Lt) (rp:=Kt) (by kernel_rfl) fun K σ ρ=>fK n K n σ.1 σ.2.1 σ.2.2.1
theorem TY (n:Nat):ra tys (ja Out (Qp n)) (bo n) n (ia Tryz.f88) 0:=⟨aa,⟨aa,⟨⟨aa,⟨FV n,⟨⟨aa,⟨aa,aa⟩⟩,⟨⟨⟨aa,⟨aa,aa⟩⟩,aa⟩,aa⟩⟩⟩⟩,⟨aa,aa⟩⟩⟩⟩
theorem G4 (n:Nat):Enters Tryz.prog 88:=enters_of (c:=ia Tryz.f88) Tryz.func88 (by kernel_rfl) (by kernel_rfl)
def XS (n:Nat):Entry:=⟨88,pcT (.pair .str .unit) (.one .str) (fun xs=>Uw n xs.1),none,none⟩
theorem H8 (n:Nat):EntryOk Tryz.prog gl (XS n):=Aa (G4 n) fun xs y h=>oa tys_ok (NE n) mixed (hint:=bo n) (n:=n) Tryz.func88 (Ba (TY n)) (ma (φ:=(fun y=>some (Out.ret (rb (.one .str) y)))) (by kernel_rfl) (Icb n xs.1 _) h)
def VG (n:Nat):List Entry:=XS n::Qp n
theorem QE (n:Nat):AllOk Tryz.prog gl (VG n):=.cons (H8 n) (NE n)
def DC (n:Nat) {R:Type} (s:BA) (k:Bool→Option R):Option R:=if (decide ((s.size:Int)<(1:Int)))=false then if (decide ((s.size:Int)>(64:Int)))=true then k false else if 0≤(0:Int)∧(0:Int)<(s.size:Int) then if ((bt s (0:Int)) !=(34:Int))=true then (Dr n s).bind fun v=>k v else (Br n s).bind fun v1=>if v1.2.2.1=true then if (v1.2.1==(s.size:Int))=true then (Dr n v1.1).bind fun v2=>if (!v2)=true then (Uw n v1.1).bind fun v3=>k (v3.toList==s.toList) else k false else k false else k false else none else k false
def CC (n:Nat) (s:BA):Option Bool:=DC n s some
theorem Bcb (n:Nat) {S:Type}:∀ s (φ:_→Option S),(CC n s).bind φ=DC n s φ:=by
  intros;unfold CC DC;first | (simp only [la,fa,iB,bB,oL,oX,nB,Option.bind_some]) | rfl
def yJ (n:Nat):Hint Out:={ live:=fun c=>[],run:=fun c=>none,xm:=fun c q=>none }
theorem HY (n:Nat):ra tys (ja Out (VG n)) (yJ n) n (ia Tryz.f62) 0:=na (fun _=>rfl) _ _ (by kernel_rfl)
theorem m4 (n:Nat):Enters Tryz.prog 62:=enters_of (c:=ia Tryz.f62) Tryz.func62 (by kernel_rfl) (by kernel_rfl)
def MS (n:Nat):Entry:=⟨62,pcT (.pair .str .unit) (.one .bool) (fun xs=>CC n xs.1),none,none⟩
theorem x8 (n:Nat):EntryOk Tryz.prog gl (MS n):=Aa (m4 n) fun xs y h=>oa tys_ok (QE n) mixed (hint:=yJ n) (n:=n) Tryz.func62 (Ba (HY n)) (ma (φ:=(fun y=>some (Out.ret (rb (.one .bool) y)))) (by kernel_rfl) (Bcb n xs.1 _) h)
def JG (n:Nat):List Entry:=MS n::VG n
theorem JE (n:Nat):AllOk Tryz.prog gl (JG n):=.cons (x8 n) (QE n)
def sQ (n:Nat) {R:Type} (m0:U0) (k:Bool→Option R):Option R:=(CC n m0.1).bind fun v=>if v=true then (aj n m0.2.1).bind fun v1=>k v1 else k false
def ue (n:Nat) (m0:U0):Option Bool:=sQ n m0 some
theorem uhb (n:Nat) {S:Type}:∀ m0 (φ:_→Option S),(ue n m0).bind φ=sQ n m0 φ:=by
  intros;unfold ue sQ;first | (simp only [la,fa,iB,bB,oL,oX,nB,Option.bind_some]) | rfl
def NS (n:Nat):Hint Out:={ live:=fun c=>[],run:=fun c=>none,xm:=fun c q=>none }
theorem y8 (n:Nat):ra tys (ja Out (JG n)) (NS n) n (ia Tryz.f33) 0:=na (fun _=>rfl) _ _ (by kernel_rfl)
theorem Ccb (n:Nat):Enters Tryz.prog 33:=enters_of (c:=ia Tryz.f33) Tryz.func33 (by kernel_rfl) (by kernel_rfl)
def o4 (n:Nat):Entry:=⟨33,pcT (.pair (.pair .str (.pair .str .unit)) .unit) (.one .bool) (fun xs=>ue n xs.1),none,none⟩
theorem lfb (n:Nat):EntryOk Tryz.prog gl (o4 n):=Aa (Ccb n) fun xs y h=>oa tys_ok (JE n) mixed (hint:=NS n) (n:=n) Tryz.func33 (Ba (y8 n)) (ma (φ:=(fun y=>some (Out.ret (rb (.one .bool) y)))) (by kernel_rfl) (uhb n xs.1 _) h)
def MA (n:Nat):List Entry:=o4 n::JG n
theorem iO (n:Nat):AllOk Tryz.prog gl (MA n):=.cons (lfb n) (JE n)
def af (n:Nat) {R:Type} (l1:(Sq U0)) (i:Int) (m01 m02:BA) (kn:(Sq U0)→Int→BA→BA→Option R) (ko:(Unit)→Option R) (kr:(Int)→Option R) (kp:Int→Option R):Option R:=if (decide (i<(l1.n:Int)))=true then if 0≤i∧i<(l1.n:Int) then if (((((l1.at' (Int.toNat i))).1).toList==m01.toList)&&((((((l1.at' (Int.toNat i))).2).1).toList==m02.toList)&&true))=true then kr i else kn l1 (IntKind.wrap .i64 (i+(1:Int))) m01 m02 else none else ko ()
def Cb (n:Nat):Nat→(Sq U0)→Int→BA→BA→Option (Lx (Unit) (Int))
 | 0,_,_,_,_=>none
 | m+1,l1,i,m01,m02=>af n l1 i m01 m02 (Cb n m) (fun a=>some (.out a)) (fun a=>some (.ret a)) (fun p=>some (.pan p))
theorem cS (n m:Nat) {S:Type}:∀ l1 i m01 m02 (φ:_→Option S),(Cb n (m+1) l1 i m01 m02).bind φ=af n l1 i m01 m02 (fun l1 i m01 m02=>(Cb n m l1 i m01 m02).bind φ) (fun a=>φ (.out a)) (fun a=>φ (.ret a)) (fun p=>φ (.pan p)):=by
  intros;first | (simp only [Cb,af,la,fa,iB,bB,oL,oX,nB,Option.bind_some]) | rfl
def lm:List Sl:=.dat (.sl (.pair .str (.pair .str .unit)))::.top::.top::.ptr 0 0 0::.top::.dat (.int .i64)::tp 13 []
def km:List RS:=[.box 25 2 true [.dat .str,.dat .str]]
def mD:List Sl:=tp 19 []
def lD:List RS:=[]
def oD:List Sl:=tp 4 (.dat (.int .i64)::tp 14 [])
def nD:List RS:=[]
def pd (K:XE→List AV→pa→Option Out):Lx (Unit) (Int)→Option Out:=fun x=>onL x (fun a=>vc mD lD () () (K (.exit 0))) (fun a=>vc oD nD (a,()) () (K .ret)) (fun _=>none)
def Yq (n:Nat) {R:Type} (l:(Sq U0)) (m0:U0) (k:Int→Option R):Option R:=(Cb n n l (0:Int) m0.1 m0.2.1).bind fun x_1=>onL x_1 (fun a_2=>k (-1:Int)) (fun a_3=>k a_3) (fun _=>none)
def Jd (n:Nat) (l:(Sq U0)) (m0:U0):Option Int:=Yq n l m0 some
theorem C3 (n:Nat) {S:Type}:∀ l m0 (φ:_→Option S),(Jd n l m0).bind φ=Yq n l m0 φ:=by
  intros;unfold Jd Yq;first | (simp only [la,fa,iB,bB,oL,oX,nB,Option.bind_some]) | rfl
def Xi (n:Nat):Hint Out:={ live:=fun c=>(cond (Nat.beq c 0) [(0,some (.sl (.pair .str (.pair .str .unit)))),(3,none),(5,none)] []),run:=fun c=>(cond (Nat.beq c 0) (some (Ng lm km fun σ ρ K=>(Cb n n σ.1 σ.2.1 ρ.1.1 ρ.1.2.1).bind (pd K))) none),xm:=fun c q=>(cond (Nat.beq c 0&&Nat.beq (q.getD 1000000) 0&&q.isSome) (some []) (cond (Nat.beq c 1&&q.isNone) (some [(4,none)]) none)) }
def Vi (n:Nat) (K:XE→List AV→pa→Option Out) (m:Nat) (l1:(Sq U0)) (i:Int) (m01:BA) (m02:BA):Option Out:=Oc tys (ja Out (MA n)) (Xi n) n (ya [1,0,1,0,0] (ia Tryz.f34)) 0 lm km K m (l1,(i,())) ((m01,(m02,())),())
theorem lA (n:Nat) (K:XE→List AV→pa→Option Out):∀ (m:Nat) l1 i m01 m02,Vi n K m l1 i m01 m02=(Cb n m l1 i m01 m02).bind (pd K)
  | 0,_,_,_,_=>by kernel_rfl
  | m+1,l1,i,m01,m02=>by
    have h1:Vi n K (m+1) l1 i m01 m02=af n l1 i m01 m02 (Vi n K m) (fun a=>pd K (.out a)) (fun a=>pd K (.ret a)) (fun p=>pd K (.pan p)):=by kernel_rfl
    have h2:Vi n K m=fun l1 i m01 m02=>(Cb n m l1 i m01 m02).bind (pd K):=by
      repeat (refine funext fun _=>?_)
      exact lA n K m _ _ _ _
    rw [h1,h2];exact (cS n m _ _ _ _ (pd K)).symm
theorem cP (n:Nat):yc tys (ja Out (MA n)) (Xi n) n (ya [1,0,1,0,0] (ia Tryz.f34)) 0:=Fa (sp:=lm) (rp:=km) (by kernel_rfl) fun K σ ρ=>lA n K n σ.1 σ.2.1 ρ.1.1 ρ.1.2.1
theorem dS (n:Nat):ra tys (ja Out (MA n)) (Xi n) n (ia Tryz.f34) 0:=⟨aa,⟨⟨aa,⟨cP n,⟨⟨aa,⟨aa,aa⟩⟩,⟨⟨aa,⟨⟨aa,aa⟩,aa⟩⟩,aa⟩⟩⟩⟩,⟨aa,aa⟩⟩⟩
theorem cV (n:Nat):Enters Tryz.prog 34:=enters_of (c:=ia Tryz.f34) Tryz.func34 (by kernel_rfl) (by kernel_rfl)
def QI (n:Nat):Entry:=⟨34,pcT K6 (.one (.int .i64)) (fun xs=>Jd n xs.1 xs.2.1),none,none⟩
theorem oY (n:Nat):EntryOk Tryz.prog gl (QI n):=Aa (cV n) fun xs y h=>oa tys_ok (iO n) mixed (hint:=Xi n) (n:=n) Tryz.func34 (Ba (dS n)) (ma (φ:=(fun y=>some (Out.ret (rb (.one (.int .i64)) y)))) (by kernel_rfl) (C3 n xs.1 xs.2.1 _) h)
def Wi (n:Nat):List Entry:=QI n::MA n
theorem Sx (n:Nat):AllOk Tryz.prog gl (Wi n):=.cons (oY n) (iO n)
def Uj (n:Nat) {R:Type} (s1:BA) (i:Int) (kn:BA→Int→Option R) (ko:(BA)→Option R) (kr:(Bool)→Option R) (kp:Int→Option R):Option R:=if (decide (i<(s1.size:Int)))=true then if 0≤i∧i<(s1.size:Int) then if ((bt s1 i)==(13:Int))=false then if 0≤i∧i<(s1.size:Int) then if ((bt s1 i)==(10:Int))=true then kr false else kn s1 (IntKind.wrap .i64 (i+(1:Int))) else none else kr false else none else ko s1
def td (n:Nat):Nat→BA→Int→Option (Lx (BA) (Bool))
 | 0,_,_=>none
 | m+1,s1,i=>Uj n s1 i (td n m) (fun a=>some (.out a)) (fun a=>some (.ret a)) (fun p=>some (.pan p))
theorem xY (n m:Nat) {S:Type}:∀ s1 i (φ:_→Option S),(td n (m+1) s1 i).bind φ=Uj n s1 i (fun s1 i=>(td n m s1 i).bind φ) (fun a=>φ (.out a)) (fun a=>φ (.ret a)) (fun p=>φ (.pan p)):=by
  intros;first | (simp only [td,Uj,la,fa,iB,bB,oL,oX,nB,Option.bind_some]) | rfl
def wt:List Sl:=.dat .str::.top::.top::.dat (.int .i64)::tp 19 []
def vt:List RS:=[]
def lJ:List Sl:=.dat .str::tp 22 []
def kJ:List RS:=[]
def nJ:List Sl:=.top::.top::.dat .bool::tp 20 []
def mJ:List RS:=[]
def gf (K:XE→List AV→pa→Option Out):Lx (BA) (Bool)→Option Out:=fun x=>onL x (fun a=>vc lJ kJ (a,()) () (K (.exit 0))) (fun a=>vc nJ mJ (a,()) () (K .ret)) (fun _=>none)
def uC (n:Nat) {R:Type} (s:BA) (k:Bool→Option R):Option R:=(td n n s (0:Int)).bind fun x_1=>onL x_1 (fun a_2=>k (decide ((a_2.size:Int)≤(509:Int)))) (fun a_3=>k a_3) (fun _=>none)
def Ln (n:Nat) (s:BA):Option Bool:=uC n s some
theorem wcb (n:Nat) {S:Type}:∀ s (φ:_→Option S),(Ln n s).bind φ=uC n s φ:=by
  intros;unfold Ln uC;first | (simp only [la,fa,iB,bB,oL,oX,nB,Option.bind_some]) | rfl
def Nn (n:Nat):Hint Out:={ live:=fun c=>(cond (Nat.beq c 0) [(0,none),(3,none)] []),run:=fun c=>(cond (Nat.beq c 0) (some (Ng wt vt fun σ ρ K=>(td n n σ.1 σ.2.1).bind (gf K))) none),xm:=fun c q=>(cond (Nat.beq c 0&&Nat.beq (q.getD 1000000) 0&&q.isSome) (some [(0,none)]) (cond (Nat.beq c 1&&q.isNone) (some [(2,none)]) none)) }
def Mn (n:Nat) (K:XE→List AV→pa→Option Out) (m:Nat) (s1:BA) (i:Int):Option Out:=Oc tys (ja Out (Wi n)) (Nn n) n (ya [1,0,1,0,0] (ia Tryz.f35)) 0 wt vt K m (s1,(i,())) ()
theorem jJ (n:Nat) (K:XE→List AV→pa→Option Out):∀ (m:Nat) s1 i,Mn n K m s1 i=(td n m s1 i).bind (gf K)
  | 0,_,_=>by kernel_rfl
  | m+1,s1,i=>by
    have h1:Mn n K (m+1) s1 i=Uj n s1 i (Mn n K m) (fun a=>gf K (.out a)) (fun a=>gf K (.ret a)) (fun p=>gf K (.pan p)):=by kernel_rfl
    have h2:Mn n K m=fun s1 i=>(td n m s1 i).bind (gf K):=by
      repeat (refine funext fun _=>?_)
      exact jJ n K m _ _
    rw [h1,h2];exact (xY n m _ _ (gf K)).symm
theorem iV (n:Nat):yc tys (ja Out (Wi n)) (Nn n) n (ya [1,0,1,0,0] (ia Tryz.f35)) 0:=Fa (sp:=wt) (rp:=vt) (by kernel_rfl) fun K σ ρ=>jJ n K n σ.1 σ.2.1
theorem yY (n:Nat):ra tys (ja Out (Wi n)) (Nn n) n (ia Tryz.f35) 0:=⟨aa,⟨⟨aa,⟨iV n,⟨⟨aa,⟨aa,aa⟩⟩,⟨⟨aa,⟨⟨aa,aa⟩,aa⟩⟩,aa⟩⟩⟩⟩,⟨aa,aa⟩⟩⟩
theorem J3 (n:Nat):Enters Tryz.prog 35:=enters_of (c:=ia Tryz.f35) Tryz.func35 (by kernel_rfl) (by kernel_rfl)
def lS (n:Nat):Entry:=⟨35,pcT (.pair .str .unit) (.one .bool) (fun xs=>Ln n xs.1),none,none⟩
theorem d8 (n:Nat):EntryOk Tryz.prog gl (lS n):=Aa (J3 n) fun xs y h=>oa tys_ok (Sx n) mixed (hint:=Nn n) (n:=n) Tryz.func35 (Ba (yY n)) (ma (φ:=(fun y=>some (Out.ret (rb (.one .bool) y)))) (by kernel_rfl) (wcb n xs.1 _) h)
def Gb (n:Nat):List Entry:=lS n::Wi n
theorem rE (n:Nat):AllOk Tryz.prog gl (Gb n):=.cons (d8 n) (Sx n)
def Rk (n:Nat) {R:Type} (c1 c2 c3:Int) (c4:BA) (c5:Bool) (c6:Int) (c7:BA) (c8:Bool) (c9 c10:BA) (c11:(Sq U0)) (c12:(Sq BA)) (c13:Int) (c14:Bool) (ko:U1→Option R) (kr:(Bool)→Option R) (kp:Int→Option R):Option R:=if (decide (c1<(1:Int)))=false then if (decide (c1>(1099511627776:Int)))=false then (UI n c2 (3:Int)).bind fun v=>if (!v)=false then (UI n c3 (1099511627776:Int)).bind fun v1=>if (!v1)=false then (Ru n (c4,(c5,()))).bind fun v2=>if (!v2)=false then if (decide (c6<(0:Int)))=false then if (decide (c6>(5:Int)))=false then if (decide ((c11.n:Int)>(8:Int)))=true then kr false else ko (c1,c2,c3,c4,c5,c6,c7,c8,c9,c10,c11,c12,c13,c14) else kr false else kr false else kr false else kr false else kr false else kr false else kr false
def Ai (n:Nat) (c1 c2 c3:Int) (c4:BA) (c5:Bool) (c6:Int) (c7:BA) (c8:Bool) (c9 c10:BA) (c11:(Sq U0)) (c12:(Sq BA)) (c13:Int) (c14:Bool):Option (Lx U1 (Bool)):=Rk n c1 c2 c3 c4 c5 c6 c7 c8 c9 c10 c11 c12 c13 c14 (fun a=>some (.out a)) (fun a=>some (.ret a)) (fun p=>some (.pan p))
theorem dP (n:Nat) {S:Type}:∀ c1 c2 c3 c4 c5 c6 c7 c8 c9 c10 c11 c12 c13 c14 (φ:_→Option S),(Ai n c1 c2 c3 c4 c5 c6 c7 c8 c9 c10 c11 c12 c13 c14).bind φ=Rk n c1 c2 c3 c4 c5 c6 c7 c8 c9 c10 c11 c12 c13 c14 (fun a=>φ (.out a)) (fun a=>φ (.ret a)) (fun p=>φ (.pan p)):=by
  intros;first | (simp only [Ai,Rk,la,fa,iB,bB,oL,oX,nB,Option.bind_some]) | rfl
def oA:List Sl:=.top::.ptr 0 0 0::tp 197 []
def nA:List RS:=[.box 29 14 true [.dat (.int .i64),.dat (.int .i64),.dat (.int .i64),.dat .str,.dat .bool,.dat (.int .i64),.dat .str,.dat .bool,.dat .str,.dat .str,.dat (.sl (.pair .str (.pair .str .unit))),.dat (.sl .str),.dat (.int .i64),.dat .bool]]
def JF:List Sl:=.top::.ptr 0 0 0::tp 197 []
def IF:List RS:=[.box 29 14 true [.dat (.int .i64),.dat (.int .i64),.dat (.int .i64),.dat .str,.dat .bool,.dat (.int .i64),.dat .str,.dat .bool,.dat .str,.dat .str,.dat (.sl (.pair .str (.pair .str .unit))),.dat (.sl .str),.dat (.int .i64),.dat .bool]]
def LF:List Sl:=.top::.top::.dat .bool::tp 196 []
def KF:List RS:=[]
def uE (K:XE→List AV→pa→Option Out):Lx U1 (Bool)→Option Out:=fun x=>onL x (fun a=>vc JF IF () ((a.1,(a.2.1,(a.2.2.1,(a.2.2.2.1,(a.2.2.2.2.1,(a.2.2.2.2.2.1,(a.2.2.2.2.2.2.1,(a.2.2.2.2.2.2.2.1,(a.2.2.2.2.2.2.2.2.1,(a.2.2.2.2.2.2.2.2.2.1,(a.2.2.2.2.2.2.2.2.2.2.1,(a.2.2.2.2.2.2.2.2.2.2.2.1,(a.2.2.2.2.2.2.2.2.2.2.2.2.1,(a.2.2.2.2.2.2.2.2.2.2.2.2.2,())))))))))))))),()) (K .normal)) (fun a=>vc LF KF (a,()) () (K .ret)) (fun _=>none)
def Sk (n:Nat) {R:Type} (hello:Bool) (c29 c30 c31:Int) (c32:BA) (c33:Bool) (c34:Int) (c35:BA) (c36:Bool) (c37 c38:BA) (c39:(Sq U0)) (c40:(Sq BA)) (c41:Int) (c42:Bool) (ko:U1→Option R) (kr:(Bool)→Option R) (kp:Int→Option R):Option R:=if (c34==(0:Int))=true then if (!(c35.toList==(⟨#[]⟩:BA).toList))=true then kr false else ko (c29,c30,c31,c32,c33,c34,c35,c36,c37,c38,c39,c40,c41,c42) else if (c34==(5:Int))=true then if (!(c35.toList==(⟨#[]⟩:BA).toList))=true then if (!hello)=true then kr false else ko (c29,c30,c31,c32,c33,c34,c35,c36,c37,c38,c39,c40,c41,c42) else ko (c29,c30,c31,c32,c33,c34,c35,c36,c37,c38,c39,c40,c41,c42) else if (!hello)=true then kr false else ko (c29,c30,c31,c32,c33,c34,c35,c36,c37,c38,c39,c40,c41,c42)
def He (n:Nat) (hello:Bool) (c29 c30 c31:Int) (c32:BA) (c33:Bool) (c34:Int) (c35:BA) (c36:Bool) (c37 c38:BA) (c39:(Sq U0)) (c40:(Sq BA)) (c41:Int) (c42:Bool):Option (Lx U1 (Bool)):=Sk n hello c29 c30 c31 c32 c33 c34 c35 c36 c37 c38 c39 c40 c41 c42 (fun a=>some (.out a)) (fun a=>some (.ret a)) (fun p=>some (.pan p))
theorem eP (n:Nat) {S:Type}:∀ hello c29 c30 c31 c32 c33 c34 c35 c36 c37 c38 c39 c40 c41 c42 (φ:_→Option S),(He n hello c29 c30 c31 c32 c33 c34 c35 c36 c37 c38 c39 c40 c41 c42).bind φ=Sk n hello c29 c30 c31 c32 c33 c34 c35 c36 c37 c38 c39 c40 c41 c42 (fun a=>φ (.out a)) (fun a=>φ (.ret a)) (fun p=>φ (.pan p)):=by
  intros;first | (simp only [He,Sk,la,fa,iB,bB,oL,oX,nB,Option.bind_some]) | rfl
def qA:List Sl:=.top::.ptr 0 0 0::.top::.dat .bool::tp 195 []
def pA:List RS:=[.box 29 14 true [.dat (.int .i64),.dat (.int .i64),.dat (.int .i64),.dat .str,.dat .bool,.dat (.int .i64),.dat .str,.dat .bool,.dat .str,.dat .str,.dat (.sl (.pair .str (.pair .str .unit))),.dat (.sl .str),.dat (.int .i64),.dat .bool]]
def NF:List Sl:=.top::.ptr 0 0 0::tp 197 []
def MF:List RS:=[.box 29 14 true [.dat (.int .i64),.dat (.int .i64),.dat (.int .i64),.dat .str,.dat .bool,.dat (.int .i64),.dat .str,.dat .bool,.dat .str,.dat .str,.dat (.sl (.pair .str (.pair .str .unit))),.dat (.sl .str),.dat (.int .i64),.dat .bool]]
def PF:List Sl:=.top::.top::.dat .bool::tp 196 []
def OF:List RS:=[]
def vE (K:XE→List AV→pa→Option Out):Lx U1 (Bool)→Option Out:=fun x=>onL x (fun a=>vc NF MF () ((a.1,(a.2.1,(a.2.2.1,(a.2.2.2.1,(a.2.2.2.2.1,(a.2.2.2.2.2.1,(a.2.2.2.2.2.2.1,(a.2.2.2.2.2.2.2.1,(a.2.2.2.2.2.2.2.2.1,(a.2.2.2.2.2.2.2.2.2.1,(a.2.2.2.2.2.2.2.2.2.2.1,(a.2.2.2.2.2.2.2.2.2.2.2.1,(a.2.2.2.2.2.2.2.2.2.2.2.2.1,(a.2.2.2.2.2.2.2.2.2.2.2.2.2,())))))))))))))),()) (K .normal)) (fun a=>vc PF OF (a,()) () (K .ret)) (fun _=>none)
def Uk (n:Nat) {R:Type} (c71 c72 c73:Int) (c74:BA) (c75:Bool) (c76:Int) (c77:BA) (c78:Bool) (c79 c80:BA) (c81:(Sq U0)) (c82:(Sq BA)) (c83:Int) (c84:Bool) (ko:U1→Option R) (kr:(Bool)→Option R) (kp:Int→Option R):Option R:=if c78=true then if (!((c79.toList==(⟨#[]⟩:BA).toList)&&((c80.toList==(⟨#[]⟩:BA).toList)&&true)))=false then if (!c78)=true then (ue n (c79,(c80,()))).bind fun v5=>if (!v5)=true then kr false else ko (c71,c72,c73,c74,c75,c76,c77,c78,c79,c80,c81,c82,c83,c84) else ko (c71,c72,c73,c74,c75,c76,c77,c78,c79,c80,c81,c82,c83,c84) else kr false else if (!c78)=true then (ue n (c79,(c80,()))).bind fun v6=>if (!v6)=true then kr false else ko (c71,c72,c73,c74,c75,c76,c77,c78,c79,c80,c81,c82,c83,c84) else ko (c71,c72,c73,c74,c75,c76,c77,c78,c79,c80,c81,c82,c83,c84)
def Bi (n:Nat) (c71 c72 c73:Int) (c74:BA) (c75:Bool) (c76:Int) (c77:BA) (c78:Bool) (c79 c80:BA) (c81:(Sq U0)) (c82:(Sq BA)) (c83:Int) (c84:Bool):Option (Lx U1 (Bool)):=Uk n c71 c72 c73 c74 c75 c76 c77 c78 c79 c80 c81 c82 c83 c84 (fun a=>some (.out a)) (fun a=>some (.ret a)) (fun p=>some (.pan p))
theorem gP (n:Nat) {S:Type}:∀ c71 c72 c73 c74 c75 c76 c77 c78 c79 c80 c81 c82 c83 c84 (φ:_→Option S),(Bi n c71 c72 c73 c74 c75 c76 c77 c78 c79 c80 c81 c82 c83 c84).bind φ=Uk n c71 c72 c73 c74 c75 c76 c77 c78 c79 c80 c81 c82 c83 c84 (fun a=>φ (.out a)) (fun a=>φ (.ret a)) (fun p=>φ (.pan p)):=by
  intros;first | (simp only [Bi,Uk,la,fa,iB,bB,oL,oX,nB,Option.bind_some]) | rfl
def uA:List Sl:=.top::.ptr 0 0 0::tp 197 []
def tA:List RS:=[.box 29 14 true [.dat (.int .i64),.dat (.int .i64),.dat (.int .i64),.dat .str,.dat .bool,.dat (.int .i64),.dat .str,.dat .bool,.dat .str,.dat .str,.dat (.sl (.pair .str (.pair .str .unit))),.dat (.sl .str),.dat (.int .i64),.dat .bool]]
def VF:List Sl:=.top::.ptr 0 0 0::tp 197 []
def UF:List RS:=[.box 29 14 true [.dat (.int .i64),.dat (.int .i64),.dat (.int .i64),.dat .str,.dat .bool,.dat (.int .i64),.dat .str,.dat .bool,.dat .str,.dat .str,.dat (.sl (.pair .str (.pair .str .unit))),.dat (.sl .str),.dat (.int .i64),.dat .bool]]
def XF:List Sl:=.top::.top::.dat .bool::tp 196 []
def WF:List RS:=[]
def xE (K:XE→List AV→pa→Option Out):Lx U1 (Bool)→Option Out:=fun x=>onL x (fun a=>vc VF UF () ((a.1,(a.2.1,(a.2.2.1,(a.2.2.2.1,(a.2.2.2.2.1,(a.2.2.2.2.2.1,(a.2.2.2.2.2.2.1,(a.2.2.2.2.2.2.2.1,(a.2.2.2.2.2.2.2.2.1,(a.2.2.2.2.2.2.2.2.2.1,(a.2.2.2.2.2.2.2.2.2.2.1,(a.2.2.2.2.2.2.2.2.2.2.2.1,(a.2.2.2.2.2.2.2.2.2.2.2.2.1,(a.2.2.2.2.2.2.2.2.2.2.2.2.2,())))))))))))))),()) (K .normal)) (fun a=>vc XF WF (a,()) () (K .ret)) (fun _=>none)
def Tk (n:Nat) {R:Type} (c57 c58 c59:Int) (c60:BA) (c61:Bool) (c62:Int) (c63:BA) (c64:Bool) (c65 c66:BA) (c67:(Sq U0)) (c68:(Sq BA)) (c69:Int) (c70:Bool) (ko:U1→Option R) (kr:(Bool)→Option R) (kp:Int→Option R):Option R:=(AC n c62).bind fun v4=>if v4=true then (Bi n c57 c58 c59 c60 c61 c62 c63 c64 c65 c66 c67 c68 c69 c70).bind fun x_1=>onL x_1 (fun a_2=>if (!(((a_2.2.2.2.2.2.2.2.2.2.2.1.n:Int)==(0:Int))==(a_2.2.2.2.2.2.1==(2:Int))))=true then kr false else ko (a_2.1,a_2.2.1,a_2.2.2.1,a_2.2.2.2.1,a_2.2.2.2.2.1,a_2.2.2.2.2.2.1,a_2.2.2.2.2.2.2.1,a_2.2.2.2.2.2.2.2.1,a_2.2.2.2.2.2.2.2.2.1,a_2.2.2.2.2.2.2.2.2.2.1,a_2.2.2.2.2.2.2.2.2.2.2.1,a_2.2.2.2.2.2.2.2.2.2.2.2.1,a_2.2.2.2.2.2.2.2.2.2.2.2.2.1,a_2.2.2.2.2.2.2.2.2.2.2.2.2.2)) (fun a_3=>kr a_3) (fun _=>none) else if c64=false then if (!((c65.toList==(⟨#[]⟩:BA).toList)&&((c66.toList==(⟨#[]⟩:BA).toList)&&true)))=false then if (decide ((c67.n:Int)>(0:Int)))=true then kr false else ko (c57,c58,c59,c60,c61,c62,c63,c64,c65,c66,c67,c68,c69,c70) else kr false else kr false
def Ie (n:Nat) (c57 c58 c59:Int) (c60:BA) (c61:Bool) (c62:Int) (c63:BA) (c64:Bool) (c65 c66:BA) (c67:(Sq U0)) (c68:(Sq BA)) (c69:Int) (c70:Bool):Option (Lx U1 (Bool)):=Tk n c57 c58 c59 c60 c61 c62 c63 c64 c65 c66 c67 c68 c69 c70 (fun a=>some (.out a)) (fun a=>some (.ret a)) (fun p=>some (.pan p))
theorem fP (n:Nat) {S:Type}:∀ c57 c58 c59 c60 c61 c62 c63 c64 c65 c66 c67 c68 c69 c70 (φ:_→Option S),(Ie n c57 c58 c59 c60 c61 c62 c63 c64 c65 c66 c67 c68 c69 c70).bind φ=Tk n c57 c58 c59 c60 c61 c62 c63 c64 c65 c66 c67 c68 c69 c70 (fun a=>φ (.out a)) (fun a=>φ (.ret a)) (fun p=>φ (.pan p)):=by
  intros;first | (simp only [Ie,Tk,la,fa,iB,bB,oL,oX,nB,Option.bind_some]) | rfl
def sA:List Sl:=.top::.ptr 0 0 0::tp 197 []
def rA:List RS:=[.box 29 14 true [.dat (.int .i64),.dat (.int .i64),.dat (.int .i64),.dat .str,.dat .bool,.dat (.int .i64),.dat .str,.dat .bool,.dat .str,.dat .str,.dat (.sl (.pair .str (.pair .str .unit))),.dat (.sl .str),.dat (.int .i64),.dat .bool]]
def RF:List Sl:=.top::.ptr 0 0 0::tp 197 []
def QF:List RS:=[.box 29 14 true [.dat (.int .i64),.dat (.int .i64),.dat (.int .i64),.dat .str,.dat .bool,.dat (.int .i64),.dat .str,.dat .bool,.dat .str,.dat .str,.dat (.sl (.pair .str (.pair .str .unit))),.dat (.sl .str),.dat (.int .i64),.dat .bool]]
def TF:List Sl:=.top::.top::.dat .bool::tp 196 []
def SF:List RS:=[]
def wE (K:XE→List AV→pa→Option Out):Lx U1 (Bool)→Option Out:=fun x=>onL x (fun a=>vc RF QF () ((a.1,(a.2.1,(a.2.2.1,(a.2.2.2.1,(a.2.2.2.2.1,(a.2.2.2.2.2.1,(a.2.2.2.2.2.2.1,(a.2.2.2.2.2.2.2.1,(a.2.2.2.2.2.2.2.2.1,(a.2.2.2.2.2.2.2.2.2.1,(a.2.2.2.2.2.2.2.2.2.2.1,(a.2.2.2.2.2.2.2.2.2.2.2.1,(a.2.2.2.2.2.2.2.2.2.2.2.2.1,(a.2.2.2.2.2.2.2.2.2.2.2.2.2,())))))))))))))),()) (K .normal)) (fun a=>vc TF SF (a,()) () (K .ret)) (fun _=>none)
def Vk (n:Nat) {R:Type} (i1 c127 c128 c129:Int) (c130:BA) (c131:Bool) (c132:Int) (c133:BA) (c134:Bool) (c135 c136:BA) (c137:(Sq U0)) (c138:(Sq BA)) (c139:Int) (c140:Bool) (ko:U6→Option R) (kr:(Bool)→Option R) (kp:Int→Option R):Option R:=if 0≤i1∧i1<(c137.n:Int) then (ue n (((c137.at' (Int.toNat i1))).1,((((c137.at' (Int.toNat i1))).2).1,()))).bind fun v7=>if (!v7)=false then if 0≤i1∧i1≤(c137.n:Int) then if 0≤i1∧i1<(c137.n:Int) then (Jd n (⟨((Int.toNat i1) - (Int.toNat (0:Int))),fun i=>c137.at' ((Int.toNat (0:Int))+i)⟩:Sq U0) (((c137.at' (Int.toNat i1))).1,((((c137.at' (Int.toNat i1))).2).1,()))).bind fun v8=>if (decide (v8≥(0:Int)))=true then kr false else ko (i1,c127,c128,c129,c130,c131,c132,c133,c134,c135,c136,c137,c138,c139,c140) else none else none else kr false else none
def Ci (n:Nat) (i1 c127 c128 c129:Int) (c130:BA) (c131:Bool) (c132:Int) (c133:BA) (c134:Bool) (c135 c136:BA) (c137:(Sq U0)) (c138:(Sq BA)) (c139:Int) (c140:Bool):Option (Lx U6 (Bool)):=Vk n i1 c127 c128 c129 c130 c131 c132 c133 c134 c135 c136 c137 c138 c139 c140 (fun a=>some (.out a)) (fun a=>some (.ret a)) (fun p=>some (.pan p))
theorem iP (n:Nat) {S:Type}:∀ i1 c127 c128 c129 c130 c131 c132 c133 c134 c135 c136 c137 c138 c139 c140 (φ:_→Option S),(Ci n i1 c127 c128 c129 c130 c131 c132 c133 c134 c135 c136 c137 c138 c139 c140).bind φ=Vk n i1 c127 c128 c129 c130 c131 c132 c133 c134 c135 c136 c137 c138 c139 c140 (fun a=>φ (.out a)) (fun a=>φ (.ret a)) (fun p=>φ (.pan p)):=by
  intros;first | (simp only [Ci,Vk,la,fa,iB,bB,oL,oX,nB,Option.bind_some]) | rfl
def wA:List Sl:=.top::.ptr 0 0 0::.top::.top::.dat (.int .i64)::tp 194 []
def vA:List RS:=[.box 29 14 true [.dat (.int .i64),.dat (.int .i64),.dat (.int .i64),.dat .str,.dat .bool,.dat (.int .i64),.dat .str,.dat .bool,.dat .str,.dat .str,.dat (.sl (.pair .str (.pair .str .unit))),.dat (.sl .str),.dat (.int .i64),.dat .bool]]
def ZF:List Sl:=.top::.ptr 0 0 0::.top::.top::.dat (.int .i64)::tp 194 []
def YF:List RS:=[.box 29 14 true [.dat (.int .i64),.dat (.int .i64),.dat (.int .i64),.dat .str,.dat .bool,.dat (.int .i64),.dat .str,.dat .bool,.dat .str,.dat .str,.dat (.sl (.pair .str (.pair .str .unit))),.dat (.sl .str),.dat (.int .i64),.dat .bool]]
def bG:List Sl:=.top::.top::.dat .bool::tp 196 []
def aG:List RS:=[]
def yE (K:XE→List AV→pa→Option Out):Lx U6 (Bool)→Option Out:=fun x=>onL x (fun a=>vc ZF YF (a.1,()) ((a.2.1,(a.2.2.1,(a.2.2.2.1,(a.2.2.2.2.1,(a.2.2.2.2.2.1,(a.2.2.2.2.2.2.1,(a.2.2.2.2.2.2.2.1,(a.2.2.2.2.2.2.2.2.1,(a.2.2.2.2.2.2.2.2.2.1,(a.2.2.2.2.2.2.2.2.2.2.1,(a.2.2.2.2.2.2.2.2.2.2.2.1,(a.2.2.2.2.2.2.2.2.2.2.2.2.1,(a.2.2.2.2.2.2.2.2.2.2.2.2.2.1,(a.2.2.2.2.2.2.2.2.2.2.2.2.2.2,())))))))))))))),()) (K .normal)) (fun a=>vc bG aG (a,()) () (K .ret)) (fun _=>none)
def yi (n:Nat) {R:Type} (i c113 c114 c115:Int) (c116:BA) (c117:Bool) (c118:Int) (c119:BA) (c120:Bool) (c121 c122:BA) (c123:(Sq U0)) (c124:(Sq BA)) (c125:Int) (c126:Bool) (kn:Int→Int→Int→Int→BA→Bool→Int→BA→Bool→BA→BA→(Sq U0)→(Sq BA)→Int→Bool→Option R) (ko:U1→Option R) (kr:(Bool)→Option R) (kp:Int→Option R):Option R:=if (decide (i<(c123.n:Int)))=true then (Ci n i c113 c114 c115 c116 c117 c118 c119 c120 c121 c122 c123 c124 c125 c126).bind fun x_1=>onL x_1 (fun a_2=>kn (IntKind.wrap .i64 (a_2.1+(1:Int))) a_2.2.1 a_2.2.2.1 a_2.2.2.2.1 a_2.2.2.2.2.1 a_2.2.2.2.2.2.1 a_2.2.2.2.2.2.2.1 a_2.2.2.2.2.2.2.2.1 a_2.2.2.2.2.2.2.2.2.1 a_2.2.2.2.2.2.2.2.2.2.1 a_2.2.2.2.2.2.2.2.2.2.2.1 a_2.2.2.2.2.2.2.2.2.2.2.2.1 a_2.2.2.2.2.2.2.2.2.2.2.2.2.1 a_2.2.2.2.2.2.2.2.2.2.2.2.2.2.1 a_2.2.2.2.2.2.2.2.2.2.2.2.2.2.2) (fun a_3=>kr a_3) (fun _=>none) else ko (c113,c114,c115,c116,c117,c118,c119,c120,c121,c122,c123,c124,c125,c126)
def Mb (n:Nat):Nat→Int→Int→Int→Int→BA→Bool→Int→BA→Bool→BA→BA→(Sq U0)→(Sq BA)→Int→Bool→Option (Lx U1 (Bool))
 | 0,_,_,_,_,_,_,_,_,_,_,_,_,_,_,_=>none
 | m+1,i,c113,c114,c115,c116,c117,c118,c119,c120,c121,c122,c123,c124,c125,c126=>yi n i c113 c114 c115 c116 c117 c118 c119 c120 c121 c122 c123 c124 c125 c126 (Mb n m) (fun a=>some (.out a)) (fun a=>some (.ret a)) (fun p=>some (.pan p))
theorem lV (n m:Nat) {S:Type}:∀ i c113 c114 c115 c116 c117 c118 c119 c120 c121 c122 c123 c124 c125 c126 (φ:_→Option S),(Mb n (m+1) i c113 c114 c115 c116 c117 c118 c119 c120 c121 c122 c123 c124 c125 c126).bind φ=yi n i c113 c114 c115 c116 c117 c118 c119 c120 c121 c122 c123 c124 c125 c126 (fun i c113 c114 c115 c116 c117 c118 c119 c120 c121 c122 c123 c124 c125 c126=>(Mb n m i c113 c114 c115 c116 c117 c118 c119 c120 c121 c122 c123 c124 c125 c126).bind φ) (fun a=>φ (.out a)) (fun a=>φ (.ret a)) (fun p=>φ (.pan p)):=by
  intros;first | (simp only [Mb,yi,la,fa,iB,bB,oL,oX,nB,Option.bind_some]) | rfl
def Gp:List Sl:=.top::.ptr 0 0 0::.top::.top::.dat (.int .i64)::tp 194 []
def Fp:List RS:=[.box 29 14 true [.dat (.int .i64),.dat (.int .i64),.dat (.int .i64),.dat .str,.dat .bool,.dat (.int .i64),.dat .str,.dat .bool,.dat .str,.dat .str,.dat (.sl (.pair .str (.pair .str .unit))),.dat (.sl .str),.dat (.int .i64),.dat .bool]]
def qG:List Sl:=.top::.ptr 0 0 0::tp 197 []
def pG:List RS:=[.box 29 14 true [.dat (.int .i64),.dat (.int .i64),.dat (.int .i64),.dat .str,.dat .bool,.dat (.int .i64),.dat .str,.dat .bool,.dat .str,.dat .str,.dat (.sl (.pair .str (.pair .str .unit))),.dat (.sl .str),.dat (.int .i64),.dat .bool]]
def sG:List Sl:=.top::.top::.dat .bool::tp 196 []
def rG:List RS:=[]
def Zd (K:XE→List AV→pa→Option Out):Lx U1 (Bool)→Option Out:=fun x=>onL x (fun a=>vc qG pG () ((a.1,(a.2.1,(a.2.2.1,(a.2.2.2.1,(a.2.2.2.2.1,(a.2.2.2.2.2.1,(a.2.2.2.2.2.2.1,(a.2.2.2.2.2.2.2.1,(a.2.2.2.2.2.2.2.2.1,(a.2.2.2.2.2.2.2.2.2.1,(a.2.2.2.2.2.2.2.2.2.2.1,(a.2.2.2.2.2.2.2.2.2.2.2.1,(a.2.2.2.2.2.2.2.2.2.2.2.2.1,(a.2.2.2.2.2.2.2.2.2.2.2.2.2,())))))))))))))),()) (K (.exit 1))) (fun a=>vc sG rG (a,()) () (K .ret)) (fun _=>none)
def Wk (n:Nat) {R:Type} (c169 c170 c171:Int) (c172:BA) (c173:Bool) (c174:Int) (c175:BA) (c176:Bool) (c177 c178:BA) (c179:(Sq U0)) (c180:(Sq BA)) (c181:Int) (c182:Bool) (ko:U1→Option R) (kr:(Bool)→Option R) (kp:Int→Option R):Option R:=if (c174 !=(4:Int))=true then if (decide ((c180.n:Int)>(0:Int)))=false then if c182=false then if c182=true then if (decide ((c180.n:Int)>(0:Int)))=true then kr false else ko (c169,c170,c171,c172,c173,c174,c175,c176,c177,c178,c179,c180,c181,c182) else ko (c169,c170,c171,c172,c173,c174,c175,c176,c177,c178,c179,c180,c181,c182) else kr false else kr false else if c182=true then if (decide ((c180.n:Int)>(0:Int)))=true then kr false else ko (c169,c170,c171,c172,c173,c174,c175,c176,c177,c178,c179,c180,c181,c182) else ko (c169,c170,c171,c172,c173,c174,c175,c176,c177,c178,c179,c180,c181,c182)
def Je (n:Nat) (c169 c170 c171:Int) (c172:BA) (c173:Bool) (c174:Int) (c175:BA) (c176:Bool) (c177 c178:BA) (c179:(Sq U0)) (c180:(Sq BA)) (c181:Int) (c182:Bool):Option (Lx U1 (Bool)):=Wk n c169 c170 c171 c172 c173 c174 c175 c176 c177 c178 c179 c180 c181 c182 (fun a=>some (.out a)) (fun a=>some (.ret a)) (fun p=>some (.pan p))
theorem jP (n:Nat) {S:Type}:∀ c169 c170 c171 c172 c173 c174 c175 c176 c177 c178 c179 c180 c181 c182 (φ:_→Option S),(Je n c169 c170 c171 c172 c173 c174 c175 c176 c177 c178 c179 c180 c181 c182).bind φ=Wk n c169 c170 c171 c172 c173 c174 c175 c176 c177 c178 c179 c180 c181 c182 (fun a=>φ (.out a)) (fun a=>φ (.ret a)) (fun p=>φ (.pan p)):=by
  intros;first | (simp only [Je,Wk,la,fa,iB,bB,oL,oX,nB,Option.bind_some]) | rfl
def yA:List Sl:=.top::.ptr 0 0 0::tp 197 []
def xA:List RS:=[.box 29 14 true [.dat (.int .i64),.dat (.int .i64),.dat (.int .i64),.dat .str,.dat .bool,.dat (.int .i64),.dat .str,.dat .bool,.dat .str,.dat .str,.dat (.sl (.pair .str (.pair .str .unit))),.dat (.sl .str),.dat (.int .i64),.dat .bool]]
def dG:List Sl:=.top::.ptr 0 0 0::tp 197 []
def cG:List RS:=[.box 29 14 true [.dat (.int .i64),.dat (.int .i64),.dat (.int .i64),.dat .str,.dat .bool,.dat (.int .i64),.dat .str,.dat .bool,.dat .str,.dat .str,.dat (.sl (.pair .str (.pair .str .unit))),.dat (.sl .str),.dat (.int .i64),.dat .bool]]
def fG:List Sl:=.top::.top::.dat .bool::tp 196 []
def eG:List RS:=[]
def zE (K:XE→List AV→pa→Option Out):Lx U1 (Bool)→Option Out:=fun x=>onL x (fun a=>vc dG cG () ((a.1,(a.2.1,(a.2.2.1,(a.2.2.2.1,(a.2.2.2.2.1,(a.2.2.2.2.2.1,(a.2.2.2.2.2.2.1,(a.2.2.2.2.2.2.2.1,(a.2.2.2.2.2.2.2.2.1,(a.2.2.2.2.2.2.2.2.2.1,(a.2.2.2.2.2.2.2.2.2.2.1,(a.2.2.2.2.2.2.2.2.2.2.2.1,(a.2.2.2.2.2.2.2.2.2.2.2.2.1,(a.2.2.2.2.2.2.2.2.2.2.2.2.2,())))))))))))))),()) (K .normal)) (fun a=>vc fG eG (a,()) () (K .ret)) (fun _=>none)
def Yk (n:Nat) {R:Type} (n02 i5 c225 c226 c227:Int) (c228:BA) (c229:Bool) (c230:Int) (c231:BA) (c232:Bool) (c233 c234:BA) (c235:(Sq U0)) (c236:(Sq BA)) (c237:Int) (c238:Bool) (ko:U5→Option R) (kr:(Bool)→Option R) (kp:Int→Option R):Option R:=if 0≤i5∧i5<(c236.n:Int) then (Ln n (c236.at' (Int.toNat i5))).bind fun v9=>if (!v9)=true then kr false else ko (n02,i5,c225,c226,c227,c228,c229,c230,c231,c232,c233,c234,c235,c236,c237,c238) else none
def Ei (n:Nat) (n02 i5 c225 c226 c227:Int) (c228:BA) (c229:Bool) (c230:Int) (c231:BA) (c232:Bool) (c233 c234:BA) (c235:(Sq U0)) (c236:(Sq BA)) (c237:Int) (c238:Bool):Option (Lx U5 (Bool)):=Yk n n02 i5 c225 c226 c227 c228 c229 c230 c231 c232 c233 c234 c235 c236 c237 c238 (fun a=>some (.out a)) (fun a=>some (.ret a)) (fun p=>some (.pan p))
theorem lP (n:Nat) {S:Type}:∀ n02 i5 c225 c226 c227 c228 c229 c230 c231 c232 c233 c234 c235 c236 c237 c238 (φ:_→Option S),(Ei n n02 i5 c225 c226 c227 c228 c229 c230 c231 c232 c233 c234 c235 c236 c237 c238).bind φ=Yk n n02 i5 c225 c226 c227 c228 c229 c230 c231 c232 c233 c234 c235 c236 c237 c238 (fun a=>φ (.out a)) (fun a=>φ (.ret a)) (fun p=>φ (.pan p)):=by
  intros;first | (simp only [Ei,Yk,la,fa,iB,bB,oL,oX,nB,Option.bind_some]) | rfl
def EA:List Sl:=.top::.ptr 0 0 0::.top::.top::.top::.dat (.int .i64)::.dat (.int .i64)::tp 192 []
def DA:List RS:=[.box 29 14 true [.dat (.int .i64),.dat (.int .i64),.dat (.int .i64),.dat .str,.dat .bool,.dat (.int .i64),.dat .str,.dat .bool,.dat .str,.dat .str,.dat (.sl (.pair .str (.pair .str .unit))),.dat (.sl .str),.dat (.int .i64),.dat .bool]]
def mG:List Sl:=.top::.ptr 0 0 0::.top::.top::.top::.dat (.int .i64)::.dat (.int .i64)::tp 192 []
def lG:List RS:=[.box 29 14 true [.dat (.int .i64),.dat (.int .i64),.dat (.int .i64),.dat .str,.dat .bool,.dat (.int .i64),.dat .str,.dat .bool,.dat .str,.dat .str,.dat (.sl (.pair .str (.pair .str .unit))),.dat (.sl .str),.dat (.int .i64),.dat .bool]]
def oG:List Sl:=.top::.top::.dat .bool::tp 196 []
def nG:List RS:=[]
def BE (K:XE→List AV→pa→Option Out):Lx U5 (Bool)→Option Out:=fun x=>onL x (fun a=>vc mG lG (a.1,(a.2.1,())) ((a.2.2.1,(a.2.2.2.1,(a.2.2.2.2.1,(a.2.2.2.2.2.1,(a.2.2.2.2.2.2.1,(a.2.2.2.2.2.2.2.1,(a.2.2.2.2.2.2.2.2.1,(a.2.2.2.2.2.2.2.2.2.1,(a.2.2.2.2.2.2.2.2.2.2.1,(a.2.2.2.2.2.2.2.2.2.2.2.1,(a.2.2.2.2.2.2.2.2.2.2.2.2.1,(a.2.2.2.2.2.2.2.2.2.2.2.2.2.1,(a.2.2.2.2.2.2.2.2.2.2.2.2.2.2.1,(a.2.2.2.2.2.2.2.2.2.2.2.2.2.2.2,())))))))))))))),()) (K .normal)) (fun a=>vc oG nG (a,()) () (K .ret)) (fun _=>none)
def Xk (n:Nat) {R:Type} (n01 i4 c211 c212 c213:Int) (c214:BA) (c215:Bool) (c216:Int) (c217:BA) (c218:Bool) (c219 c220:BA) (c221:(Sq U0)) (c222:(Sq BA)) (c223:Int) (c224:Bool) (ko:U5→Option R) (kr:(Bool)→Option R) (kp:Int→Option R):Option R:=(Ei n n01 i4 c211 c212 c213 c214 c215 c216 c217 c218 c219 c220 c221 c222 c223 c224).bind fun x_1=>onL x_1 (fun a_2=>if 0≤a_2.2.1∧a_2.2.1<(a_2.2.2.2.2.2.2.2.2.2.2.2.2.2.1.n:Int) then if (decide ((IntKind.wrap .i64 ((IntKind.wrap .i64 (a_2.1+((a_2.2.2.2.2.2.2.2.2.2.2.2.2.2.1.at' (Int.toNat a_2.2.1)).size:Int)))+(2:Int)))>(8192:Int)))=true then kr false else ko ((IntKind.wrap .i64 ((IntKind.wrap .i64 (a_2.1+((a_2.2.2.2.2.2.2.2.2.2.2.2.2.2.1.at' (Int.toNat a_2.2.1)).size:Int)))+(2:Int))),a_2.2.1,a_2.2.2.1,a_2.2.2.2.1,a_2.2.2.2.2.1,a_2.2.2.2.2.2.1,a_2.2.2.2.2.2.2.1,a_2.2.2.2.2.2.2.2.1,a_2.2.2.2.2.2.2.2.2.1,a_2.2.2.2.2.2.2.2.2.2.1,a_2.2.2.2.2.2.2.2.2.2.2.1,a_2.2.2.2.2.2.2.2.2.2.2.2.1,a_2.2.2.2.2.2.2.2.2.2.2.2.2.1,a_2.2.2.2.2.2.2.2.2.2.2.2.2.2.1,a_2.2.2.2.2.2.2.2.2.2.2.2.2.2.2.1,a_2.2.2.2.2.2.2.2.2.2.2.2.2.2.2.2) else none) (fun a_3=>kr a_3) (fun _=>none)
def Di (n:Nat) (n01 i4 c211 c212 c213:Int) (c214:BA) (c215:Bool) (c216:Int) (c217:BA) (c218:Bool) (c219 c220:BA) (c221:(Sq U0)) (c222:(Sq BA)) (c223:Int) (c224:Bool):Option (Lx U5 (Bool)):=Xk n n01 i4 c211 c212 c213 c214 c215 c216 c217 c218 c219 c220 c221 c222 c223 c224 (fun a=>some (.out a)) (fun a=>some (.ret a)) (fun p=>some (.pan p))
theorem kP (n:Nat) {S:Type}:∀ n01 i4 c211 c212 c213 c214 c215 c216 c217 c218 c219 c220 c221 c222 c223 c224 (φ:_→Option S),(Di n n01 i4 c211 c212 c213 c214 c215 c216 c217 c218 c219 c220 c221 c222 c223 c224).bind φ=Xk n n01 i4 c211 c212 c213 c214 c215 c216 c217 c218 c219 c220 c221 c222 c223 c224 (fun a=>φ (.out a)) (fun a=>φ (.ret a)) (fun p=>φ (.pan p)):=by
  intros;first | (simp only [Di,Xk,la,fa,iB,bB,oL,oX,nB,Option.bind_some]) | rfl
def CA:List Sl:=.top::.ptr 0 0 0::.top::.top::.top::.dat (.int .i64)::.dat (.int .i64)::tp 192 []
def AA:List RS:=[.box 29 14 true [.dat (.int .i64),.dat (.int .i64),.dat (.int .i64),.dat .str,.dat .bool,.dat (.int .i64),.dat .str,.dat .bool,.dat .str,.dat .str,.dat (.sl (.pair .str (.pair .str .unit))),.dat (.sl .str),.dat (.int .i64),.dat .bool]]
def iG:List Sl:=.top::.ptr 0 0 0::.top::.top::.top::.dat (.int .i64)::.dat (.int .i64)::tp 192 []
def gG:List RS:=[.box 29 14 true [.dat (.int .i64),.dat (.int .i64),.dat (.int .i64),.dat .str,.dat .bool,.dat (.int .i64),.dat .str,.dat .bool,.dat .str,.dat .str,.dat (.sl (.pair .str (.pair .str .unit))),.dat (.sl .str),.dat (.int .i64),.dat .bool]]
def kG:List Sl:=.top::.top::.dat .bool::tp 196 []
def jG:List RS:=[]
def AE (K:XE→List AV→pa→Option Out):Lx U5 (Bool)→Option Out:=fun x=>onL x (fun a=>vc iG gG (a.1,(a.2.1,())) ((a.2.2.1,(a.2.2.2.1,(a.2.2.2.2.1,(a.2.2.2.2.2.1,(a.2.2.2.2.2.2.1,(a.2.2.2.2.2.2.2.1,(a.2.2.2.2.2.2.2.2.1,(a.2.2.2.2.2.2.2.2.2.1,(a.2.2.2.2.2.2.2.2.2.2.1,(a.2.2.2.2.2.2.2.2.2.2.2.1,(a.2.2.2.2.2.2.2.2.2.2.2.2.1,(a.2.2.2.2.2.2.2.2.2.2.2.2.2.1,(a.2.2.2.2.2.2.2.2.2.2.2.2.2.2.1,(a.2.2.2.2.2.2.2.2.2.2.2.2.2.2.2,())))))))))))))),()) (K .normal)) (fun a=>vc kG jG (a,()) () (K .ret)) (fun _=>none)
def zi (n:Nat) {R:Type} (n0 i3 c197 c198 c199:Int) (c200:BA) (c201:Bool) (c202:Int) (c203:BA) (c204:Bool) (c205 c206:BA) (c207:(Sq U0)) (c208:(Sq BA)) (c209:Int) (c210:Bool) (kn:Int→Int→Int→Int→Int→BA→Bool→Int→BA→Bool→BA→BA→(Sq U0)→(Sq BA)→Int→Bool→Option R) (ko:U6→Option R) (kr:(Bool)→Option R) (kp:Int→Option R):Option R:=if (decide (i3<(c208.n:Int)))=true then (Di n n0 i3 c197 c198 c199 c200 c201 c202 c203 c204 c205 c206 c207 c208 c209 c210).bind fun x_1=>onL x_1 (fun a_2=>kn a_2.1 (IntKind.wrap .i64 (a_2.2.1+(1:Int))) a_2.2.2.1 a_2.2.2.2.1 a_2.2.2.2.2.1 a_2.2.2.2.2.2.1 a_2.2.2.2.2.2.2.1 a_2.2.2.2.2.2.2.2.1 a_2.2.2.2.2.2.2.2.2.1 a_2.2.2.2.2.2.2.2.2.2.1 a_2.2.2.2.2.2.2.2.2.2.2.1 a_2.2.2.2.2.2.2.2.2.2.2.2.1 a_2.2.2.2.2.2.2.2.2.2.2.2.2.1 a_2.2.2.2.2.2.2.2.2.2.2.2.2.2.1 a_2.2.2.2.2.2.2.2.2.2.2.2.2.2.2.1 a_2.2.2.2.2.2.2.2.2.2.2.2.2.2.2.2) (fun a_3=>kr a_3) (fun _=>none) else ko (n0,c197,c198,c199,c200,c201,c202,c203,c204,c205,c206,c207,c208,c209,c210)
def Nb (n:Nat):Nat→Int→Int→Int→Int→Int→BA→Bool→Int→BA→Bool→BA→BA→(Sq U0)→(Sq BA)→Int→Bool→Option (Lx U6 (Bool))
 | 0,_,_,_,_,_,_,_,_,_,_,_,_,_,_,_,_=>none
 | m+1,n0,i3,c197,c198,c199,c200,c201,c202,c203,c204,c205,c206,c207,c208,c209,c210=>zi n n0 i3 c197 c198 c199 c200 c201 c202 c203 c204 c205 c206 c207 c208 c209 c210 (Nb n m) (fun a=>some (.out a)) (fun a=>some (.ret a)) (fun p=>some (.pan p))
theorem mV (n m:Nat) {S:Type}:∀ n0 i3 c197 c198 c199 c200 c201 c202 c203 c204 c205 c206 c207 c208 c209 c210 (φ:_→Option S),(Nb n (m+1) n0 i3 c197 c198 c199 c200 c201 c202 c203 c204 c205 c206 c207 c208 c209 c210).bind φ=zi n n0 i3 c197 c198 c199 c200 c201 c202 c203 c204 c205 c206 c207 c208 c209 c210 (fun n0 i3 c197 c198 c199 c200 c201 c202 c203 c204 c205 c206 c207 c208 c209 c210=>(Nb n m n0 i3 c197 c198 c199 c200 c201 c202 c203 c204 c205 c206 c207 c208 c209 c210).bind φ) (fun a=>φ (.out a)) (fun a=>φ (.ret a)) (fun p=>φ (.pan p)):=by
  intros;first | (simp only [Nb,zi,la,fa,iB,bB,oL,oX,nB,Option.bind_some]) | rfl
def Ip:List Sl:=.top::.ptr 0 0 0::.top::.top::.top::.dat (.int .i64)::.dat (.int .i64)::tp 192 []
def Hp:List RS:=[.box 29 14 true [.dat (.int .i64),.dat (.int .i64),.dat (.int .i64),.dat .str,.dat .bool,.dat (.int .i64),.dat .str,.dat .bool,.dat .str,.dat .str,.dat (.sl (.pair .str (.pair .str .unit))),.dat (.sl .str),.dat (.int .i64),.dat .bool]]
def uG:List Sl:=.top::.ptr 0 0 0::.top::.top::.top::.dat (.int .i64)::tp 193 []
def tG:List RS:=[.box 29 14 true [.dat (.int .i64),.dat (.int .i64),.dat (.int .i64),.dat .str,.dat .bool,.dat (.int .i64),.dat .str,.dat .bool,.dat .str,.dat .str,.dat (.sl (.pair .str (.pair .str .unit))),.dat (.sl .str),.dat (.int .i64),.dat .bool]]
def wG:List Sl:=.top::.top::.dat .bool::tp 196 []
def vG:List RS:=[]
def ae (K:XE→List AV→pa→Option Out):Lx U6 (Bool)→Option Out:=fun x=>onL x (fun a=>vc uG tG (a.1,()) ((a.2.1,(a.2.2.1,(a.2.2.2.1,(a.2.2.2.2.1,(a.2.2.2.2.2.1,(a.2.2.2.2.2.2.1,(a.2.2.2.2.2.2.2.1,(a.2.2.2.2.2.2.2.2.1,(a.2.2.2.2.2.2.2.2.2.1,(a.2.2.2.2.2.2.2.2.2.2.1,(a.2.2.2.2.2.2.2.2.2.2.2.1,(a.2.2.2.2.2.2.2.2.2.2.2.2.1,(a.2.2.2.2.2.2.2.2.2.2.2.2.2.1,(a.2.2.2.2.2.2.2.2.2.2.2.2.2.2,())))))))))))))),()) (K (.exit 3))) (fun a=>vc wG vG (a,()) () (K .ret)) (fun _=>none)
def Hw (n:Nat) {R:Type} (c:T0) (k:Bool→Option R):Option R:=(Ai n c.1 c.2.1 c.2.2.1 c.2.2.2.1.1 c.2.2.2.1.2.1 c.2.2.2.2.1 c.2.2.2.2.2.1 c.2.2.2.2.2.2.1 c.2.2.2.2.2.2.2.1.1 c.2.2.2.2.2.2.2.1.2.1 c.2.2.2.2.2.2.2.2.1 c.2.2.2.2.2.2.2.2.2.1 c.2.2.2.2.2.2.2.2.2.2.1 c.2.2.2.2.2.2.2.2.2.2.2.1).bind fun x_1=>onL x_1 (fun a_2=>if (decide ((a_2.2.2.2.2.2.2.1.size:Int)≤(200:Int)))=true then (aj n a_2.2.2.2.2.2.2.1).bind fun v3=>(He n v3 a_2.1 a_2.2.1 a_2.2.2.1 a_2.2.2.2.1 a_2.2.2.2.2.1 a_2.2.2.2.2.2.1 a_2.2.2.2.2.2.2.1 a_2.2.2.2.2.2.2.2.1 a_2.2.2.2.2.2.2.2.2.1 a_2.2.2.2.2.2.2.2.2.2.1 a_2.2.2.2.2.2.2.2.2.2.2.1 a_2.2.2.2.2.2.2.2.2.2.2.2.1 a_2.2.2.2.2.2.2.2.2.2.2.2.2.1 a_2.2.2.2.2.2.2.2.2.2.2.2.2.2).bind fun x_3=>onL x_3 (fun a_4=>(Ie n a_4.1 a_4.2.1 a_4.2.2.1 a_4.2.2.2.1 a_4.2.2.2.2.1 a_4.2.2.2.2.2.1 a_4.2.2.2.2.2.2.1 a_4.2.2.2.2.2.2.2.1 a_4.2.2.2.2.2.2.2.2.1 a_4.2.2.2.2.2.2.2.2.2.1 a_4.2.2.2.2.2.2.2.2.2.2.1 a_4.2.2.2.2.2.2.2.2.2.2.2.1 a_4.2.2.2.2.2.2.2.2.2.2.2.2.1 a_4.2.2.2.2.2.2.2.2.2.2.2.2.2).bind fun x_5=>onL x_5 (fun a_6=>(Mb n n (0:Int) a_6.1 a_6.2.1 a_6.2.2.1 a_6.2.2.2.1 a_6.2.2.2.2.1 a_6.2.2.2.2.2.1 a_6.2.2.2.2.2.2.1 a_6.2.2.2.2.2.2.2.1 a_6.2.2.2.2.2.2.2.2.1 a_6.2.2.2.2.2.2.2.2.2.1 a_6.2.2.2.2.2.2.2.2.2.2.1 a_6.2.2.2.2.2.2.2.2.2.2.2.1 a_6.2.2.2.2.2.2.2.2.2.2.2.2.1 a_6.2.2.2.2.2.2.2.2.2.2.2.2.2).bind fun x_7=>onL x_7 (fun a_8=>(Je n a_8.1 a_8.2.1 a_8.2.2.1 a_8.2.2.2.1 a_8.2.2.2.2.1 a_8.2.2.2.2.2.1 a_8.2.2.2.2.2.2.1 a_8.2.2.2.2.2.2.2.1 a_8.2.2.2.2.2.2.2.2.1 a_8.2.2.2.2.2.2.2.2.2.1 a_8.2.2.2.2.2.2.2.2.2.2.1 a_8.2.2.2.2.2.2.2.2.2.2.2.1 a_8.2.2.2.2.2.2.2.2.2.2.2.2.1 a_8.2.2.2.2.2.2.2.2.2.2.2.2.2).bind fun x_9=>onL x_9
 (fun a_10=>(Nb n n (0:Int) (0:Int) a_10.1 a_10.2.1 a_10.2.2.1 a_10.2.2.2.1 a_10.2.2.2.2.1 a_10.2.2.2.2.2.1 a_10.2.2.2.2.2.2.1 a_10.2.2.2.2.2.2.2.1 a_10.2.2.2.2.2.2.2.2.1 a_10.2.2.2.2.2.2.2.2.2.1 a_10.2.2.2.2.2.2.2.2.2.2.1 a_10.2.2.2.2.2.2.2.2.2.2.2.1 a_10.2.2.2.2.2.2.2.2.2.2.2.2.1 a_10.2.2.2.2.2.2.2.2.2.2.2.2.2).bind fun x_11=>onL x_11 (fun a_12=>k (a_12.2.2.2.2.2.2.2.2.2.2.2.2.2.1==a_12.1)) (fun a_13=>k a_13) (fun _=>none)) (fun a_14=>k a_14) (fun _=>none)) (fun a_15=>k a_15) (fun _=>none)) (fun a_16=>k a_16) (fun _=>none)) (fun a_17=>k a_17) (fun _=>none) else (He n false a_2.1 a_2.2.1 a_2.2.2.1 a_2.2.2.2.1 a_2.2.2.2.2.1 a_2.2.2.2.2.2.1 a_2.2.2.2.2.2.2.1 a_2.2.2.2.2.2.2.2.1 a_2.2.2.2.2.2.2.2.2.1 a_2.2.2.2.2.2.2.2.2.2.1 a_2.2.2.2.2.2.2.2.2.2.2.1 a_2.2.2.2.2.2.2.2.2.2.2.2.1 a_2.2.2.2.2.2.2.2.2.2.2.2.2.1 a_2.2.2.2.2.2.2.2.2.2.2.2.2.2).bind fun x_18=>onL x_18 (fun a_19=>(Ie n a_19.1 a_19.2.1 a_19.2.2.1 a_19.2.2.2.1 a_19.2.2.2.2.1 a_19.2.2.2.2.2.1 a_19.2.2.2.2.2.2.1 a_19.2.2.2.2.2.2.2.1 a_19.2.2.2.2.2.2.2.2.1 a_19.2.2.2.2.2.2.2.2.2.1 a_19.2.2.2.2.2.2.2.2.2.2.1 a_19.2.2.2.2.2.2.2.2.2.2.2.1 a_19.2.2.2.2.2.2.2.2.2.2.2.2.1 a_19.2.2.2.2.2.2.2.2.2.2.2.2.2).bind fun x_20=>onL x_20 (fun a_21=>(Mb n n (0:Int) a_21.1 a_21.2.1 a_21.2.2.1 a_21.2.2.2.1 a_21.2.2.2.2.1 a_21.2.2.2.2.2.1 a_21.2.2.2.2.2.2.1 a_21.2.2.2.2.2.2.2.1 a_21.2.2.2.2.2.2.2.2.1 a_21.2.2.2.2.2.2.2.2.2.1 a_21.2.2.2.2.2.2.2.2.2.2.1 a_21.2.2.2.2.2.2.2.2.2.2.2.1 a_21.2.2.2.2.2.2.2.2.2.2.2.2.1 a_21.2.2.2.2.2.2.2.2.2.2.2.2.2).bind fun x_22=>onL x_22
 (fun a_23=>(Je n a_23.1 a_23.2.1 a_23.2.2.1 a_23.2.2.2.1 a_23.2.2.2.2.1 a_23.2.2.2.2.2.1 a_23.2.2.2.2.2.2.1 a_23.2.2.2.2.2.2.2.1 a_23.2.2.2.2.2.2.2.2.1 a_23.2.2.2.2.2.2.2.2.2.1 a_23.2.2.2.2.2.2.2.2.2.2.1 a_23.2.2.2.2.2.2.2.2.2.2.2.1 a_23.2.2.2.2.2.2.2.2.2.2.2.2.1 a_23.2.2.2.2.2.2.2.2.2.2.2.2.2).bind fun x_24=>onL x_24 (fun a_25=>(Nb n n (0:Int) (0:Int) a_25.1 a_25.2.1 a_25.2.2.1 a_25.2.2.2.1 a_25.2.2.2.2.1 a_25.2.2.2.2.2.1 a_25.2.2.2.2.2.2.1 a_25.2.2.2.2.2.2.2.1 a_25.2.2.2.2.2.2.2.2.1 a_25.2.2.2.2.2.2.2.2.2.1 a_25.2.2.2.2.2.2.2.2.2.2.1 a_25.2.2.2.2.2.2.2.2.2.2.2.1 a_25.2.2.2.2.2.2.2.2.2.2.2.2.1 a_25.2.2.2.2.2.2.2.2.2.2.2.2.2).bind fun x_26=>onL x_26 (fun a_27=>k (a_27.2.2.2.2.2.2.2.2.2.2.2.2.2.1==a_27.1)) (fun a_28=>k a_28) (fun _=>none)) (fun a_29=>k a_29) (fun _=>none)) (fun a_30=>k a_30) (fun _=>none)) (fun a_31=>k a_31) (fun _=>none)) (fun a_32=>k a_32) (fun _=>none)) (fun a_33=>k a_33) (fun _=>none)
def Ep (n:Nat) (c:T0):Option Bool:=Hw n c some
theorem n8 (n:Nat) {S:Type}:∀ c (φ:_→Option S),(Ep n c).bind φ=Hw n c φ:=by
  intros;unfold Ep Hw;first | (simp only [la,fa,iB,bB,oL,oX,nB,Option.bind_some]) | rfl
def ab (n:Nat):Hint Out:={ live:=fun c=>(cond (Nat.beq c 3) (lv [1,5,6]) (cond (Nat.beq c 1) [(1,none),(4,none)] [])),run:=fun c=>(cond (Nat.beq c 3) (some (Ng Ip Hp fun σ ρ K=>(Nb n n σ.1 σ.2.1 ρ.1.1 ρ.1.2.1 ρ.1.2.2.1 ρ.1.2.2.2.1 ρ.1.2.2.2.2.1 ρ.1.2.2.2.2.2.1 ρ.1.2.2.2.2.2.2.1 ρ.1.2.2.2.2.2.2.2.1 ρ.1.2.2.2.2.2.2.2.2.1 ρ.1.2.2.2.2.2.2.2.2.2.1 ρ.1.2.2.2.2.2.2.2.2.2.2.1 ρ.1.2.2.2.2.2.2.2.2.2.2.2.1 ρ.1.2.2.2.2.2.2.2.2.2.2.2.2.1 ρ.1.2.2.2.2.2.2.2.2.2.2.2.2.2.1).bind (ae K))) (cond (Nat.beq c 1) (some (Ng Gp Fp fun σ ρ K=>(Mb n n σ.1 ρ.1.1 ρ.1.2.1 ρ.1.2.2.1 ρ.1.2.2.2.1 ρ.1.2.2.2.2.1 ρ.1.2.2.2.2.2.1 ρ.1.2.2.2.2.2.2.1 ρ.1.2.2.2.2.2.2.2.1 ρ.1.2.2.2.2.2.2.2.2.1 ρ.1.2.2.2.2.2.2.2.2.2.1 ρ.1.2.2.2.2.2.2.2.2.2.2.1 ρ.1.2.2.2.2.2.2.2.2.2.2.2.1 ρ.1.2.2.2.2.2.2.2.2.2.2.2.2.1 ρ.1.2.2.2.2.2.2.2.2.2.2.2.2.2.1).bind (Zd K))) none)),xm:=fun c q=>(cond (Nat.beq c 3&&Nat.beq (q.getD 1000000) 3&&q.isSome) (some [(1,none),(5,none)]) (cond (Nat.beq c 4&&q.isNone) (some [(2,none)]) (cond (Nat.beq c 1&&Nat.beq (q.getD 1000000) 1&&q.isSome) (some [(1,none)]) (cond (Nat.beq c 2&&q.isNone) (some [(2,none)]) (cond (Nat.beq c 0&&q.isNone) (some [(2,none)]) none))))),jn:=fun c=>(cond (Nat.beq c 31) (some (Ng CA AA fun σ ρ K=>(Di n σ.1 σ.2.1 ρ.1.1 ρ.1.2.1 ρ.1.2.2.1 ρ.1.2.2.2.1 ρ.1.2.2.2.2.1 ρ.1.2.2.2.2.2.1 ρ.1.2.2.2.2.2.2.1 ρ.1.2.2.2.2.2.2.2.1 ρ.1.2.2.2.2.2.2.2.2.1 ρ.1.2.2.2.2.2.2.2.2.2.1 ρ.1.2.2.2.2.2.2.2.2.2.2.1 ρ.1.2.2.2.2.2.2.2.2.2.2.2.1 ρ.1.2.2.2.2.2.2.2.2.2.2.2.2.1 ρ.1.2.2.2.2.2.2.2.2.2.2.2.2.2.1).bind (AE K))) (cond (Nat.beq c 34) (some (Ng EA DA fun σ ρ K=>(Ei n σ.1 σ.2.1 ρ.1.1 ρ.1.2.1 ρ.1.2.2.1 ρ.1.2.2.2.1 ρ.1.2.2.2.2.1 ρ.1.2.2.2.2.2.1 ρ.1.2.2.2.2.2.2.1 ρ.1.2.2.2.2.2.2.2.1 ρ.1.2.2.2.2.2.2.2.2.1 ρ.1.2.2.2.2.2.2.2.2.2.1 ρ.1.2.2.2.2.2.2.2.2.2.2.1 ρ.1.2.2.2.2.2.2.2.2.2.2.2.1 ρ.1.2.2.2.2.2.2.2.2.2.2.2.2.1 ρ.1.2.2.2.2.2.2.2.2.2.2.2.2.2.1).bind (BE K))) (cond (Nat.beq c 28) (some (Ng yA xA fun σ ρ K=>(Je n ρ.1.1 ρ.1.2.1 ρ.1.2.2.1 ρ.1.2.2.2.1 ρ.1.2.2.2.2.1 ρ.1.2.2.2.2.2.1 ρ.1.2.2.2.2.2.2.1 ρ.1.2.2.2.2.2.2.2.1 ρ.1.2.2.2.2.2.2.2.2.1 ρ.1.2.2.2.2.2.2.2.2.2.1 ρ.1.2.2.2.2.2.2.2.2.2.2.1 ρ.1.2.2.2.2.2.2.2.2.2.2.2.1 ρ.1.2.2.2.2.2.2.2.2.2.2.2.2.1 ρ.1.2.2.2.2.2.2.2.2.2.2.2.2.2.1).bind (zE K))) (cond (Nat.beq c 23) (some (Ng wA vA fun σ ρ K=>(Ci n σ.1 ρ.1.1 ρ.1.2.1 ρ.1.2.2.1 ρ.1.2.2.2.1 ρ.1.2.2.2.2.1 ρ.1.2.2.2.2.2.1 ρ.1.2.2.2.2.2.2.1 ρ.1.2.2.2.2.2.2.2.1 ρ.1.2.2.2.2.2.2.2.2.1 ρ.1.2.2.2.2.2.2.2.2.2.1 ρ.1.2.2.2.2.2.2.2.2.2.2.1 ρ.1.2.2.2.2.2.2.2.2.2.2.2.1 ρ.1.2.2.2.2.2.2.2.2.2.2.2.2.1 ρ.1.2.2.2.2.2.2.2.2.2.2.2.2.2.1).bind (yE K))) (cond (Nat.beq c 21) (some (Ng sA rA fun σ ρ K=>(Ie n ρ.1.1 ρ.1.2.1 ρ.1.2.2.1 ρ.1.2.2.2.1 ρ.1.2.2.2.2.1 ρ.1.2.2.2.2.2.1 ρ.1.2.2.2.2.2.2.1 ρ.1.2.2.2.2.2.2.2.1 ρ.1.2.2.2.2.2.2.2.2.1 ρ.1.2.2.2.2.2.2.2.2.2.1 ρ.1.2.2.2.2.2.2.2.2.2.2.1 ρ.1.2.2.2.2.2.2.2.2.2.2.2.1 ρ.1.2.2.2.2.2.2.2.2.2.2.2.2.1 ρ.1.2.2.2.2.2.2.2.2.2.2.2.2.2.1).bind (wE K))) (cond (Nat.beq c 17) (some (Ng uA tA fun σ ρ K=>(Bi n ρ.1.1 ρ.1.2.1 ρ.1.2.2.1 ρ.1.2.2.2.1 ρ.1.2.2.2.2.1 ρ.1.2.2.2.2.2.1 ρ.1.2.2.2.2.2.2.1 ρ.1.2.2.2.2.2.2.2.1 ρ.1.2.2.2.2.2.2.2.2.1 ρ.1.2.2.2.2.2.2.2.2.2.1 ρ.1.2.2.2.2.2.2.2.2.2.2.1 ρ.1.2.2.2.2.2.2.2.2.2.2.2.1 ρ.1.2.2.2.2.2.2.2.2.2.2.2.2.1 ρ.1.2.2.2.2.2.2.2.2.2.2.2.2.2.1).bind (xE K))) (cond (Nat.beq c 14) (some (Ng qA pA fun σ ρ K=>(He n σ.1 ρ.1.1 ρ.1.2.1 ρ.1.2.2.1 ρ.1.2.2.2.1 ρ.1.2.2.2.2.1 ρ.1.2.2.2.2.2.1 ρ.1.2.2.2.2.2.2.1 ρ.1.2.2.2.2.2.2.2.1 ρ.1.2.2.2.2.2.2.2.2.1 ρ.1.2.2.2.2.2.2.2.2.2.1 ρ.1.2.2.2.2.2.2.2.2.2.2.1 ρ.1.2.2.2.2.2.2.2.2.2.2.2.1 ρ.1.2.2.2.2.2.2.2.2.2.2.2.2.1 ρ.1.2.2.2.2.2.2.2.2.2.2.2.2.2.1).bind (vE K))) (cond (Nat.beq c 4) (some (Ng oA nA fun σ ρ K=>(Ai n ρ.1.1 ρ.1.2.1 ρ.1.2.2.1 ρ.1.2.2.2.1 ρ.1.2.2.2.2.1 ρ.1.2.2.2.2.2.1 ρ.1.2.2.2.2.2.2.1 ρ.1.2.2.2.2.2.2.2.1 ρ.1.2.2.2.2.2.2.2.2.1 ρ.1.2.2.2.2.2.2.2.2.2.1 ρ.1.2.2.2.2.2.2.2.2.2.2.1 ρ.1.2.2.2.2.2.2.2.2.2.2.2.1 ρ.1.2.2.2.2.2.2.2.2.2.2.2.2.1 ρ.1.2.2.2.2.2.2.2.2.2.2.2.2.2.1).bind (uE K))) none)))))))),jl:=fun c=>(cond (Nat.beq c 31) (lv [1,5,6]) (cond (Nat.beq c 34) (lv [1,5,6]) (cond (Nat.beq c 28) [(1,none)] (cond (Nat.beq c 23) [(1,none),(4,none)] (cond (Nat.beq c 21) [(1,none)] (cond (Nat.beq c 17) [(1,none)] (cond (Nat.beq c 14) [(1,none),(3,none)] (cond (Nat.beq c 4) [(1,none)] [])))))))),jo:=fun c=>(cond (Nat.beq c 31) (lv [1,5,6]) (cond (Nat.beq c 34) (lv [1,5,6]) (cond (Nat.beq c 28) [(1,none)] (cond (Nat.beq c 23) [(1,none),(4,none)] (cond (Nat.beq c 21) [(1,none)] (cond (Nat.beq c 17) [(1,none)] (cond (Nat.beq c 14) [(1,none)] (cond (Nat.beq c 4) [(1,none)] [])))))))) }
theorem nS (n:Nat):HZ tys (ja Out (Gb n)) (ab n) n (ya [1,0] (ia Tryz.f16)) 0 4:=uh (sp:=oA) (rp:=nA) (by kernel_rfl) fun K σ ρ=>Eq.trans (by kernel_rfl) (dP n ρ.1.1 ρ.1.2.1 ρ.1.2.2.1 ρ.1.2.2.2.1 ρ.1.2.2.2.2.1 ρ.1.2.2.2.2.2.1 ρ.1.2.2.2.2.2.2.1 ρ.1.2.2.2.2.2.2.2.1 ρ.1.2.2.2.2.2.2.2.2.1 ρ.1.2.2.2.2.2.2.2.2.2.1 ρ.1.2.2.2.2.2.2.2.2.2.2.1 ρ.1.2.2.2.2.2.2.2.2.2.2.2.1 ρ.1.2.2.2.2.2.2.2.2.2.2.2.2.1 ρ.1.2.2.2.2.2.2.2.2.2.2.2.2.2.1 (uE K)).symm
theorem oS (n:Nat):HZ tys (ja Out (Gb n)) (ab n) n (ya [1,1,1,0] (ia Tryz.f16)) 0 14:=uh (sp:=qA) (rp:=pA) (by kernel_rfl) fun K σ ρ=>Eq.trans (by kernel_rfl) (eP n σ.1 ρ.1.1 ρ.1.2.1 ρ.1.2.2.1 ρ.1.2.2.2.1 ρ.1.2.2.2.2.1 ρ.1.2.2.2.2.2.1 ρ.1.2.2.2.2.2.2.1 ρ.1.2.2.2.2.2.2.2.1 ρ.1.2.2.2.2.2.2.2.2.1 ρ.1.2.2.2.2.2.2.2.2.2.1 ρ.1.2.2.2.2.2.2.2.2.2.2.1 ρ.1.2.2.2.2.2.2.2.2.2.2.2.1 ρ.1.2.2.2.2.2.2.2.2.2.2.2.2.1 ρ.1.2.2.2.2.2.2.2.2.2.2.2.2.2.1 (vE K)).symm
theorem qS (n:Nat):HZ tys (ja Out (Gb n)) (ab n) n (ya [1,1,1,1,0,1,0,0] (ia Tryz.f16)) 0 17:=uh (sp:=uA) (rp:=tA) (by kernel_rfl) fun K σ ρ=>Eq.trans (by kernel_rfl) (gP n ρ.1.1 ρ.1.2.1 ρ.1.2.2.1 ρ.1.2.2.2.1 ρ.1.2.2.2.2.1 ρ.1.2.2.2.2.2.1 ρ.1.2.2.2.2.2.2.1 ρ.1.2.2.2.2.2.2.2.1 ρ.1.2.2.2.2.2.2.2.2.1 ρ.1.2.2.2.2.2.2.2.2.2.1 ρ.1.2.2.2.2.2.2.2.2.2.2.1 ρ.1.2.2.2.2.2.2.2.2.2.2.2.1 ρ.1.2.2.2.2.2.2.2.2.2.2.2.2.1 ρ.1.2.2.2.2.2.2.2.2.2.2.2.2.2.1 (xE K)).symm
theorem pS (n:Nat):HZ tys (ja Out (Gb n)) (ab n) n (ya [1,1,1,1,0] (ia Tryz.f16)) 0 21:=uh (sp:=sA) (rp:=rA) (by kernel_rfl) fun K σ ρ=>Eq.trans (by kernel_rfl) (fP n ρ.1.1 ρ.1.2.1 ρ.1.2.2.1 ρ.1.2.2.2.1 ρ.1.2.2.2.2.1 ρ.1.2.2.2.2.2.1 ρ.1.2.2.2.2.2.2.1 ρ.1.2.2.2.2.2.2.2.1 ρ.1.2.2.2.2.2.2.2.2.1 ρ.1.2.2.2.2.2.2.2.2.2.1 ρ.1.2.2.2.2.2.2.2.2.2.2.1 ρ.1.2.2.2.2.2.2.2.2.2.2.2.1 ρ.1.2.2.2.2.2.2.2.2.2.2.2.2.1 ρ.1.2.2.2.2.2.2.2.2.2.2.2.2.2.1 (wE K)).symm
theorem rS (n:Nat):HZ tys (ja Out (Gb n)) (ab n) n (ya [1,1,1,1,1,0,1,0,0,1,0] (ia Tryz.f16)) 1 23:=uh (sp:=wA) (rp:=vA) (by kernel_rfl) fun K σ ρ=>Eq.trans (by kernel_rfl) (iP n σ.1 ρ.1.1 ρ.1.2.1 ρ.1.2.2.1 ρ.1.2.2.2.1 ρ.1.2.2.2.2.1 ρ.1.2.2.2.2.2.1 ρ.1.2.2.2.2.2.2.1 ρ.1.2.2.2.2.2.2.2.1 ρ.1.2.2.2.2.2.2.2.2.1 ρ.1.2.2.2.2.2.2.2.2.2.1 ρ.1.2.2.2.2.2.2.2.2.2.2.1 ρ.1.2.2.2.2.2.2.2.2.2.2.2.1 ρ.1.2.2.2.2.2.2.2.2.2.2.2.2.1 ρ.1.2.2.2.2.2.2.2.2.2.2.2.2.2.1 (yE K)).symm
def Zk (n:Nat) (K:XE→List AV→pa→Option Out) (m:Nat) (i:Int) (c113:Int) (c114:Int) (c115:Int) (c116:BA) (c117:Bool) (c118:Int) (c119:BA) (c120:Bool) (c121:BA) (c122:BA) (c123:(Sq U0)) (c124:(Sq BA)) (c125:Int) (c126:Bool):Option Out:=Oc tys (ja Out (Gb n)) (ab n) n (ya [1,1,1,1,1,0,1,0,0] (ia Tryz.f16)) 1 Gp Fp K m (i,()) ((c113,(c114,(c115,(c116,(c117,(c118,(c119,(c120,(c121,(c122,(c123,(c124,(c125,(c126,())))))))))))))),())
theorem DE (n:Nat) (K:XE→List AV→pa→Option Out):∀ (m:Nat) i c113 c114 c115 c116 c117 c118 c119 c120 c121 c122 c123 c124 c125 c126,Zk n K m i c113 c114 c115 c116 c117 c118 c119 c120 c121 c122 c123 c124 c125 c126=(Mb n m i c113 c114 c115 c116 c117 c118 c119 c120 c121 c122 c123 c124 c125 c126).bind (Zd K)
  | 0,_,_,_,_,_,_,_,_,_,_,_,_,_,_,_=>by kernel_rfl
  | m+1,i,c113,c114,c115,c116,c117,c118,c119,c120,c121,c122,c123,c124,c125,c126=>by
    have h1:Zk n K (m+1) i c113 c114 c115 c116 c117 c118 c119 c120 c121 c122 c123 c124 c125 c126=yi n i c113 c114 c115 c116 c117 c118 c119 c120 c121 c122 c123 c124 c125 c126 (Zk n K m) (fun a=>Zd K (.out a)) (fun a=>Zd K (.ret a)) (fun p=>Zd K (.pan p)):=by kernel_rfl
    have h2:Zk n K m=fun i c113 c114 c115 c116 c117 c118 c119 c120 c121 c122 c123 c124 c125 c126=>(Mb n m i c113 c114 c115 c116 c117 c118 c119 c120 c121 c122 c123 c124 c125 c126).bind (Zd K):=by
      repeat (refine funext fun _=>?_)
      exact DE n K m _ _ _ _ _ _ _ _ _ _ _ _ _ _ _
    rw [h1,h2];exact (lV n m _ _ _ _ _ _ _ _ _ _ _ _ _ _ _ (Zd K)).symm
theorem vS (n:Nat):yc tys (ja Out (Gb n)) (ab n) n (ya [1,1,1,1,1,0,1,0,0] (ia Tryz.f16)) 1:=Fa (sp:=Gp) (rp:=Fp) (by kernel_rfl) fun K σ ρ=>DE n K n σ.1 ρ.1.1 ρ.1.2.1 ρ.1.2.2.1 ρ.1.2.2.2.1 ρ.1.2.2.2.2.1 ρ.1.2.2.2.2.2.1 ρ.1.2.2.2.2.2.2.1 ρ.1.2.2.2.2.2.2.2.1 ρ.1.2.2.2.2.2.2.2.2.1 ρ.1.2.2.2.2.2.2.2.2.2.1 ρ.1.2.2.2.2.2.2.2.2.2.2.1 ρ.1.2.2.2.2.2.2.2.2.2.2.2.1 ρ.1.2.2.2.2.2.2.2.2.2.2.2.2.1 ρ.1.2.2.2.2.2.2.2.2.2.2.2.2.2.1
theorem sS (n:Nat):HZ tys (ja Out (Gb n)) (ab n) n (ya [1,1,1,1,1,1,0] (ia Tryz.f16)) 0 28:=uh (sp:=yA) (rp:=xA) (by kernel_rfl) fun K σ ρ=>Eq.trans (by kernel_rfl) (jP n ρ.1.1 ρ.1.2.1 ρ.1.2.2.1 ρ.1.2.2.2.1 ρ.1.2.2.2.2.1 ρ.1.2.2.2.2.2.1 ρ.1.2.2.2.2.2.2.1 ρ.1.2.2.2.2.2.2.2.1 ρ.1.2.2.2.2.2.2.2.2.1 ρ.1.2.2.2.2.2.2.2.2.2.1 ρ.1.2.2.2.2.2.2.2.2.2.2.1 ρ.1.2.2.2.2.2.2.2.2.2.2.2.1 ρ.1.2.2.2.2.2.2.2.2.2.2.2.2.1 ρ.1.2.2.2.2.2.2.2.2.2.2.2.2.2.1 (zE K)).symm
theorem uS (n:Nat):HZ tys (ja Out (Gb n)) (ab n) n (ya [1,1,1,1,1,1,1,1,0,1,0,0,1,0,0,0] (ia Tryz.f16)) 4 34:=uh (sp:=EA) (rp:=DA) (by kernel_rfl) fun K σ ρ=>Eq.trans (by kernel_rfl) (lP n σ.1 σ.2.1 ρ.1.1 ρ.1.2.1 ρ.1.2.2.1 ρ.1.2.2.2.1 ρ.1.2.2.2.2.1 ρ.1.2.2.2.2.2.1 ρ.1.2.2.2.2.2.2.1 ρ.1.2.2.2.2.2.2.2.1 ρ.1.2.2.2.2.2.2.2.2.1 ρ.1.2.2.2.2.2.2.2.2.2.1 ρ.1.2.2.2.2.2.2.2.2.2.2.1 ρ.1.2.2.2.2.2.2.2.2.2.2.2.1 ρ.1.2.2.2.2.2.2.2.2.2.2.2.2.1 ρ.1.2.2.2.2.2.2.2.2.2.2.2.2.2.1 (BE K)).symm
theorem tS (n:Nat):HZ tys (ja Out (Gb n)) (ab n) n (ya [1,1,1,1,1,1,1,1,0,1,0,0,1,0] (ia Tryz.f16)) 3 31:=uh (sp:=CA) (rp:=AA) (by kernel_rfl) fun K σ ρ=>Eq.trans (by kernel_rfl) (kP n σ.1 σ.2.1 ρ.1.1 ρ.1.2.1 ρ.1.2.2.1 ρ.1.2.2.2.1 ρ.1.2.2.2.2.1 ρ.1.2.2.2.2.2.1 ρ.1.2.2.2.2.2.2.1 ρ.1.2.2.2.2.2.2.2.1 ρ.1.2.2.2.2.2.2.2.2.1 ρ.1.2.2.2.2.2.2.2.2.2.1 ρ.1.2.2.2.2.2.2.2.2.2.2.1 ρ.1.2.2.2.2.2.2.2.2.2.2.2.1 ρ.1.2.2.2.2.2.2.2.2.2.2.2.2.1 ρ.1.2.2.2.2.2.2.2.2.2.2.2.2.2.1 (AE K)).symm
def bl (n:Nat) (K:XE→List AV→pa→Option Out) (m:Nat) (n0:Int) (i3:Int) (c197:Int) (c198:Int) (c199:Int) (c200:BA) (c201:Bool) (c202:Int) (c203:BA) (c204:Bool) (c205:BA) (c206:BA) (c207:(Sq U0)) (c208:(Sq BA)) (c209:Int) (c210:Bool):Option Out:=Oc tys (ja Out (Gb n)) (ab n) n (ya [1,1,1,1,1,1,1,1,0,1,0,0] (ia Tryz.f16)) 3 Ip Hp K m (n0,(i3,())) ((c197,(c198,(c199,(c200,(c201,(c202,(c203,(c204,(c205,(c206,(c207,(c208,(c209,(c210,())))))))))))))),())
theorem EE (n:Nat) (K:XE→List AV→pa→Option Out):∀ (m:Nat) n0 i3 c197 c198 c199 c200 c201 c202 c203 c204 c205 c206 c207 c208 c209 c210,bl n K m n0 i3 c197 c198 c199 c200 c201 c202 c203 c204 c205 c206 c207 c208 c209 c210=(Nb n m n0 i3 c197 c198 c199 c200 c201 c202 c203 c204 c205 c206 c207 c208 c209 c210).bind (ae K)
  | 0,_,_,_,_,_,_,_,_,_,_,_,_,_,_,_,_=>by kernel_rfl
  | m+1,n0,i3,c197,c198,c199,c200,c201,c202,c203,c204,c205,c206,c207,c208,c209,c210=>by
    have h1:bl n K (m+1) n0 i3 c197 c198 c199 c200 c201 c202 c203 c204 c205 c206 c207 c208 c209 c210=zi n n0 i3 c197 c198 c199 c200 c201 c202 c203 c204 c205 c206 c207 c208 c209 c210 (bl n K m) (fun a=>ae K (.out a)) (fun a=>ae K (.ret a)) (fun p=>ae K (.pan p)):=by kernel_rfl
    have h2:bl n K m=fun n0 i3 c197 c198 c199 c200 c201 c202 c203 c204 c205 c206 c207 c208 c209 c210=>(Nb n m n0 i3 c197 c198 c199 c200 c201 c202 c203 c204 c205 c206 c207 c208 c209 c210).bind (ae K):=by
      repeat (refine funext fun _=>?_)
      exact EE n K m _ _ _ _ _ _ _ _ _ _ _ _ _ _ _ _
    rw [h1,h2];exact (mV n m _ _ _ _ _ _ _ _ _ _ _ _ _ _ _ _ (ae K)).symm
theorem wS (n:Nat):yc tys (ja Out (Gb n)) (ab n) n (ya [1,1,1,1,1,1,1,1,0,1,0,0] (ia Tryz.f16)) 3:=Fa (sp:=Ip) (rp:=Hp) (by kernel_rfl) fun K σ ρ=>EE n K n σ.1 σ.2.1 ρ.1.1 ρ.1.2.1 ρ.1.2.2.1 ρ.1.2.2.2.1 ρ.1.2.2.2.2.1 ρ.1.2.2.2.2.2.1 ρ.1.2.2.2.2.2.2.1 ρ.1.2.2.2.2.2.2.2.1 ρ.1.2.2.2.2.2.2.2.2.1 ρ.1.2.2.2.2.2.2.2.2.2.1 ρ.1.2.2.2.2.2.2.2.2.2.2.1 ρ.1.2.2.2.2.2.2.2.2.2.2.2.1 ρ.1.2.2.2.2.2.2.2.2.2.2.2.2.1 ρ.1.2.2.2.2.2.2.2.2.2.2.2.2.2.1
theorem nV (n:Nat):ra tys (ja Out (Gb n)) (ab n) n (ia Tryz.f16) 0:=⟨aa,⟨⟨⟨aa,⟨⟨aa,aa⟩,aa⟩⟩,⟨aa,⟨⟨⟨aa,⟨aa,⟨⟨aa,⟨⟨aa,aa⟩,aa⟩⟩,⟨aa,⟨⟨aa,⟨⟨aa,aa⟩,aa⟩⟩,⟨aa,⟨⟨aa,aa⟩,aa⟩⟩⟩⟩⟩⟩⟩,⟨⟨⟨aa,⟨⟨⟨⟨aa,⟨⟨aa,aa⟩,aa⟩⟩,⟨aa,⟨⟨aa,aa⟩,aa⟩⟩⟩,qS n⟩,⟨aa,⟨⟨aa,aa⟩,aa⟩⟩⟩⟩,⟨⟨aa,⟨vS n,⟨⟨aa,⟨aa,aa⟩⟩,⟨⟨⟨aa,⟨⟨aa,aa⟩,aa⟩⟩,aa⟩,rS n⟩⟩⟩⟩,⟨⟨⟨aa,⟨⟨aa,aa⟩,aa⟩⟩,⟨aa,⟨⟨aa,⟨wS n,⟨⟨aa,⟨aa,aa⟩⟩,⟨⟨⟨⟨⟨aa,⟨⟨aa,aa⟩,aa⟩⟩,⟨aa,⟨aa,⟨⟨aa,aa⟩,aa⟩⟩⟩⟩,uS n⟩,aa⟩,tS n⟩⟩⟩⟩,⟨aa,aa⟩⟩⟩⟩,sS n⟩⟩⟩,pS n⟩⟩,oS n⟩⟩⟩,nS n⟩⟩
theorem AY (n:Nat):Enters Tryz.prog 16:=enters_of (c:=ia Tryz.f16) Tryz.func16 (by kernel_rfl) (by kernel_rfl)
def bO (n:Nat):Entry:=⟨16,pcT K1 (.one .bool) (fun xs=>Ep n xs.1),none,none⟩
theorem P3 (n:Nat):EntryOk Tryz.prog gl (bO n):=Aa (AY n) fun xs y h=>oa tys_ok (rE n) mixed (hint:=ab n) (n:=n) Tryz.func16 (Ba (nV n)) (ma (φ:=(fun y=>some (Out.ret (rb (.one .bool) y)))) (by kernel_rfl) (n8 n xs.1 _) h)
def FA (n:Nat):List Entry:=bO n::Gb n
theorem GA (n:Nat):AllOk Tryz.prog gl (FA n):=.cons (P3 n) (rE n)
def dC (n:Nat) {R:Type} (n0 least most:Int) (k:Bool→Option R):Option R:=if (decide (n0≥least))=true then k (decide (n0≤most)) else k false
def yn (n:Nat) (n0 least most:Int):Option Bool:=dC n n0 least most some
theorem acb (n:Nat) {S:Type}:∀ n0 least most (φ:_→Option S),(yn n n0 least most).bind φ=dC n n0 least most φ:=by
  intros;unfold yn dC;first | (simp only [la,fa,iB,bB,oL,oX,nB,Option.bind_some]) | rfl
def wI (n:Nat):Hint Out:={ live:=fun c=>[],run:=fun c=>none,xm:=fun c q=>none }
theorem OX (n:Nat):ra tys (ja Out (FA n)) (wI n) n (ia Tryz.f63) 0:=na (fun _=>rfl) _ _ (by kernel_rfl)
theorem Q1 (n:Nat):Enters Tryz.prog 63:=enters_of (c:=ia Tryz.f63) Tryz.func63 (by kernel_rfl) (by kernel_rfl)
def yR (n:Nat):Entry:=⟨63,pcT (.pair (.int .i64) (.pair (.int .i64) (.pair (.int .i64) .unit))) (.one .bool) (fun xs=>yn n xs.1 xs.2.1 xs.2.2.1),none,none⟩
theorem s7 (n:Nat):EntryOk Tryz.prog gl (yR n):=Aa (Q1 n) fun xs y h=>oa tys_ok (GA n) mixed (hint:=wI n) (n:=n) Tryz.func63 (Ba (OX n)) (ma (φ:=(fun y=>some (Out.ret (rb (.one .bool) y)))) (by kernel_rfl) (acb n xs.1 xs.2.1 xs.2.2.1 _) h)
def zR (n:Nat):List Entry:=yR n::FA n
theorem MU (n:Nat):AllOk Tryz.prog gl (zR n):=.cons (s7 n) (GA n)
def Qt (n:Nat):List Entry:=⟨89,pcT (.pair .str (.pair .str .unit)) (.one .bool) (fun xs=>tu xs.1 xs.2.1),none,none⟩::zR n
theorem zv (n:Nat):AllOk Tryz.prog gl (Qt n):=.cons w7 (MU n)
def xw (n:Nat) {R:Type} (f:U9) (k:Bool→Option R):Option R:=if f.2.1=true then if (f.1.toList==(⟨#[]⟩:BA).toList)=false then k (f.1.toList==(⟨#[13]⟩:BA).toList) else k true else if (decide ((f.1.size:Int)<(512:Int)))=true then (tu f.1 (⟨#[13,10]⟩:BA)).bind fun v=>k (!v) else k false
def vu (n:Nat) (f:U9):Option Bool:=xw n f some
theorem F7 (n:Nat) {S:Type}:∀ f (φ:_→Option S),(vu n f).bind φ=xw n f φ:=by
  intros;unfold vu xw;first | (simp only [la,fa,iB,bB,oL,oX,nB,Option.bind_some]) | rfl
def kE (n:Nat):Hint Out:={ live:=fun c=>[],run:=fun c=>none,xm:=fun c q=>none }
theorem TU (n:Nat):ra tys (ja Out (Qt n)) (kE n) n (ia Tryz.f64) 0:=na (fun _=>rfl) _ _ (by kernel_rfl)
theorem WX (n:Nat):Enters Tryz.prog 64:=enters_of (c:=ia Tryz.f64) Tryz.func64 (by kernel_rfl) (by kernel_rfl)
def TN (n:Nat):Entry:=⟨64,pcT (.pair (.pair .str (.pair .bool .unit)) .unit) (.one .bool) (fun xs=>vu n xs.1),none,none⟩
theorem G2 (n:Nat):EntryOk Tryz.prog gl (TN n):=Aa (WX n) fun xs y h=>oa tys_ok (zv n) mixed (hint:=kE n) (n:=n) Tryz.func64 (Ba (TU n)) (ma (φ:=(fun y=>some (Out.ret (rb (.one .bool) y)))) (by kernel_rfl) (F7 n xs.1 _) h)
def Tz (n:Nat):List Entry:=TN n::Qt n
theorem Uz (n:Nat):AllOk Tryz.prog gl (Tz n):=.cons (G2 n) (zv n)
def Lk (n:Nat) {R:Type} (s prefix0:BA) (k:Bool→Option R):Option R:=if (decide ((s.size:Int)≥(prefix0.size:Int)))=true then if 0≤(prefix0.size:Int)∧(prefix0.size:Int)≤(s.size:Int) then k ((s.extract (Int.toNat (0:Int)) (Int.toNat (prefix0.size:Int))).toList==prefix0.toList) else none else k false
def Wc (n:Nat) (s prefix0:BA):Option Bool:=Lk n s prefix0 some
theorem UU (n:Nat) {S:Type}:∀ s prefix0 (φ:_→Option S),(Wc n s prefix0).bind φ=Lk n s prefix0 φ:=by
  intros;unfold Wc Lk;first | (simp only [la,fa,iB,bB,oL,oX,nB,Option.bind_some]) | rfl
def Au (n:Nat):Hint Out:={ live:=fun c=>[],run:=fun c=>none,xm:=fun c q=>none }
theorem PL (n:Nat):ra tys (ja Out (Tz n)) (Au n) n (ia Tryz.f163) 0:=na (fun _=>rfl) _ _ (by kernel_rfl)
theorem SO (n:Nat):Enters Tryz.prog 163:=enters_of (c:=ia Tryz.f163) Tryz.func163 (by kernel_rfl) (by kernel_rfl)
def Xz (n:Nat):Entry:=⟨163,pcT (.pair .str (.pair .str .unit)) (.one .bool) (fun xs=>Wc n xs.1 xs.2.1),none,none⟩
theorem JR (n:Nat):EntryOk Tryz.prog gl (Xz n):=Aa (SO n) fun xs y h=>oa tys_ok (Uz n) mixed (hint:=Au n) (n:=n) Tryz.func163 (Ba (PL n)) (ma (φ:=(fun y=>some (Out.ret (rb (.one .bool) y)))) (by kernel_rfl) (UU n xs.1 xs.2.1 _) h)
def bp (n:Nat):List Entry:=Xz n::Tz n
theorem Pq (n:Nat):AllOk Tryz.prog gl (bp n):=.cons (JR n) (Uz n)
def Mf (n:Nat) {R:Type} (s prefix0:BA) (k:Bool→Option R):Option R:=(Wc n s prefix0).bind fun v=>k v
def Ob (n:Nat) (s prefix0:BA):Option Bool:=Mf n s prefix0 some
theorem MV (n:Nat) {S:Type}:∀ s prefix0 (φ:_→Option S),(Ob n s prefix0).bind φ=Mf n s prefix0 φ:=by
  intros;unfold Ob Mf;first | (simp only [la,fa,iB,bB,oL,oX,nB,Option.bind_some]) | rfl
def Av (n:Nat):Hint Out:={ live:=fun c=>[],run:=fun c=>none,xm:=fun c q=>none }
theorem LM (n:Nat):ra tys (ja Out (bp n)) (Av n) n (ia Tryz.f140) 0:=na (fun _=>rfl) _ _ (by kernel_rfl)
theorem AP (n:Nat):Enters Tryz.prog 140:=enters_of (c:=ia Tryz.f140) Tryz.func140 (by kernel_rfl) (by kernel_rfl)
def fB (n:Nat):Entry:=⟨140,pcT (.pair .str (.pair .str .unit)) (.one .bool) (fun xs=>Ob n xs.1 xs.2.1),none,none⟩
theorem pT (n:Nat):EntryOk Tryz.prog gl (fB n):=Aa (AP n) fun xs y h=>oa tys_ok (Pq n) mixed (hint:=Av n) (n:=n) Tryz.func140 (Ba (LM n)) (ma (φ:=(fun y=>some (Out.ret (rb (.one .bool) y)))) (by kernel_rfl) (MV n xs.1 xs.2.1 _) h)
def Wp (n:Nat):List Entry:=fB n::bp n
theorem Vr (n:Nat):AllOk Tryz.prog gl (Wp n):=.cons (pT n) (Pq n)
def Fk (n:Nat) {R:Type} (s:BA) (k:Bool→Option R):Option R:=(Ob n s (⟨#[91]⟩:BA)).bind fun v=>k v
def Fe (n:Nat) (s:BA):Option Bool:=Fk n s some
theorem kU (n:Nat) {S:Type}:∀ s (φ:_→Option S),(Fe n s).bind φ=Fk n s φ:=by
  intros;unfold Fe Fk;first | (simp only [la,fa,iB,bB,oL,oX,nB,Option.bind_some]) | rfl
def ju (n:Nat):Hint Out:={ live:=fun c=>[],run:=fun c=>none,xm:=fun c q=>none }
theorem sL (n:Nat):ra tys (ja Out (Wp n)) (ju n) n (ia Tryz.f118) 0:=na (fun _=>rfl) _ _ (by kernel_rfl)
theorem EO (n:Nat):Enters Tryz.prog 118:=enters_of (c:=ia Tryz.f118) Tryz.func118 (by kernel_rfl) (by kernel_rfl)
def Zy (n:Nat):Entry:=⟨118,pcT (.pair .str .unit) (.one .bool) (fun xs=>Fe n xs.1),none,none⟩
theorem az (n:Nat):EntryOk Tryz.prog gl (Zy n):=Aa (EO n) fun xs y h=>oa tys_ok (Vr n) mixed (hint:=ju n) (n:=n) Tryz.func118 (Ba (sL n)) (ma (φ:=(fun y=>some (Out.ret (rb (.one .bool) y)))) (by kernel_rfl) (kU n xs.1 _) h)
def Eo (n:Nat):List Entry:=Zy n::Wp n
theorem zq (n:Nat):AllOk Tryz.prog gl (Eo n):=.cons (az n) (Vr n)
def Mk (n:Nat) {R:Type} (s suffix:BA) (k:Bool→Option R):Option R:=if (decide ((s.size:Int)≥(suffix.size:Int)))=true then if 0≤(IntKind.wrap .i64 ((s.size:Int) - (suffix.size:Int)))∧(IntKind.wrap .i64 ((s.size:Int) - (suffix.size:Int)))≤(s.size:Int) then k ((s.extract (Int.toNat (IntKind.wrap .i64 ((s.size:Int) - (suffix.size:Int)))) (Int.toNat (s.size:Int))).toList==suffix.toList) else none else k false
def Gl (n:Nat) (s suffix:BA):Option Bool:=Mk n s suffix some
theorem VU (n:Nat) {S:Type}:∀ s suffix (φ:_→Option S),(Gl n s suffix).bind φ=Mk n s suffix φ:=by
  intros;unfold Gl Mk;first | (simp only [la,fa,iB,bB,oL,oX,nB,Option.bind_some]) | rfl
def Bu (n:Nat):Hint Out:={ live:=fun c=>[],run:=fun c=>none,xm:=fun c q=>none }
theorem QL (n:Nat):ra tys (ja Out (Eo n)) (Bu n) n (ia Tryz.f141) 0:=na (fun _=>rfl) _ _ (by kernel_rfl)
theorem TO (n:Nat):Enters Tryz.prog 141:=enters_of (c:=ia Tryz.f141) Tryz.func141 (by kernel_rfl) (by kernel_rfl)
def Yz (n:Nat):Entry:=⟨141,pcT (.pair .str (.pair .str .unit)) (.one .bool) (fun xs=>Gl n xs.1 xs.2.1),none,none⟩
theorem KR (n:Nat):EntryOk Tryz.prog gl (Yz n):=Aa (TO n) fun xs y h=>oa tys_ok (zq n) mixed (hint:=Bu n) (n:=n) Tryz.func141 (Ba (QL n)) (ma (φ:=(fun y=>some (Out.ret (rb (.one .bool) y)))) (by kernel_rfl) (VU n xs.1 xs.2.1 _) h)
def dp (n:Nat):List Entry:=Yz n::Eo n
theorem Qq (n:Nat):AllOk Tryz.prog gl (dp n):=.cons (KR n) (zq n)
def vl (n:Nat) {R:Type} (s suffix:BA) (k:Bool→Option R):Option R:=(Gl n s suffix).bind fun v=>k v
def Le (n:Nat) (s suffix:BA):Option Bool:=vl n s suffix some
theorem NV (n:Nat) {S:Type}:∀ s suffix (φ:_→Option S),(Le n s suffix).bind φ=vl n s suffix φ:=by
  intros;unfold Le vl;first | (simp only [la,fa,iB,bB,oL,oX,nB,Option.bind_some]) | rfl
def Bv (n:Nat):Hint Out:={ live:=fun c=>[],run:=fun c=>none,xm:=fun c q=>none }
theorem MM (n:Nat):ra tys (ja Out (dp n)) (Bv n) n (ia Tryz.f119) 0:=na (fun _=>rfl) _ _ (by kernel_rfl)
theorem BP (n:Nat):Enters Tryz.prog 119:=enters_of (c:=ia Tryz.f119) Tryz.func119 (by kernel_rfl) (by kernel_rfl)
def gB (n:Nat):Entry:=⟨119,pcT (.pair .str (.pair .str .unit)) (.one .bool) (fun xs=>Le n xs.1 xs.2.1),none,none⟩
theorem kB (n:Nat):EntryOk Tryz.prog gl (gB n):=Aa (BP n) fun xs y h=>oa tys_ok (Qq n) mixed (hint:=Bv n) (n:=n) Tryz.func119 (Ba (MM n)) (ma (φ:=(fun y=>some (Out.ret (rb (.one .bool) y)))) (by kernel_rfl) (NV n xs.1 xs.2.1 _) h)
def jB (n:Nat):List Entry:=gB n::dp n
theorem EK (n:Nat):AllOk Tryz.prog gl (jB n):=.cons (kB n) (Qq n)
theorem NL:Tryz.prog.funcs[199]?=some Tryz.f199:=by kernel_rfl
theorem OL:EntryOk Tryz.prog gl ⟨199,Ee,some (.flat ubb),none⟩:=x7 NL (by kernel_rfl) (by kernel_rfl) (by kernel_rfl) (by kernel_rfl)
def xu (n:Nat):List Entry:=⟨199,Ee,some (.flat ubb),none⟩::jB n
theorem eD (n:Nat):AllOk Tryz.prog gl (xu n):=.cons OL (EK n)
theorem Vz:Tryz.prog.funcs[181]?=some Tryz.f181:=by kernel_rfl
theorem Wz:EntryOk Tryz.prog gl ⟨181,Ee,some (.flat XC),none⟩:=PR Vz (by kernel_rfl) (by kernel_rfl) (by kernel_rfl) (by kernel_rfl)
def jg (n:Nat):List Entry:=⟨181,Ee,some (.flat XC),none⟩::xu n
theorem vi (n:Nat):AllOk Tryz.prog gl (jg n):=.cons Wz (eD n)
def Gh (n:Nat) {R:Type} (s:BA) (c:Int) (k:Int→Option R):Option R:=k (Lib.indexByte s.data.toList (Nat.toUInt8 (Int.toNat c)))
def mg (n:Nat) (s:BA) (c:Int):Option Int:=Gh n s c some
theorem WU (n:Nat) {S:Type}:∀ s c (φ:_→Option S),(mg n s c).bind φ=Gh n s c φ:=by
  intros;unfold mg Gh;first | (simp only [la,fa,iB,bB,oL,oX,nB,Option.bind_some]) | rfl
def Cu (n:Nat):Hint Out:={ live:=fun c=>[],run:=fun c=>none,xm:=fun c q=>none }
theorem RL (n:Nat):ra tys (ja Out (jg n)) (Cu n) n (ia Tryz.f159) 0:=na (fun _=>rfl) _ _ (by kernel_rfl)
theorem UO (n:Nat):Enters Tryz.prog 159:=enters_of (c:=ia Tryz.f159) Tryz.func159 (by kernel_rfl) (by kernel_rfl)
def Zz (n:Nat):Entry:=⟨159,pcT (.pair .str (.pair (.int .u8) .unit)) (.one (.int .i64)) (fun xs=>mg n xs.1 xs.2.1),none,none⟩
theorem MR (n:Nat):EntryOk Tryz.prog gl (Zz n):=Aa (UO n) fun xs y h=>oa tys_ok (vi n) mixed (hint:=Cu n) (n:=n) Tryz.func159 (Ba (RL n)) (ma (φ:=(fun y=>some (Out.ret (rb (.one (.int .i64)) y)))) (by kernel_rfl) (WU n xs.1 xs.2.1 _) h)
def ep (n:Nat):List Entry:=Zz n::jg n
theorem Rq (n:Nat):AllOk Tryz.prog gl (ep n):=.cons (MR n) (vi n)
def kC (n:Nat) {R:Type} (s substr:BA) (k:Int→Option R):Option R:=if ((substr.size:Int)==(0:Int))=false then if (substr.toList==s.toList)=true then k (0:Int) else if ((substr.size:Int)==(1:Int))=true then if 0≤(0:Int)∧(0:Int)<(substr.size:Int) then (mg n s (bt substr (0:Int))).bind fun v=>k v else none else if (decide ((substr.size:Int)≥(s.size:Int)))=true then k (-1:Int) else none else k (0:Int)
def EI (n:Nat) (s substr:BA):Option Int:=kC n s substr some
theorem kcb (n:Nat) {S:Type}:∀ s substr (φ:_→Option S),(EI n s substr).bind φ=kC n s substr φ:=by
  intros;unfold EI kC;first | (simp only [la,fa,iB,bB,oL,oX,nB,Option.bind_some]) | rfl
def FI (n:Nat):Hint Out:={ live:=fun c=>[],run:=fun c=>none,xm:=fun c q=>none }
theorem ZX (n:Nat):ra tys (ja Out (ep n)) (FI n) n (ia Tryz.f139) 0:=⟨aa,⟨aa,⟨⟨aa,⟨⟨aa,aa⟩,⟨aa,⟨⟨aa,aa⟩,⟨aa,⟨⟨aa,aa⟩,⟨aa,⟨⟨aa,aa⟩,aa⟩⟩⟩⟩⟩⟩⟩⟩,⟨aa,⟨aa,⟨aa,⟨aa,⟨aa,⟨⟨Pcb (by kernel_rfl),⟨⟨aa,⟨aa,aa⟩⟩,⟨⟨aa,⟨⟨aa,⟨⟨aa,⟨⟨aa,aa⟩,aa⟩⟩,aa⟩⟩,aa⟩⟩,⟨⟨aa,⟨⟨aa,aa⟩,aa⟩⟩,⟨aa,⟨aa,⟨aa,⟨⟨aa,⟨⟨aa,⟨⟨aa,aa⟩,aa⟩⟩,⟨aa,aa⟩⟩⟩,⟨aa,⟨⟨aa,⟨⟨aa,⟨⟨aa,aa⟩,aa⟩⟩,⟨aa,aa⟩⟩⟩,aa⟩⟩⟩⟩⟩⟩⟩⟩⟩⟩,⟨aa,aa⟩⟩⟩⟩⟩⟩⟩⟩⟩⟩
theorem N2 (n:Nat):Enters Tryz.prog 139:=enters_of (c:=ia Tryz.f139) Tryz.func139 (by kernel_rfl) (by kernel_rfl)
def NR (n:Nat):Entry:=⟨139,pcT (.pair .str (.pair .str .unit)) (.one (.int .i64)) (fun xs=>EI n xs.1 xs.2.1),none,none⟩
theorem H7 (n:Nat):EntryOk Tryz.prog gl (NR n):=Aa (N2 n) fun xs y h=>oa tys_ok (Rq n) mixed (hint:=FI n) (n:=n) Tryz.func139 (Ba (ZX n)) (ma (φ:=(fun y=>some (Out.ret (rb (.one (.int .i64)) y)))) (by kernel_rfl) (kcb n xs.1 xs.2.1 _) h)
def wF (n:Nat):List Entry:=NR n::ep n
theorem lE (n:Nat):AllOk Tryz.prog gl (wF n):=.cons (H7 n) (Rq n)
def RC (n:Nat) {R:Type} (s substr:BA) (k:Int→Option R):Option R:=(EI n s substr).bind fun v=>k v
def wl (n:Nat) (s substr:BA):Option Int:=RC n s substr some
theorem Xcb (n:Nat) {S:Type}:∀ s substr (φ:_→Option S),(wl n s substr).bind φ=RC n s substr φ:=by
  intros;unfold wl RC;first | (simp only [la,fa,iB,bB,oL,oX,nB,Option.bind_some]) | rfl
def FK (n:Nat):Hint Out:={ live:=fun c=>[],run:=fun c=>none,xm:=fun c q=>none }
theorem lZ (n:Nat):ra tys (ja Out (wF n)) (FK n) n (ia Tryz.f117) 0:=na (fun _=>rfl) _ _ (by kernel_rfl)
theorem o5 (n:Nat):Enters Tryz.prog 117:=enters_of (c:=ia Tryz.f117) Tryz.func117 (by kernel_rfl) (by kernel_rfl)
def rT (n:Nat):Entry:=⟨117,pcT (.pair .str (.pair .str .unit)) (.one (.int .i64)) (fun xs=>wl n xs.1 xs.2.1),none,none⟩
theorem sT (n:Nat):EntryOk Tryz.prog gl (rT n):=Aa (o5 n) fun xs y h=>oa tys_ok (lE n) mixed (hint:=FK n) (n:=n) Tryz.func117 (Ba (lZ n)) (ma (φ:=(fun y=>some (Out.ret (rb (.one (.int .i64)) y)))) (by kernel_rfl) (Xcb n xs.1 xs.2.1 _) h)
def Yp (n:Nat):List Entry:=rT n::wF n
theorem VE (n:Nat):AllOk Tryz.prog gl (Yp n):=.cons (sT n) (lE n)
def jx (n:Nat) {R:Type} (s1 substr1:BA) (n0:Int) (kn:BA→BA→Int→Option R) (ko:Unit→Option R) (kr:(Int)→Option R) (kp:Int→Option R):Option R:=(wl n s1 substr1).bind fun v=>if (v==(-1:Int))=true then kr n0 else if 0≤(IntKind.wrap .i64 (v+(substr1.size:Int)))∧(IntKind.wrap .i64 (v+(substr1.size:Int)))≤(s1.size:Int) then kn (s1.extract (Int.toNat (IntKind.wrap .i64 (v+(substr1.size:Int)))) (Int.toNat (s1.size:Int))) substr1 (IntKind.wrap .i64 (n0+(1:Int))) else none
def Cg (n:Nat):Nat→BA→BA→Int→Option (Lx Unit (Int))
 | 0,_,_,_=>none
 | m+1,s1,substr1,n0=>jx n s1 substr1 n0 (Cg n m) (fun a=>some (.out a)) (fun a=>some (.ret a)) (fun p=>some (.pan p))
theorem jZ (n m:Nat) {S:Type}:∀ s1 substr1 n0 (φ:_→Option S),(Cg n (m+1) s1 substr1 n0).bind φ=jx n s1 substr1 n0 (fun s1 substr1 n0=>(Cg n m s1 substr1 n0).bind φ) (fun a=>φ (.out a)) (fun a=>φ (.ret a)) (fun p=>φ (.pan p)):=by
  intros;first | (simp only [Cg,jx,la,fa,iB,bB,oL,oX,nB,Option.bind_some]) | rfl
def Tt:List Sl:=.dat .str::.dat .str::.top::.top::.top::.dat (.int .i64)::tp 28 []
def Rt:List RS:=[]
def DK:List Sl:=tp 4 (.dat (.int .i64)::tp 29 [])
def CK:List RS:=[]
def zf (K:XE→List AV→pa→Option Out):Lx Unit (Int)→Option Out:=fun x=>onL x (fun _=>none) (fun a=>vc DK CK (a,()) () (K .ret)) (fun _=>none)
def QC (n:Nat) {R:Type} (s substr:BA) (k:Int→Option R):Option R:=if ((substr.size:Int)==(0:Int))=true then none else if ((substr.size:Int)==(1:Int))=true then if 0≤(0:Int)∧(0:Int)<(substr.size:Int) then k ((Lib.countByte s.data.toList (Nat.toUInt8 (Int.toNat (bt substr (0:Int)))):Nat):Int) else none else (Cg n n s substr (0:Int)).bind fun x_1=>onL x_1 (fun _=>none) (fun a_2=>k a_2) (fun _=>none)
def PC (n:Nat) (s substr:BA):Option Int:=QC n s substr some
theorem Wcb (n:Nat) {S:Type}:∀ s substr (φ:_→Option S),(PC n s substr).bind φ=QC n s substr φ:=by
  intros;unfold PC QC;first | (simp only [la,fa,iB,bB,oL,oX,nB,Option.bind_some]) | rfl
def io (n:Nat):Hint Out:={ live:=fun c=>(cond (Nat.beq c 0) (lv [0,1,5]) []),run:=fun c=>(cond (Nat.beq c 0) (some (Ng Tt Rt fun σ ρ K=>(Cg n n σ.1 σ.2.1 σ.2.2.1).bind (zf K))) none),xm:=fun c q=>(cond (Nat.beq c 1&&q.isNone) (some [(4,none)]) none) }
def go (n:Nat) (K:XE→List AV→pa→Option Out) (m:Nat) (s1:BA) (substr1:BA) (n0:Int):Option Out:=Oc tys (ja Out (Yp n)) (io n) n (ya [1,1,1,1,0,0] (ia Tryz.f184)) 0 Tt Rt K m (s1,(substr1,(n0,()))) ()
theorem BK (n:Nat) (K:XE→List AV→pa→Option Out):∀ (m:Nat) s1 substr1 n0,go n K m s1 substr1 n0=(Cg n m s1 substr1 n0).bind (zf K)
  | 0,_,_,_=>by kernel_rfl
  | m+1,s1,substr1,n0=>by
    have h1:go n K (m+1) s1 substr1 n0=jx n s1 substr1 n0 (go n K m) (fun a=>zf K (.out a)) (fun a=>zf K (.ret a)) (fun p=>zf K (.pan p)):=by kernel_rfl
    have h2:go n K m=fun s1 substr1 n0=>(Cg n m s1 substr1 n0).bind (zf K):=by
      repeat (refine funext fun _=>?_)
      exact BK n K m _ _ _
    rw [h1,h2];exact (jZ n m _ _ _ (zf K)).symm
theorem LV (n:Nat):yc tys (ja Out (Yp n)) (io n) n (ya [1,1,1,1,0,0] (ia Tryz.f184)) 0:=Fa (sp:=Tt) (rp:=Rt) (by kernel_rfl) fun K σ ρ=>BK n K n σ.1 σ.2.1 σ.2.2.1
theorem kZ (n:Nat):ra tys (ja Out (Yp n)) (io n) n (ia Tryz.f184) 0:=⟨aa,⟨⟨aa,⟨⟨aa,aa⟩,aa⟩⟩,⟨⟨aa,⟨⟨aa,aa⟩,aa⟩⟩,⟨aa,⟨LV n,⟨aa,⟨⟨aa,⟨⟨aa,aa⟩,aa⟩⟩,⟨aa,aa⟩⟩⟩⟩⟩⟩⟩⟩
theorem n5 (n:Nat):Enters Tryz.prog 184:=enters_of (c:=ia Tryz.f184) Tryz.func184 (by kernel_rfl) (by kernel_rfl)
def oT (n:Nat):Entry:=⟨184,pcT (.pair .str (.pair .str .unit)) (.one (.int .i64)) (fun xs=>PC n xs.1 xs.2.1),none,none⟩
theorem Y8 (n:Nat):EntryOk Tryz.prog gl (oT n):=Aa (n5 n) fun xs y h=>oa tys_ok (VE n) mixed (hint:=io n) (n:=n) Tryz.func184 (Ba (kZ n)) (ma (φ:=(fun y=>some (Out.ret (rb (.one (.int .i64)) y)))) (by kernel_rfl) (Wcb n xs.1 xs.2.1 _) h)
def Vp (n:Nat):List Entry:=oT n::Yp n
theorem UE (n:Nat):AllOk Tryz.prog gl (Vp n):=.cons (Y8 n) (VE n)
end
end Go.Proofs.YtdohilmgblkppaaGreatDoor.AM
