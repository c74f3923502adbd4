/- Typed functions that tell what the Go functions of this seat answer, and proofs of it, by program (gen.py). -/
import Derived.Test.YtdohilmgblkppaaGreatDoorST
import Derived.Test.YtdohilmgblkppaaGreatDoorSB
import Derived.Test.YtdohilmgblkppaaGreatDoorSL
import Derived.Test.YtdohilmgblkppaaGreatDoorSM
import Derived.Test.YtdohilmgblkppaaGreatDoorSN
set_option linter.all false
set_option linter.unusedVariables false
set_option linter.unusedSimpArgs false
set_option maxRecDepth 1000000
set_option maxHeartbeats 0
namespace Go.Proofs.YtdohilmgblkppaaGreatDoor.AM
open Go Go.RowKit
noncomputable section
abbrev K0:CTy:=(.pair (.int .i64) (.pair (.int .i64) (.pair (.int .i64) (.pair (.pair .str (.pair .bool .unit)) (.pair (.int .i64) (.pair .str (.pair .bool (.pair (.pair .str (.pair .str .unit)) (.pair (.sl (.pair .str (.pair .str .unit))) (.pair (.sl .str) (.pair (.int .i64) (.pair .bool .unit))))))))))))
abbrev K1:CTy:=(.pair K0 .unit)
abbrev K2:CTy:=(.pair (.int .i64) (.pair .str (.pair .bool (.pair (.pair .str (.pair .str .unit)) (.pair (.int .i64) .unit)))))
abbrev K3:CTy:=(.pair (.int .i64) (.pair (.int .i64) (.pair (.int .i64) (.pair (.pair .str (.pair .bool .unit)) (.pair K2 .unit)))))
abbrev K4:CTy:=(.pair K0 (.pair (.sl K3) .unit))
abbrev K5:CTy:=(.pair K4 .unit)
abbrev K6:CTy:=(.pair (.sl (.pair .str (.pair .str .unit))) (.pair (.pair .str (.pair .str .unit)) .unit))
abbrev K7:CTy:=(.pair .str (.pair .str (.pair (.int .i64) (.pair (.int .i64) .unit))))
abbrev K8:CTy:=(.pair (.pair .str (.pair .str .unit)) (.pair .bool (.pair (.int .i64) .unit)))
abbrev K9:CTy:=(.pair (.pair .str (.pair .str .unit)) (.pair .bool (.pair .str .unit)))
abbrev K10:CTy:=(.pair K2 (.pair .bool .unit))
abbrev K11:CTy:=(.pair K2 .unit)
abbrev K12:CTy:=(.pair K2 (.pair (.int .i64) .unit))
abbrev K13:CTy:=(.pair K0 (.pair K2 .unit))
abbrev K14:CTy:=(.pair K0 (.pair (.int .i64) (.pair .str .unit)))
abbrev K15:CTy:=(.pair K0 (.pair (.int .i64) (.pair .str (.pair (.int .i64) .unit))))
abbrev K16:CTy:=(.pair K0 (.pair (.pair .str (.pair .bool .unit)) .unit))
abbrev K17:CTy:=(.pair (.sl (.pair .str (.pair .str .unit))) (.pair (.sl (.pair .str (.pair .str .unit))) .unit))
abbrev K18:CTy:=(.pair K0 (.pair K0 .unit))
abbrev K19:CTy:=(.pair K0 (.pair (.int .i64) .unit))
abbrev K20:CTy:=(.pair (.pair .str (.pair .str .unit)) (.pair .bool (.pair .bool .unit)))
abbrev K21:CTy:=(.pair K0 (.pair .bool .unit))
abbrev K22:CTy:=(.pair K0 (.pair K3 .unit))
abbrev K23:CTy:=(.pair K4 (.pair (.int .i64) .unit))
theorem aa:True:=trivial
abbrev U0:Type:=(BA×(BA×Unit))
abbrev T1:Type:=(Int×(BA×(Bool×(U0×(Int×Unit)))))
abbrev U1:Type:=(Int×Int×Int×BA×Bool×Int×BA×Bool×BA×BA×(Sq U0)×(Sq BA)×Int×Bool)
abbrev U2:Type:=(Int×Int×Int×BA×Bool×Int×BA×Bool×BA×BA×Int×Bool×(Sq U0)×(Sq BA)×Unit)
abbrev U3:Type:=(Int×Int×Int×BA×Bool×Int×BA×Bool×BA×BA×Int×Bool×Int×(Sq U0)×(Sq BA)×Unit)
abbrev U5:Type:=(Int×Int×Int×Int×Int×BA×Bool×Int×BA×Bool×BA×BA×(Sq U0)×(Sq BA)×Int×Bool)
abbrev U6:Type:=(Int×Int×Int×Int×BA×Bool×Int×BA×Bool×BA×BA×(Sq U0)×(Sq BA)×Int×Bool)
abbrev U7:Type:=(Int×BA×BA×Int×BA×Bool×BA×BA×Int×Int×BA×Bool×BA×BA×Int)
abbrev U8:Type:=(Int×Int×BA×Bool×BA×BA×Int)
abbrev U9:Type:=(BA×(Bool×Unit))
abbrev T0:Type:=(Int×(Int×(Int×(U9×(Int×(BA×(Bool×(U0×((Sq U0)×((Sq BA)×(Int×(Bool×Unit))))))))))))
abbrev T2:Type:=(Int×(Int×(Int×(U9×(T1×Unit)))))
abbrev U4:Type:=(T0×((Sq T2)×Unit))
abbrev U10:Type:=(Int×Int×Int×BA×Bool×Int×BA×Bool×BA×BA×Int×Bool×Int×BA×Int×(Sq U0)×(Sq BA)×Unit)
abbrev U11:Type:=(Int×Int×Int×Int×BA×Bool×Int×BA×Bool×BA×BA×(Sq U0)×(Sq BA)×Int×Bool×(Sq T2))
abbrev U12:Type:=(BA×Int×Int×BA×Bool×BA×BA×Int)
abbrev U13:Type:=(Int×Int×Int×BA×Bool×Int×BA×Bool×BA×BA×Int×Bool×(Sq U0)×(Sq BA))
abbrev U14:Type:=(T0×Int×BA×Unit)
abbrev U15:Type:=(Int×BA×Int×BA×Bool×BA×BA×Int×Int×BA×Bool×BA×BA×Int)
abbrev U16:Type:=(BA×Int×Int×BA×Bool×BA×BA×Int×Int×BA×Bool×BA×BA×Int)
abbrev U17:Type:=(Bool×Int×BA×Bool×BA×BA×Int×Int×BA×Bool×BA×BA×Int)
abbrev U18:Type:=(Int×BA×Bool×BA×BA×Int×Int×BA×Bool×BA×BA×Int)
abbrev U19:Type:=((Sq Int)×Unit)
abbrev U20:Type:=(Int×((Sq BA)×Unit))
abbrev U21:Type:=(Int×(Sq Int)×Unit)
abbrev U22:Type:=(BA×Int×Int×Int×BA×Bool×BA×BA×Int)
def Xnb (n:Nat):List Entry:=[]
theorem Dhb (n:Nat):AllOk Tryz.prog gl (Xnb n):=.nil
def Ch (n:Nat) {R:Type} (l1:(Sq BA)) (n0 i:Int) (kn:(Sq BA)→Int→Int→Option R) (ko:(Int)→Option R) (kr:Unit→Option R) (kp:Int→Option R):Option R:=if (decide (i<(l1.n:Int)))=true then if (decide (n0<(1048576:Int)))=true then if 0≤i∧i<(l1.n:Int) then kn l1 (IntKind.wrap .i64 (n0+((l1.at' (Int.toNat i)).size:Int))) (IntKind.wrap .i64 (i+(1:Int))) else none else ko n0 else ko n0
def Nb (n:Nat):Nat→(Sq BA)→Int→Int→Option (Lx (Int) Unit)
 | 0,_,_,_=>none
 | m+1,l1,n0,i=>Ch n l1 n0 i (Nb n m) (fun a=>some (.out a)) (fun a=>some (.ret a)) (fun p=>some (.pan p))
theorem PM (n m:Nat) {S:Type}:∀ l1 n0 i (φ:_→Option S),(Nb n (m+1) l1 n0 i).bind φ=Ch n l1 n0 i (fun l1 n0 i=>(Nb n m l1 n0 i).bind φ) (fun a=>φ (.out a)) (fun a=>φ (.ret a)) (fun p=>φ (.pan p)):=by
  intros;first | (simp only [Nb,Ch,ja,fa,iB,bB,oL,oX,nB,Option.bind_some]) | rfl
def Xh:List Sl:=.dat (.sl .str)::.top::.top::.dat (.int .i64)::.dat (.int .i64)::tp 20 []
def Wh:List RS:=[]
def ry:List Sl:=.top::.top::.top::.dat (.int .i64)::tp 21 []
def qy:List RS:=[]
def Hb (K:XE→List AV→oa→Option Out):Lx (Int) Unit→Option Out:=fun x=>onL x (fun a=>yb ry qy (a,()) () (K (.exit 0))) (fun _=>none) (fun _=>none)
def yq (n:Nat) {R:Type} (l:(Sq BA)) (k:Int→Option R):Option R:=(Nb n n l (l.n:Int) (0:Int)).bind fun x_1=>onL x_1 (fun a_2=>k a_2) (fun _=>none) (fun _=>none)
def Jo (n:Nat) (l:(Sq BA)):Option Int:=yq n l some
theorem QW (n:Nat) {S:Type}:∀ l (φ:_→Option S),(Jo n l).bind φ=yq n l φ:=by
  intros;unfold Jo yq;first | (simp only [ja,fa,iB,bB,oL,oX,nB,Option.bind_some]) | rfl
def Df (n:Nat):Hint Out:={ live:=fun c=>(cond (Nat.beq c 0) [(0,some (.sl .str)),(3,none),(4,none)] []),run:=fun c=>(cond (Nat.beq c 0) (some (ef Xh Wh fun σ ρ K=>(Nb n n σ.1 σ.2.1 σ.2.2.1).bind (Hb K))) none),xm:=fun c q=>(cond (Nat.beq c 0&&Nat.beq (q.getD 1000000) 0&&q.isSome) (some [(3,none)]) none) }
def Cf (n:Nat) (K:XE→List AV→oa→Option Out) (m:Nat) (l1:(Sq BA)) (n0:Int) (i:Int):Option Out:=Kb tys (ia Out (Xnb n)) (Df n) n (ra [1,1,0,1,0,0] (ba Tryz.f57)) 0 Xh Wh K m (l1,(n0,(i,()))) ()
theorem dt (n:Nat) (K:XE→List AV→oa→Option Out):∀ (m:Nat) l1 n0 i,Cf n K m l1 n0 i=(Nb n m l1 n0 i).bind (Hb K)
  | 0,_,_,_=>by kernel_rfl
  | m+1,l1,n0,i=>by
    have h1:Cf n K (m+1) l1 n0 i=Ch n l1 n0 i (Cf n K m) (fun a=>Hb K (.out a)) (fun a=>Hb K (.ret a)) (fun p=>Hb K (.pan p)):=by kernel_rfl
    have h2:Cf n K m=fun l1 n0 i=>(Nb n m l1 n0 i).bind (Hb K):=by
      repeat (refine funext fun _=>?_)
      exact dt n K m _ _ _
    rw [h1,h2];exact (PM n m _ _ _ (Hb K)).symm
theorem aJ (n:Nat):ub tys (ia Out (Xnb n)) (Df n) n (ra [1,1,0,1,0,0] (ba Tryz.f57)) 0:=Aa (sp:=Xh) (rp:=Wh) (by kernel_rfl) fun K σ ρ=>dt n K n σ.1 σ.2.1 σ.2.2.1
theorem QM (n:Nat):qa tys (ia Out (Xnb n)) (Df n) n (ba Tryz.f57) 0:=⟨aa,⟨aa,⟨⟨aa,⟨aJ n,⟨⟨aa,⟨aa,aa⟩⟩,⟨aa,aa⟩⟩⟩⟩,⟨aa,aa⟩⟩⟩⟩
theorem fP (n:Nat):Enters Tryz.prog 57:=enters_of (c:=ba Tryz.f57) Tryz.func57 (by kernel_rfl) (by kernel_rfl)
def gz (n:Nat):Entry:=⟨57,pcT (.pair (.sl .str) .unit) (.one (.int .i64)) (fun xs=>Jo n xs.1),none,none⟩
theorem qS (n:Nat):EntryOk Tryz.prog gl (gz n):=wa (fP n) fun xs y h=>ma tys_ok (Dhb n) mixed (hint:=Df n) (n:=n) Tryz.func57 (ya (QM n)) (la (φ:=(fun y=>some (Out.ret (Ya (.one (.int .i64)) y)))) (by kernel_rfl) (QW n xs.1 _) h)
def mf (n:Nat):List Entry:=gz n::Xnb n
theorem zq (n:Nat):AllOk Tryz.prog gl (mf n):=.cons (qS n) (Dhb n)
def zf (n:Nat) {R:Type} (n0 i c1 c2 c3:Int) (c4:BA) (c5:Bool) (c6:Int) (c7:BA) (c8:Bool) (c9 c10:BA) (c11:(Sq U0)) (c12:(Sq BA)) (c13:Int) (c14:Bool) (kn:Int→Int→Int→Int→Int→BA→Bool→Int→BA→Bool→BA→BA→(Sq U0)→(Sq BA)→Int→Bool→Option R) (ko:(Int)→Option R) (kr:Unit→Option R) (kp:Int→Option R):Option R:=if (decide (i<(c11.n:Int)))=true then if (decide (n0<(1048576:Int)))=true then if 0≤i∧i<(c11.n:Int) then if 0≤i∧i<(c11.n:Int) then kn (IntKind.wrap .i64 ((IntKind.wrap .i64 ((IntKind.wrap .i64 (n0+(1:Int)))+((((c11.at' (Int.toNat i))).1).size:Int)))+(((((c11.at' (Int.toNat i))).2).1).size:Int))) (IntKind.wrap .i64 (i+(1:Int))) c1 c2 c3 c4 c5 c6 c7 c8 c9 c10 c11 c12 c13 c14 else none else none else ko n0 else ko n0
def db (n:Nat):Nat→Int→Int→Int→Int→Int→BA→Bool→Int→BA→Bool→BA→BA→(Sq U0)→(Sq BA)→Int→Bool→Option (Lx (Int) Unit)
 | 0,_,_,_,_,_,_,_,_,_,_,_,_,_,_,_,_=>none
 | m+1,n0,i,c1,c2,c3,c4,c5,c6,c7,c8,c9,c10,c11,c12,c13,c14=>zf n n0 i c1 c2 c3 c4 c5 c6 c7 c8 c9 c10 c11 c12 c13 c14 (db n m) (fun a=>some (.out a)) (fun a=>some (.ret a)) (fun p=>some (.pan p))
theorem aF (n m:Nat) {S:Type}:∀ n0 i c1 c2 c3 c4 c5 c6 c7 c8 c9 c10 c11 c12 c13 c14 (φ:_→Option S),(db n (m+1) n0 i c1 c2 c3 c4 c5 c6 c7 c8 c9 c10 c11 c12 c13 c14).bind φ=zf n n0 i c1 c2 c3 c4 c5 c6 c7 c8 c9 c10 c11 c12 c13 c14 (fun n0 i c1 c2 c3 c4 c5 c6 c7 c8 c9 c10 c11 c12 c13 c14=>(db n m n0 i c1 c2 c3 c4 c5 c6 c7 c8 c9 c10 c11 c12 c13 c14).bind φ) (fun a=>φ (.out a)) (fun a=>φ (.ret a)) (fun p=>φ (.pan p)):=by
  intros;first | (simp only [db,zf,ja,fa,iB,bB,oL,oX,nB,Option.bind_some]) | rfl
def qg:List Sl:=.top::.ptr 0 0 0::.top::.dat (.int .i64)::.dat (.int .i64)::tp 52 []
def pg:List RS:=[.box 29 14 true [.dat (.int .i64),.dat (.int .i64),.dat (.int .i64),.dat .str,.dat .bool,.dat (.int .i64),.dat .str,.dat .bool,.dat .str,.dat .str,.dat (.sl (.pair .str (.pair .str .unit))),.dat (.sl .str),.dat (.int .i64),.dat .bool]]
def Lu:List Sl:=.top::.top::.top::.dat (.int .i64)::tp 53 []
def Ku:List RS:=[]
def ab (K:XE→List AV→oa→Option Out):Lx (Int) Unit→Option Out:=fun x=>onL x (fun a=>yb Lu Ku (a,()) () (K (.exit 0))) (fun _=>none) (fun _=>none)
def Hk (n:Nat) {R:Type} (c:T0) (k:Int→Option R):Option R:=(Jo n c.2.2.2.2.2.2.2.2.2.1).bind fun v=>(db n n (IntKind.wrap .i64 ((IntKind.wrap .i64 ((IntKind.wrap .i64 ((IntKind.wrap .i64 ((c.2.2.2.2.2.1.size:Int)+(c.2.2.2.1.1.size:Int)))+v))+(c.2.2.2.2.2.2.2.1.1.size:Int)))+(c.2.2.2.2.2.2.2.1.2.1.size:Int))) (0:Int) c.1 c.2.1 c.2.2.1 c.2.2.2.1.1 c.2.2.2.1.2.1 c.2.2.2.2.1 c.2.2.2.2.2.1 c.2.2.2.2.2.2.1 c.2.2.2.2.2.2.2.1.1 c.2.2.2.2.2.2.2.1.2.1 c.2.2.2.2.2.2.2.2.1 c.2.2.2.2.2.2.2.2.2.1 c.2.2.2.2.2.2.2.2.2.2.1 c.2.2.2.2.2.2.2.2.2.2.2.1).bind fun x_1=>onL x_1 (fun a_2=>k a_2) (fun _=>none) (fun _=>none)
def pj (n:Nat) (c:T0):Option Int:=Hk n c some
theorem YO (n:Nat) {S:Type}:∀ c (φ:_→Option S),(pj n c).bind φ=Hk n c φ:=by
  intros;unfold pj Hk;first | (simp only [ja,fa,iB,bB,oL,oX,nB,Option.bind_some]) | rfl
def Yd (n:Nat):Hint Out:={ live:=fun c=>(cond (Nat.beq c 0) (lv [1,3,4]) []),run:=fun c=>(cond (Nat.beq c 0) (some (ef qg pg fun σ ρ K=>(db n n σ.1 σ.2.1 ρ.1.1 ρ.1.2.1 ρ.1.2.2.1 ρ.1.2.2.2.1 ρ.1.2.2.2.2.1 ρ.1.2.2.2.2.2.1 ρ.1.2.2.2.2.2.2.1 ρ.1.2.2.2.2.2.2.2.1 ρ.1.2.2.2.2.2.2.2.2.1 ρ.1.2.2.2.2.2.2.2.2.2.1 ρ.1.2.2.2.2.2.2.2.2.2.2.1 ρ.1.2.2.2.2.2.2.2.2.2.2.2.1 ρ.1.2.2.2.2.2.2.2.2.2.2.2.2.1 ρ.1.2.2.2.2.2.2.2.2.2.2.2.2.2.1).bind (ab K))) none),xm:=fun c q=>(cond (Nat.beq c 0&&Nat.beq (q.getD 1000000) 0&&q.isSome) (some [(3,none)]) none) }
def Xd (n:Nat) (K:XE→List AV→oa→Option Out) (m:Nat) (n0:Int) (i:Int) (c1:Int) (c2:Int) (c3:Int) (c4:BA) (c5:Bool) (c6:Int) (c7:BA) (c8:Bool) (c9:BA) (c10:BA) (c11:(Sq U0)) (c12:(Sq BA)) (c13:Int) (c14:Bool):Option Out:=Kb tys (ia Out (mf n)) (Yd n) n (ra [1,1,0,1,0,0] (ba Tryz.f28)) 0 qg pg K m (n0,(i,())) ((c1,(c2,(c3,(c4,(c5,(c6,(c7,(c8,(c9,(c10,(c11,(c12,(c13,(c14,())))))))))))))),())
theorem an (n:Nat) (K:XE→List AV→oa→Option Out):∀ (m:Nat) n0 i c1 c2 c3 c4 c5 c6 c7 c8 c9 c10 c11 c12 c13 c14,Xd n K m n0 i c1 c2 c3 c4 c5 c6 c7 c8 c9 c10 c11 c12 c13 c14=(db n m n0 i c1 c2 c3 c4 c5 c6 c7 c8 c9 c10 c11 c12 c13 c14).bind (ab K)
  | 0,_,_,_,_,_,_,_,_,_,_,_,_,_,_,_,_=>by kernel_rfl
  | m+1,n0,i,c1,c2,c3,c4,c5,c6,c7,c8,c9,c10,c11,c12,c13,c14=>by
    have h1:Xd n K (m+1) n0 i c1 c2 c3 c4 c5 c6 c7 c8 c9 c10 c11 c12 c13 c14=zf n n0 i c1 c2 c3 c4 c5 c6 c7 c8 c9 c10 c11 c12 c13 c14 (Xd n K m) (fun a=>ab K (.out a)) (fun a=>ab K (.ret a)) (fun p=>ab K (.pan p)):=by kernel_rfl
    have h2:Xd n K m=fun n0 i c1 c2 c3 c4 c5 c6 c7 c8 c9 c10 c11 c12 c13 c14=>(db n m n0 i c1 c2 c3 c4 c5 c6 c7 c8 c9 c10 c11 c12 c13 c14).bind (ab K):=by
      repeat (refine funext fun _=>?_)
      exact an n K m _ _ _ _ _ _ _ _ _ _ _ _ _ _ _ _
    rw [h1,h2];exact (aF n m _ _ _ _ _ _ _ _ _ _ _ _ _ _ _ _ (ab K)).symm
theorem dD (n:Nat):ub tys (ia Out (mf n)) (Yd n) n (ra [1,1,0,1,0,0] (ba Tryz.f28)) 0:=Aa (sp:=qg) (rp:=pg) (by kernel_rfl) fun K σ ρ=>an n K n σ.1 σ.2.1 ρ.1.1 ρ.1.2.1 ρ.1.2.2.1 ρ.1.2.2.2.1 ρ.1.2.2.2.2.1 ρ.1.2.2.2.2.2.1 ρ.1.2.2.2.2.2.2.1 ρ.1.2.2.2.2.2.2.2.1 ρ.1.2.2.2.2.2.2.2.2.1 ρ.1.2.2.2.2.2.2.2.2.2.1 ρ.1.2.2.2.2.2.2.2.2.2.2.1 ρ.1.2.2.2.2.2.2.2.2.2.2.2.1 ρ.1.2.2.2.2.2.2.2.2.2.2.2.2.1 ρ.1.2.2.2.2.2.2.2.2.2.2.2.2.2.1
theorem bF (n:Nat):qa tys (ia Out (mf n)) (Yd n) n (ba Tryz.f28) 0:=⟨aa,⟨aa,⟨⟨aa,⟨dD n,⟨⟨aa,⟨aa,aa⟩⟩,⟨aa,aa⟩⟩⟩⟩,⟨aa,aa⟩⟩⟩⟩
theorem YI (n:Nat):Enters Tryz.prog 28:=enters_of (c:=ba Tryz.f28) Tryz.func28 (by kernel_rfl) (by kernel_rfl)
def Ys (n:Nat):Entry:=⟨28,pcT K1 (.one (.int .i64)) (fun xs=>pj n xs.1),none,none⟩
theorem LM (n:Nat):EntryOk Tryz.prog gl (Ys n):=wa (YI n) fun xs y h=>ma tys_ok (zq n) mixed (hint:=Yd n) (n:=n) Tryz.func28 (ya (bF n)) (la (φ:=(fun y=>some (Out.ret (Ya (.one (.int .i64)) y)))) (by kernel_rfl) (YO n xs.1 _) h)
def Gd (n:Nat):List Entry:=Ys n::mf n
theorem Zl (n:Nat):AllOk Tryz.prog gl (Gd n):=.cons (LM n) (zq n)
def Cy (n:Nat) {R:Type} (n0 i p1 p2 p3:Int) (p4:BA) (p5:Bool) (p6:Int) (p7:BA) (p8:Bool) (p9 p10:BA) (p11:(Sq U0)) (p12:(Sq BA)) (p13:Int) (p14:Bool) (p15:(Sq T2)) (kn:Int→Int→Int→Int→Int→BA→Bool→Int→BA→Bool→BA→BA→(Sq U0)→(Sq BA)→Int→Bool→(Sq T2)→Option R) (ko:U11→Option R) (kr:Unit→Option R) (kp:Int→Option R):Option R:=if (decide (i<(p15.n:Int)))=true then if (decide (n0<(1048576:Int)))=true then if 0≤i∧i<(p15.n:Int) then if 0≤i∧i<(p15.n:Int) then if 0≤i∧i<(p15.n:Int) then if 0≤i∧i<(p15.n:Int) then kn (IntKind.wrap .i64 ((IntKind.wrap .i64 ((IntKind.wrap .i64 ((IntKind.wrap .i64 ((IntKind.wrap .i64 (n0+(1:Int)))+((((((((p15.at' (Int.toNat i))).2).2).2).1).1).size:Int)))+((((((((((p15.at' (Int.toNat i))).2).2).2).2).1).2).1).size:Int)))+(((((((((((((p15.at' (Int.toNat i))).2).2).2).2).1).2).2).2).1).1).size:Int)))+((((((((((((((p15.at' (Int.toNat i))).2).2).2).2).1).2).2).2).1).2).1).size:Int))) (IntKind.wrap .i64 (i+(1:Int))) p1 p2 p3 p4 p5 p6 p7 p8 p9 p10 p11 p12 p13 p14 p15 else none else none else none else none else ko (n0,p1,p2,p3,p4,p5,p6,p7,p8,p9,p10,p11,p12,p13,p14,p15)
 else ko (n0,p1,p2,p3,p4,p5,p6,p7,p8,p9,p10,p11,p12,p13,p14,p15)
def sg (n:Nat):Nat→Int→Int→Int→Int→Int→BA→Bool→Int→BA→Bool→BA→BA→(Sq U0)→(Sq BA)→Int→Bool→(Sq T2)→Option (Lx U11 Unit)
 | 0,_,_,_,_,_,_,_,_,_,_,_,_,_,_,_,_,_=>none
 | m+1,n0,i,p1,p2,p3,p4,p5,p6,p7,p8,p9,p10,p11,p12,p13,p14,p15=>Cy n n0 i p1 p2 p3 p4 p5 p6 p7 p8 p9 p10 p11 p12 p13 p14 p15 (sg n m) (fun a=>some (.out a)) (fun a=>some (.ret a)) (fun p=>some (.pan p))
theorem P5 (n m:Nat) {S:Type}:∀ n0 i p1 p2 p3 p4 p5 p6 p7 p8 p9 p10 p11 p12 p13 p14 p15 (φ:_→Option S),(sg n (m+1) n0 i p1 p2 p3 p4 p5 p6 p7 p8 p9 p10 p11 p12 p13 p14 p15).bind φ=Cy n n0 i p1 p2 p3 p4 p5 p6 p7 p8 p9 p10 p11 p12 p13 p14 p15 (fun n0 i p1 p2 p3 p4 p5 p6 p7 p8 p9 p10 p11 p12 p13 p14 p15=>(sg n m n0 i p1 p2 p3 p4 p5 p6 p7 p8 p9 p10 p11 p12 p13 p14 p15).bind φ) (fun a=>φ (.out a)) (fun a=>φ (.ret a)) (fun p=>φ (.pan p)):=by
  intros;first | (simp only [sg,Cy,ja,fa,iB,bB,oL,oX,nB,Option.bind_some]) | rfl
def Uu:List Sl:=.top::.ptr 0 0 0::.top::.dat (.int .i64)::.dat (.int .i64)::tp 62 []
def Tu:List RS:=[.box 32 15 true [.dat (.int .i64),.dat (.int .i64),.dat (.int .i64),.dat .str,.dat .bool,.dat (.int .i64),.dat .str,.dat .bool,.dat .str,.dat .str,.dat (.sl (.pair .str (.pair .str .unit))),.dat (.sl .str),.dat (.int .i64),.dat .bool,.dat (.sl K3)]]
def eN:List Sl:=.top::.ptr 0 0 0::.top::.dat (.int .i64)::tp 63 []
def dN:List RS:=[.box 32 15 true [.dat (.int .i64),.dat (.int .i64),.dat (.int .i64),.dat .str,.dat .bool,.dat (.int .i64),.dat .str,.dat .bool,.dat .str,.dat .str,.dat (.sl (.pair .str (.pair .str .unit))),.dat (.sl .str),.dat (.int .i64),.dat .bool,.dat (.sl K3)]]
def df (K:XE→List AV→oa→Option Out):Lx U11 Unit→Option Out:=fun x=>onL x (fun a=>yb eN dN (a.1,()) ((a.2.1,(a.2.2.1,(a.2.2.2.1,(a.2.2.2.2.1,(a.2.2.2.2.2.1,(a.2.2.2.2.2.2.1,(a.2.2.2.2.2.2.2.1,(a.2.2.2.2.2.2.2.2.1,(a.2.2.2.2.2.2.2.2.2.1,(a.2.2.2.2.2.2.2.2.2.2.1,(a.2.2.2.2.2.2.2.2.2.2.2.1,(a.2.2.2.2.2.2.2.2.2.2.2.2.1,(a.2.2.2.2.2.2.2.2.2.2.2.2.2.1,(a.2.2.2.2.2.2.2.2.2.2.2.2.2.2.1,(a.2.2.2.2.2.2.2.2.2.2.2.2.2.2.2,()))))))))))))))),()) (K (.exit 0))) (fun _=>none) (fun _=>none)
def mP (n:Nat) {R:Type} (p:U4) (k:Bool→Option R):Option R:=(pj n p.1).bind fun v=>(sg n n v (0:Int) p.1.1 p.1.2.1 p.1.2.2.1 p.1.2.2.2.1.1 p.1.2.2.2.1.2.1 p.1.2.2.2.2.1 p.1.2.2.2.2.2.1 p.1.2.2.2.2.2.2.1 p.1.2.2.2.2.2.2.2.1.1 p.1.2.2.2.2.2.2.2.1.2.1 p.1.2.2.2.2.2.2.2.2.1 p.1.2.2.2.2.2.2.2.2.2.1 p.1.2.2.2.2.2.2.2.2.2.2.1 p.1.2.2.2.2.2.2.2.2.2.2.2.1 p.2.1).bind fun x_1=>onL x_1 (fun a_2=>if (decide (a_2.1>(20000:Int)))=false then k (decide ((a_2.2.2.2.2.2.2.2.2.2.2.2.2.2.2.2.n:Int)>(100:Int))) else k true) (fun _=>none) (fun _=>none)
def nE (n:Nat) (p:U4):Option Bool:=mP n p some
theorem Jgb (n:Nat) {S:Type}:∀ p (φ:_→Option S),(nE n p).bind φ=mP n p φ:=by
  intros;unfold nE mP;first | (simp only [ja,fa,iB,bB,oL,oX,nB,Option.bind_some]) | rfl
def Lo (n:Nat):Hint Out:={ live:=fun c=>(cond (Nat.beq c 0) (lv [1,3,4]) []),run:=fun c=>(cond (Nat.beq c 0) (some (ef Uu Tu fun σ ρ K=>(sg n n σ.1 σ.2.1 ρ.1.1 ρ.1.2.1 ρ.1.2.2.1 ρ.1.2.2.2.1 ρ.1.2.2.2.2.1 ρ.1.2.2.2.2.2.1 ρ.1.2.2.2.2.2.2.1 ρ.1.2.2.2.2.2.2.2.1 ρ.1.2.2.2.2.2.2.2.2.1 ρ.1.2.2.2.2.2.2.2.2.2.1 ρ.1.2.2.2.2.2.2.2.2.2.2.1 ρ.1.2.2.2.2.2.2.2.2.2.2.2.1 ρ.1.2.2.2.2.2.2.2.2.2.2.2.2.1 ρ.1.2.2.2.2.2.2.2.2.2.2.2.2.2.1 ρ.1.2.2.2.2.2.2.2.2.2.2.2.2.2.2.1).bind (df K))) none),xm:=fun c q=>(cond (Nat.beq c 0&&Nat.beq (q.getD 1000000) 0&&q.isSome) (some [(1,none),(3,none)]) none) }
def Ko (n:Nat) (K:XE→List AV→oa→Option Out) (m:Nat) (n0:Int) (i:Int) (p1:Int) (p2:Int) (p3:Int) (p4:BA) (p5:Bool) (p6:Int) (p7:BA) (p8:Bool) (p9:BA) (p10:BA) (p11:(Sq U0)) (p12:(Sq BA)) (p13:Int) (p14:Bool) (p15:(Sq T2)):Option Out:=Kb tys (ia Out (Gd n)) (Lo n) n (ra [1,1,0,1,0,0] (ba Tryz.f15)) 0 Uu Tu K m (n0,(i,())) ((p1,(p2,(p3,(p4,(p5,(p6,(p7,(p8,(p9,(p10,(p11,(p12,(p13,(p14,(p15,()))))))))))))))),())
theorem cN (n:Nat) (K:XE→List AV→oa→Option Out):∀ (m:Nat) n0 i p1 p2 p3 p4 p5 p6 p7 p8 p9 p10 p11 p12 p13 p14 p15,Ko n K m n0 i p1 p2 p3 p4 p5 p6 p7 p8 p9 p10 p11 p12 p13 p14 p15=(sg n m n0 i p1 p2 p3 p4 p5 p6 p7 p8 p9 p10 p11 p12 p13 p14 p15).bind (df K)
  | 0,_,_,_,_,_,_,_,_,_,_,_,_,_,_,_,_,_=>by kernel_rfl
  | m+1,n0,i,p1,p2,p3,p4,p5,p6,p7,p8,p9,p10,p11,p12,p13,p14,p15=>by
    have h1:Ko n K (m+1) n0 i p1 p2 p3 p4 p5 p6 p7 p8 p9 p10 p11 p12 p13 p14 p15=Cy n n0 i p1 p2 p3 p4 p5 p6 p7 p8 p9 p10 p11 p12 p13 p14 p15 (Ko n K m) (fun a=>df K (.out a)) (fun a=>df K (.ret a)) (fun p=>df K (.pan p)):=by kernel_rfl
    have h2:Ko n K m=fun n0 i p1 p2 p3 p4 p5 p6 p7 p8 p9 p10 p11 p12 p13 p14 p15=>(sg n m n0 i p1 p2 p3 p4 p5 p6 p7 p8 p9 p10 p11 p12 p13 p14 p15).bind (df K):=by
      repeat (refine funext fun _=>?_)
      exact cN n K m _ _ _ _ _ _ _ _ _ _ _ _ _ _ _ _ _
    rw [h1,h2];exact (P5 n m _ _ _ _ _ _ _ _ _ _ _ _ _ _ _ _ _ (df K)).symm
theorem UY (n:Nat):ub tys (ia Out (Gd n)) (Lo n) n (ra [1,1,0,1,0,0] (ba Tryz.f15)) 0:=Aa (sp:=Uu) (rp:=Tu) (by kernel_rfl) fun K σ ρ=>cN n K n σ.1 σ.2.1 ρ.1.1 ρ.1.2.1 ρ.1.2.2.1 ρ.1.2.2.2.1 ρ.1.2.2.2.2.1 ρ.1.2.2.2.2.2.1 ρ.1.2.2.2.2.2.2.1 ρ.1.2.2.2.2.2.2.2.1 ρ.1.2.2.2.2.2.2.2.2.1 ρ.1.2.2.2.2.2.2.2.2.2.1 ρ.1.2.2.2.2.2.2.2.2.2.2.1 ρ.1.2.2.2.2.2.2.2.2.2.2.2.1 ρ.1.2.2.2.2.2.2.2.2.2.2.2.2.1 ρ.1.2.2.2.2.2.2.2.2.2.2.2.2.2.1 ρ.1.2.2.2.2.2.2.2.2.2.2.2.2.2.2.1
theorem Q5 (n:Nat):qa tys (ia Out (Gd n)) (Lo n) n (ba Tryz.f15) 0:=⟨aa,⟨aa,⟨⟨aa,⟨UY n,⟨⟨aa,⟨aa,aa⟩⟩,⟨aa,aa⟩⟩⟩⟩,⟨aa,aa⟩⟩⟩⟩
theorem zab (n:Nat):Enters Tryz.prog 15:=enters_of (c:=ba Tryz.f15) Tryz.func15 (by kernel_rfl) (by kernel_rfl)
def SW (n:Nat):Entry:=⟨15,pcT K5 (.one .bool) (fun xs=>nE n xs.1),none,none⟩
theorem ldb (n:Nat):EntryOk Tryz.prog gl (SW n):=wa (zab n) fun xs y h=>ma tys_ok (Zl n) mixed (hint:=Lo n) (n:=n) Tryz.func15 (ya (Q5 n)) (la (φ:=(fun y=>some (Out.ret (Ya (.one .bool) y)))) (by kernel_rfl) (Jgb n xs.1 _) h)
def nJ (n:Nat):List Entry:=SW n::Gd n
theorem xG (n:Nat):AllOk Tryz.prog gl (nJ n):=.cons (ldb n) (Zl n)
def C3 (n:Nat) {R:Type} (n0 most:Int) (k:Bool→Option R):Option R:=if (decide (n0≥(0:Int)))=true then k (decide (n0≤most)) else k false
def NU (n:Nat) (n0 most:Int):Option Bool:=C3 n n0 most some
theorem Bkb (n:Nat) {S:Type}:∀ n0 most (φ:_→Option S),(NU n n0 most).bind φ=C3 n n0 most φ:=by
  intros;unfold NU C3;first | (simp only [ja,fa,iB,bB,oL,oX,nB,Option.bind_some]) | rfl
def PU (n:Nat):Hint Out:={ live:=fun c=>[],run:=fun c=>none,xm:=fun c q=>none }
theorem ccb (n:Nat):qa tys (ia Out (nJ n)) (PU n) n (ba Tryz.f29) 0:=na (fun _=>rfl) _ _ (by kernel_rfl)
theorem Hfb (n:Nat):Enters Tryz.prog 29:=enters_of (c:=ba Tryz.f29) Tryz.func29 (by kernel_rfl) (by kernel_rfl)
def y8 (n:Nat):Entry:=⟨29,pcT (.pair (.int .i64) (.pair (.int .i64) .unit)) (.one .bool) (fun xs=>NU n xs.1 xs.2.1),none,none⟩
theorem tib (n:Nat):EntryOk Tryz.prog gl (y8 n):=wa (Hfb n) fun xs y h=>ma tys_ok (xG n) mixed (hint:=PU n) (n:=n) Tryz.func29 (ya (ccb n)) (la (φ:=(fun y=>some (Out.ret (Ya (.one .bool) y)))) (by kernel_rfl) (Bkb n xs.1 xs.2.1 _) h)
def OU (n:Nat):List Entry:=y8 n::nJ n
theorem dQ (n:Nat):AllOk Tryz.prog gl (OU n):=.cons (tib n) (xG n)
def XU (n:Nat) {R:Type} (s:BA) (k:Bool→Option R):Option R:=if (decide ((s.size:Int)≥(2:Int)))=true then if 0≤(IntKind.wrap .i64 ((s.size:Int) - (2:Int)))∧(IntKind.wrap .i64 ((s.size:Int) - (2:Int)))<(s.size:Int) then if ((bt s (IntKind.wrap .i64 ((s.size:Int) - (2:Int))))==(13:Int))=true then if 0≤(IntKind.wrap .i64 ((s.size:Int) - (1:Int)))∧(IntKind.wrap .i64 ((s.size:Int) - (1:Int)))<(s.size:Int) then k ((bt s (IntKind.wrap .i64 ((s.size:Int) - (1:Int))))==(10:Int)) else none else k false else none else k false
def S3 (n:Nat) (s:BA):Option Bool:=XU n s some
theorem vib (n:Nat) {S:Type}:∀ s (φ:_→Option S),(S3 n s).bind φ=XU n s φ:=by
  intros;unfold S3 XU;first | (simp only [ja,fa,iB,bB,oL,oX,nB,Option.bind_some]) | rfl
def gQ (n:Nat):Hint Out:={ live:=fun c=>[],run:=fun c=>none,xm:=fun c q=>none }
theorem G8 (n:Nat):qa tys (ia Out (OU n)) (gQ n) n (ba Tryz.f58) 0:=na (fun _=>rfl) _ _ (by kernel_rfl)
theorem lcb (n:Nat):Enters Tryz.prog 58:=enters_of (c:=ba Tryz.f58) Tryz.func58 (by kernel_rfl) (by kernel_rfl)
def CZ (n:Nat):Entry:=⟨58,pcT (.pair .str .unit) (.one .bool) (fun xs=>S3 n xs.1),none,none⟩
theorem Nfb (n:Nat):EntryOk Tryz.prog gl (CZ n):=wa (lcb n) fun xs y h=>ma tys_ok (dQ n) mixed (hint:=gQ n) (n:=n) Tryz.func58 (ya (G8 n)) (la (φ:=(fun y=>some (Out.ret (Ya (.one .bool) y)))) (by kernel_rfl) (vib n xs.1 _) h)
def Jv (n:Nat):List Entry:=CZ n::OU n
theorem gL (n:Nat):AllOk Tryz.prog gl (Jv n):=.cons (Nfb n) (dQ n)
def vr (n:Nat) {R:Type} (i:Int) (f1:BA) (f2:Bool) (kn:Int→BA→Bool→Option R) (ko:(Unit)→Option R) (kr:(Bool)→Option R) (kp:Int→Option R):Option R:=if (decide (i≤(f1.size:Int)))=true then if 0≤i∧i≤(f1.size:Int) then (S3 n (f1.extract (Int.toNat (0:Int)) (Int.toNat i))).bind fun v=>if v=true then kr false else kn (IntKind.wrap .i64 (i+(1:Int))) f1 f2 else none else ko ()
def oe (n:Nat):Nat→Int→BA→Bool→Option (Lx (Unit) (Bool))
 | 0,_,_,_=>none
 | m+1,i,f1,f2=>vr n i f1 f2 (oe n m) (fun a=>some (.out a)) (fun a=>some (.ret a)) (fun p=>some (.pan p))
theorem fY (n m:Nat) {S:Type}:∀ i f1 f2 (φ:_→Option S),(oe n (m+1) i f1 f2).bind φ=vr n i f1 f2 (fun i f1 f2=>(oe n m i f1 f2).bind φ) (fun a=>φ (.out a)) (fun a=>φ (.ret a)) (fun p=>φ (.pan p)):=by
  intros;first | (simp only [oe,vr,ja,fa,iB,bB,oL,oX,nB,Option.bind_some]) | rfl
def Tp:List Sl:=.top::.ptr 0 0 0::.top::.dat (.int .i64)::tp 26 []
def Sp:List RS:=[.box 23 2 true [.dat .str,.dat .bool]]
def kH:List Sl:=tp 30 []
def jH:List RS:=[]
def mH:List Sl:=.top::.top::.dat .bool::tp 27 []
def lH:List RS:=[]
def Nd (K:XE→List AV→oa→Option Out):Lx (Unit) (Bool)→Option Out:=fun x=>onL x (fun a=>yb kH jH () () (K (.exit 0))) (fun a=>yb mH lH (a,()) () (K .ret)) (fun _=>none)
def iH (n:Nat) {R:Type} (f:U9) (k:Bool→Option R):Option R:=if f.2.1=true then if (f.1.toList==(⟨#[]⟩:BA).toList)=false then k (f.1.toList==(⟨#[13]⟩:BA).toList) else k true else if (decide ((f.1.size:Int)>(511:Int)))=true then k false else (oe n n (2:Int) f.1 f.2.1).bind fun x_1=>onL x_1 (fun a_2=>k true) (fun a_3=>k a_3) (fun _=>none)
def eL (n:Nat) (f:U9):Option Bool:=iH n f some
theorem jcb (n:Nat) {S:Type}:∀ f (φ:_→Option S),(eL n f).bind φ=iH n f φ:=by
  intros;unfold eL iH;first | (simp only [ja,fa,iB,bB,oL,oX,nB,Option.bind_some]) | rfl
def el (n:Nat):Hint Out:={ live:=fun c=>(cond (Nat.beq c 0) [(1,none),(3,none)] []),run:=fun c=>(cond (Nat.beq c 0) (some (ef Tp Sp fun σ ρ K=>(oe n n σ.1 ρ.1.1 ρ.1.2.1).bind (Nd K))) none),xm:=fun c q=>(cond (Nat.beq c 0&&Nat.beq (q.getD 1000000) 0&&q.isSome) (some []) (cond (Nat.beq c 1&&q.isNone) (some [(2,none)]) none)) }
def dl (n:Nat) (K:XE→List AV→oa→Option Out) (m:Nat) (i:Int) (f1:BA) (f2:Bool):Option Out:=Kb tys (ia Out (Jv n)) (el n) n (ra [1,1,1,0,1,0,0] (ba Tryz.f30)) 0 Tp Sp K m (i,()) ((f1,(f2,())),())
theorem KF (n:Nat) (K:XE→List AV→oa→Option Out):∀ (m:Nat) i f1 f2,dl n K m i f1 f2=(oe n m i f1 f2).bind (Nd K)
  | 0,_,_,_=>by kernel_rfl
  | m+1,i,f1,f2=>by
    have h1:dl n K (m+1) i f1 f2=vr n i f1 f2 (dl n K m) (fun a=>Nd K (.out a)) (fun a=>Nd K (.ret a)) (fun p=>Nd K (.pan p)):=by kernel_rfl
    have h2:dl n K m=fun i f1 f2=>(oe n m i f1 f2).bind (Nd K):=by
      repeat (refine funext fun _=>?_)
      exact KF n K m _ _ _
    rw [h1,h2];exact (fY n m _ _ _ (Nd K)).symm
theorem VU (n:Nat):ub tys (ia Out (Jv n)) (el n) n (ra [1,1,1,0,1,0,0] (ba Tryz.f30)) 0:=Aa (sp:=Tp) (rp:=Sp) (by kernel_rfl) fun K σ ρ=>KF n K n σ.1 ρ.1.1 ρ.1.2.1
theorem gY (n:Nat):qa tys (ia Out (Jv n)) (el n) n (ba Tryz.f30) 0:=⟨aa,⟨⟨aa,⟨⟨aa,aa⟩,aa⟩⟩,⟨⟨aa,⟨⟨aa,aa⟩,aa⟩⟩,⟨⟨aa,⟨VU n,⟨⟨aa,⟨aa,aa⟩⟩,⟨⟨aa,⟨⟨aa,aa⟩,aa⟩⟩,aa⟩⟩⟩⟩,⟨aa,aa⟩⟩⟩⟩⟩
theorem Q3 (n:Nat):Enters Tryz.prog 30:=enters_of (c:=ba Tryz.f30) Tryz.func30 (by kernel_rfl) (by kernel_rfl)
def eQ (n:Nat):Entry:=⟨30,pcT (.pair (.pair .str (.pair .bool .unit)) .unit) (.one .bool) (fun xs=>eL n xs.1),none,none⟩
theorem E8 (n:Nat):EntryOk Tryz.prog gl (eQ n):=wa (Q3 n) fun xs y h=>ma tys_ok (gL n) mixed (hint:=el n) (n:=n) Tryz.func30 (ya (gY n)) (la (φ:=(fun y=>some (Out.ret (Ya (.one .bool) y)))) (by kernel_rfl) (jcb n xs.1 _) h)
def Ll (n:Nat):List Entry:=eQ n::Jv n
theorem pB (n:Nat):AllOk Tryz.prog gl (Ll n):=.cons (E8 n) (gL n)
def Xj (n:Nat) {R:Type} (s1:BA) (by01 from0 i:Int) (l:(Sq BA)) (kn:BA→Int→Int→Int→(Sq BA)→Option R) (ko:((Sq BA))→Option R) (kr:Unit→Option R) (kp:Int→Option R):Option R:=if (decide (i≤(s1.size:Int)))=true then if (i==(s1.size:Int))=false then if 0≤i∧i<(s1.size:Int) then if ((bt s1 i)==by01)=true then if 0≤i∧i≤(s1.size:Int) then if 0≤from0∧from0≤i then if ib (l.n+1) 16=true then kn s1 by01 (IntKind.wrap .i64 (i+(1:Int))) (IntKind.wrap .i64 (i+(1:Int))) (⟨(l.n+1),fun q=>if q<l.n then l.at' q else (fun q=>List.getD (α:=BA) [(s1.extract (Int.toNat from0) (Int.toNat i))] q (ta .str)) (q - l.n)⟩:Sq BA) else none else none else none else kn s1 by01 from0 (IntKind.wrap .i64 (i+(1:Int))) l else none else if 0≤i∧i≤(s1.size:Int) then if 0≤from0∧from0≤i then if ib (l.n+1) 16=true then kn s1 by01 (IntKind.wrap .i64 (i+(1:Int))) (IntKind.wrap .i64 (i+(1:Int))) (⟨(l.n+1),fun q=>if q<l.n then l.at' q else (fun q=>List.getD (α:=BA) [(s1.extract (Int.toNat from0) (Int.toNat i))] q (ta .str)) (q - l.n)⟩:Sq BA) else none else none else none else ko l
def Xc (n:Nat):Nat→BA→Int→Int→Int→(Sq BA)→Option (Lx ((Sq BA)) Unit)
 | 0,_,_,_,_,_=>none
 | m+1,s1,by01,from0,i,l=>Xj n s1 by01 from0 i l (Xc n m) (fun a=>some (.out a)) (fun a=>some (.ret a)) (fun p=>some (.pan p))
theorem G3 (n m:Nat) {S:Type}:∀ s1 by01 from0 i l (φ:_→Option S),(Xc n (m+1) s1 by01 from0 i l).bind φ=Xj n s1 by01 from0 i l (fun s1 by01 from0 i l=>(Xc n m s1 by01 from0 i l).bind φ) (fun a=>φ (.out a)) (fun a=>φ (.ret a)) (fun p=>φ (.pan p)):=by
  intros;first | (simp only [Xc,Xj,ja,fa,iB,bB,oL,oX,nB,Option.bind_some]) | rfl
def Tt:List Sl:=.dat .str::.dat (.int .u8)::.top::.top::.top::.row 0::.dat (.int .i64)::.dat (.int .i64)::tp 27 []
def Rt:List RS:=[.row 9 1 .str true false]
def QK:List Sl:=tp 5 (.row 0::tp 29 [])
def PK:List RS:=[.row 9 1 .str true false]
def Ke (K:XE→List AV→oa→Option Out):Lx ((Sq BA)) Unit→Option Out:=fun x=>onL x (fun a=>yb QK PK () (a,()) (K (.exit 0))) (fun _=>none) (fun _=>none)
def JD (n:Nat) {R:Type} (s:BA) (by0:Int) (k:(Sq BA)→Option R):Option R:=(Xc n n s by0 (0:Int) (0:Int) (⟨0,fun _=>ta .str⟩:Sq BA)).bind fun x_1=>onL x_1 (fun a_2=>k a_2) (fun _=>none) (fun _=>none)
def Un (n:Nat) (s:BA) (by0:Int):Option (Sq BA):=JD n s by0 some
theorem Jfb (n:Nat) {S:Type}:∀ s by0 (φ:_→Option S),(Un n s by0).bind φ=JD n s by0 φ:=by
  intros;unfold Un JD;first | (simp only [ja,fa,iB,bB,oL,oX,nB,Option.bind_some]) | rfl
def Wn (n:Nat):Hint Out:={ live:=fun c=>(cond (Nat.beq c 0) [(0,none),(1,none),(5,some (.sl .str)),(6,none),(7,none)] []),run:=fun c=>(cond (Nat.beq c 0) (some (ef Tt Rt fun σ ρ K=>(Xc n n σ.1 σ.2.1 σ.2.2.1 σ.2.2.2.1 ρ.1).bind (Ke K))) none),xm:=fun c q=>(cond (Nat.beq c 0&&Nat.beq (q.getD 1000000) 0&&q.isSome) (some [(5,some (.sl .str))]) none) }
def Vn (n:Nat) (K:XE→List AV→oa→Option Out) (m:Nat) (s1:BA) (by01:Int) (from0:Int) (i:Int) (l:(Sq BA)):Option Out:=Kb tys (ia Out (Ll n)) (Wn n) n (ra [1,1,1,0,1,0,0] (ba Tryz.f60)) 0 Tt Rt K m (s1,(by01,(from0,(i,())))) (l,())
theorem OK (n:Nat) (K:XE→List AV→oa→Option Out):∀ (m:Nat) s1 by01 from0 i l,Vn n K m s1 by01 from0 i l=(Xc n m s1 by01 from0 i l).bind (Ke K)
  | 0,_,_,_,_,_=>by kernel_rfl
  | m+1,s1,by01,from0,i,l=>by
    have h1:Vn n K (m+1) s1 by01 from0 i l=Xj n s1 by01 from0 i l (Vn n K m) (fun a=>Ke K (.out a)) (fun a=>Ke K (.ret a)) (fun p=>Ke K (.pan p)):=by kernel_rfl
    have h2:Vn n K m=fun s1 by01 from0 i l=>(Xc n m s1 by01 from0 i l).bind (Ke K):=by
      repeat (refine funext fun _=>?_)
      exact OK n K m _ _ _ _ _
    rw [h1,h2];exact (G3 n m _ _ _ _ _ (Ke K)).symm
theorem bY (n:Nat):ub tys (ia Out (Ll n)) (Wn n) n (ra [1,1,1,0,1,0,0] (ba Tryz.f60)) 0:=Aa (sp:=Tt) (rp:=Rt) (by kernel_rfl) fun K σ ρ=>OK n K n σ.1 σ.2.1 σ.2.2.1 σ.2.2.2.1 ρ.1
theorem H3 (n:Nat):qa tys (ia Out (Ll n)) (Wn n) n (ba Tryz.f60) 0:=⟨aa,⟨aa,⟨aa,⟨⟨aa,⟨bY n,⟨⟨aa,⟨aa,aa⟩⟩,⟨⟨aa,⟨⟨aa,aa⟩,aa⟩⟩,aa⟩⟩⟩⟩,⟨aa,aa⟩⟩⟩⟩⟩
theorem A8 (n:Nat):Enters Tryz.prog 60:=enters_of (c:=ba Tryz.f60) Tryz.func60 (by kernel_rfl) (by kernel_rfl)
def RU (n:Nat):Entry:=⟨60,pcT (.pair .str (.pair (.int .u8) .unit)) (.one (.sl .str)) (fun xs=>Un n xs.1 xs.2.1),none,none⟩
theorem ecb (n:Nat):EntryOk Tryz.prog gl (RU n):=wa (A8 n) fun xs y h=>ma tys_ok (pB n) mixed (hint:=Wn n) (n:=n) Tryz.func60 (ya (H3 n)) (la (φ:=(fun y=>some (Out.ret (Ya (.one (.sl .str)) y)))) (by kernel_rfl) (Jfb n xs.1 xs.2.1 _) h)
def Qp (n:Nat):List Entry:=RU n::Ll n
theorem GF (n:Nat):AllOk Tryz.prog gl (Qp n):=.cons (ecb n) (pB n)
def Tf (n:Nat) {R:Type} (s1:BA) (n0 i:Int) (kn:BA→Int→Int→Option R) (ko:(Int)→Option R) (kr:(Int×Bool)→Option R) (kp:Int→Option R):Option R:=if (decide (i<(s1.size:Int)))=true then if 0≤i∧i<(s1.size:Int) then if (decide ((bt s1 i)<(48:Int)))=false then if 0≤i∧i<(s1.size:Int) then if (decide ((bt s1 i)>(57:Int)))=true then kr ((0:Int),false) else if 0≤i∧i<(s1.size:Int) then kn s1 (IntKind.wrap .i64 ((IntKind.wrap .i64 ((10:Int)*n0))+(IntKind.wrap .i64 (IntKind.wrap .u8 ((bt s1 i) - (48:Int)))))) (IntKind.wrap .i64 (i+(1:Int))) else none else none else kr ((0:Int),false) else none else ko n0
def Eb (n:Nat):Nat→BA→Int→Int→Option (Lx (Int) (Int×Bool))
 | 0,_,_,_=>none
 | m+1,s1,n0,i=>Tf n s1 n0 i (Eb n m) (fun a=>some (.out a)) (fun a=>some (.ret a)) (fun p=>some (.pan p))
theorem I3 (n m:Nat) {S:Type}:∀ s1 n0 i (φ:_→Option S),(Eb n (m+1) s1 n0 i).bind φ=Tf n s1 n0 i (fun s1 n0 i=>(Eb n m s1 n0 i).bind φ) (fun a=>φ (.out a)) (fun a=>φ (.ret a)) (fun p=>φ (.pan p)):=by
  intros;first | (simp only [Eb,Tf,ja,fa,iB,bB,oL,oX,nB,Option.bind_some]) | rfl
def Vt:List Sl:=.dat .str::.top::.top::.top::.dat (.int .i64)::.dat (.int .i64)::tp 42 []
def Ut:List RS:=[]
def TK:List Sl:=tp 4 (.dat (.int .i64)::tp 43 [])
def SK:List RS:=[]
def VK:List Sl:=.top::.top::.dat (.int .i64)::.dat .bool::tp 44 []
def UK:List RS:=[]
def Le (K:XE→List AV→oa→Option Out):Lx (Int) (Int×Bool)→Option Out:=fun x=>onL x (fun a=>yb TK SK (a,()) () (K (.exit 0))) (fun a=>yb VK UK (a.1,(a.2,())) () (K .ret)) (fun _=>none)
def LD (n:Nat) {R:Type} (s:BA) (k:(Int×Bool×Unit)→Option R):Option R:=if (s.toList==(⟨#[]⟩:BA).toList)=false then if (decide ((s.size:Int)>(16:Int)))=false then if (decide ((s.size:Int)>(1:Int)))=true then if 0≤(0:Int)∧(0:Int)<(s.size:Int) then if ((bt s (0:Int))==(48:Int))=true then k ((0:Int),(false,())) else (Eb n n s (0:Int) (0:Int)).bind fun x_1=>onL x_1 (fun a_2=>k (a_2,(true,()))) (fun a_3=>k (a_3.1,(a_3.2,()))) (fun _=>none) else none else (Eb n n s (0:Int) (0:Int)).bind fun x_4=>onL x_4 (fun a_5=>k (a_5,(true,()))) (fun a_6=>k (a_6.1,(a_6.2,()))) (fun _=>none) else k ((0:Int),(false,())) else k ((0:Int),(false,()))
def KD (n:Nat) (s:BA):Option (Int×Bool×Unit):=LD n s some
theorem Kfb (n:Nat) {S:Type}:∀ s (φ:_→Option S),(KD n s).bind φ=LD n s φ:=by
  intros;unfold KD LD;first | (simp only [ja,fa,iB,bB,oL,oX,nB,Option.bind_some]) | rfl
def Yn (n:Nat):Hint Out:={ live:=fun c=>(cond (Nat.beq c 0) (lv [0,4,5]) []),run:=fun c=>(cond (Nat.beq c 0) (some (ef Vt Ut fun σ ρ K=>(Eb n n σ.1 σ.2.1 σ.2.2.1).bind (Le K))) none),xm:=fun c q=>(cond (Nat.beq c 0&&Nat.beq (q.getD 1000000) 0&&q.isSome) (some [(4,none)]) (cond (Nat.beq c 1&&q.isNone) (some [(2,none),(3,none)]) none)) }
def Xn (n:Nat) (K:XE→List AV→oa→Option Out) (m:Nat) (s1:BA) (n0:Int) (i:Int):Option Out:=Kb tys (ia Out (Qp n)) (Yn n) n (ra [1,1,1,0,1,0,0] (ba Tryz.f85)) 0 Vt Ut K m (s1,(n0,(i,()))) ()
theorem RK (n:Nat) (K:XE→List AV→oa→Option Out):∀ (m:Nat) s1 n0 i,Xn n K m s1 n0 i=(Eb n m s1 n0 i).bind (Le K)
  | 0,_,_,_=>by kernel_rfl
  | m+1,s1,n0,i=>by
    have h1:Xn n K (m+1) s1 n0 i=Tf n s1 n0 i (Xn n K m) (fun a=>Le K (.out a)) (fun a=>Le K (.ret a)) (fun p=>Le K (.pan p)):=by kernel_rfl
    have h2:Xn n K m=fun s1 n0 i=>(Eb n m s1 n0 i).bind (Le K):=by
      repeat (refine funext fun _=>?_)
      exact RK n K m _ _ _
    rw [h1,h2];exact (I3 n m _ _ _ (Le K)).symm
theorem cY (n:Nat):ub tys (ia Out (Qp n)) (Yn n) n (ra [1,1,1,0,1,0,0] (ba Tryz.f85)) 0:=Aa (sp:=Vt) (rp:=Ut) (by kernel_rfl) fun K σ ρ=>RK n K n σ.1 σ.2.1 σ.2.2.1
theorem J3 (n:Nat):qa tys (ia Out (Qp n)) (Yn n) n (ba Tryz.f85) 0:=⟨aa,⟨⟨aa,⟨⟨aa,aa⟩,aa⟩⟩,⟨aa,⟨⟨aa,⟨cY n,⟨⟨aa,⟨aa,aa⟩⟩,⟨⟨⟨aa,⟨⟨aa,aa⟩,aa⟩⟩,aa⟩,aa⟩⟩⟩⟩,⟨aa,aa⟩⟩⟩⟩⟩
theorem B8 (n:Nat):Enters Tryz.prog 85:=enters_of (c:=ba Tryz.f85) Tryz.func85 (by kernel_rfl) (by kernel_rfl)
def SU (n:Nat):Entry:=⟨85,pcT (.pair .str .unit) (.many (.pair (.int .i64) (.pair .bool .unit))) (fun xs=>KD n xs.1),none,none⟩
theorem fcb (n:Nat):EntryOk Tryz.prog gl (SU n):=wa (B8 n) fun xs y h=>ma tys_ok (GF n) mixed (hint:=Yn n) (n:=n) Tryz.func85 (ya (J3 n)) (la (φ:=(fun y=>some (Out.ret (Ya (.many (.pair (.int .i64) (.pair .bool .unit))) y)))) (by kernel_rfl) (Kfb n xs.1 _) h)
def Rp (n:Nat):List Entry:=SU n::Qp n
theorem HF (n:Nat):AllOk Tryz.prog gl (Rp n):=.cons (fcb n) (GF n)
def Bg (n:Nat) {R:Type} (l:(Sq BA)) (i:Int) (kn:(Sq BA)→Int→Option R) (ko:((Sq BA))→Option R) (kr:(Bool)→Option R) (kp:Int→Option R):Option R:=if (decide (i<(l.n:Int)))=true then if 0≤i∧i<(l.n:Int) then (KD n (l.at' (Int.toNat i))).bind fun v1=>if (!v1.2.1)=false then if (decide (v1.1>(255:Int)))=true then kr false else kn l (IntKind.wrap .i64 (i+(1:Int))) else kr false else none else ko l
def Fb (n:Nat):Nat→(Sq BA)→Int→Option (Lx ((Sq BA)) (Bool))
 | 0,_,_=>none
 | m+1,l,i=>Bg n l i (Fb n m) (fun a=>some (.out a)) (fun a=>some (.ret a)) (fun p=>some (.pan p))
theorem xV (n m:Nat) {S:Type}:∀ l i (φ:_→Option S),(Fb n (m+1) l i).bind φ=Bg n l i (fun l i=>(Fb n m l i).bind φ) (fun a=>φ (.out a)) (fun a=>φ (.ret a)) (fun p=>φ (.pan p)):=by
  intros;first | (simp only [Fb,Bg,ja,fa,iB,bB,oL,oX,nB,Option.bind_some]) | rfl
def ym:List Sl:=.top::.top::.top::.dat (.sl .str)::.dat (.int .i64)::tp 47 []
def wm:List RS:=[]
def LE:List Sl:=.top::.top::.top::.dat (.sl .str)::tp 48 []
def KE:List RS:=[]
def NE:List Sl:=.top::.top::.dat .bool::tp 49 []
def ME:List RS:=[]
def Yc (K:XE→List AV→oa→Option Out):Lx ((Sq BA)) (Bool)→Option Out:=fun x=>onL x (fun a=>yb LE KE (a,()) () (K (.exit 0))) (fun a=>yb NE ME (a,()) () (K .ret)) (fun _=>none)
def Er (n:Nat) {R:Type} (s:BA) (k:Bool→Option R):Option R:=if (decide ((s.size:Int)<(2:Int)))=false then if 0≤(0:Int)∧(0:Int)<(s.size:Int) then if ((bt s (0:Int)) !=(91:Int))=false then if 0≤(IntKind.wrap .i64 ((s.size:Int) - (1:Int)))∧(IntKind.wrap .i64 ((s.size:Int) - (1:Int)))<(s.size:Int) then if ((bt s (IntKind.wrap .i64 ((s.size:Int) - (1:Int)))) !=(93:Int))=true then k false else if 0≤(IntKind.wrap .i64 ((s.size:Int) - (1:Int)))∧(IntKind.wrap .i64 ((s.size:Int) - (1:Int)))≤(s.size:Int) then if 0≤(1:Int)∧(1:Int)≤(IntKind.wrap .i64 ((s.size:Int) - (1:Int))) then (Un n (s.extract (Int.toNat (1:Int)) (Int.toNat (IntKind.wrap .i64 ((s.size:Int) - (1:Int))))) (46:Int)).bind fun v=>(Fb n n v (0:Int)).bind fun x_1=>onL x_1 (fun a_2=>k ((a_2.n:Int)==(4:Int))) (fun a_3=>k a_3) (fun _=>none) else none else none else none else k false else none else k false
def Qo (n:Nat) (s:BA):Option Bool:=Er n s some
theorem S8 (n:Nat) {S:Type}:∀ s (φ:_→Option S),(Qo n s).bind φ=Er n s φ:=by
  intros;unfold Qo Er;first | (simp only [ja,fa,iB,bB,oL,oX,nB,Option.bind_some]) | rfl
def Ui (n:Nat):Hint Out:={ live:=fun c=>(cond (Nat.beq c 0) [(3,some (.sl .str)),(4,none)] []),run:=fun c=>(cond (Nat.beq c 0) (some (ef ym wm fun σ ρ K=>(Fb n n σ.1 σ.2.1).bind (Yc K))) none),xm:=fun c q=>(cond (Nat.beq c 0&&Nat.beq (q.getD 1000000) 0&&q.isSome) (some [(3,some (.sl .str))]) (cond (Nat.beq c 1&&q.isNone) (some [(2,none)]) none)) }
def Ti (n:Nat) (K:XE→List AV→oa→Option Out) (m:Nat) (l:(Sq BA)) (i:Int):Option Out:=Kb tys (ia Out (Rp n)) (Ui n) n (ra [1,1,1,0,1,0,0] (ba Tryz.f59)) 0 ym wm K m (l,(i,())) ()
theorem SB (n:Nat) (K:XE→List AV→oa→Option Out):∀ (m:Nat) l i,Ti n K m l i=(Fb n m l i).bind (Yc K)
  | 0,_,_=>by kernel_rfl
  | m+1,l,i=>by
    have h1:Ti n K (m+1) l i=Bg n l i (Ti n K m) (fun a=>Yc K (.out a)) (fun a=>Yc K (.ret a)) (fun p=>Yc K (.pan p)):=by kernel_rfl
    have h2:Ti n K m=fun l i=>(Fb n m l i).bind (Yc K):=by
      repeat (refine funext fun _=>?_)
      exact SB n K m _ _
    rw [h1,h2];exact (xV n m _ _ (Yc K)).symm
theorem uR (n:Nat):ub tys (ia Out (Rp n)) (Ui n) n (ra [1,1,1,0,1,0,0] (ba Tryz.f59)) 0:=Aa (sp:=ym) (rp:=wm) (by kernel_rfl) fun K σ ρ=>SB n K n σ.1 σ.2.1
theorem yV (n:Nat):qa tys (ia Out (Rp n)) (Ui n) n (ba Tryz.f59) 0:=⟨aa,⟨⟨aa,⟨⟨aa,aa⟩,aa⟩⟩,⟨aa,⟨⟨aa,⟨uR n,⟨⟨aa,⟨aa,aa⟩⟩,⟨⟨aa,⟨aa,⟨⟨aa,aa⟩,aa⟩⟩⟩,aa⟩⟩⟩⟩,⟨aa,aa⟩⟩⟩⟩⟩
theorem sY (n:Nat):Enters Tryz.prog 59:=enters_of (c:=ba Tryz.f59) Tryz.func59 (by kernel_rfl) (by kernel_rfl)
def pL (n:Nat):Entry:=⟨59,pcT (.pair .str .unit) (.one .bool) (fun xs=>Qo n xs.1),none,none⟩
theorem y4 (n:Nat):EntryOk Tryz.prog gl (pL n):=wa (sY n) fun xs y h=>ma tys_ok (HF n) mixed (hint:=Ui n) (n:=n) Tryz.func59 (ya (yV n)) (la (φ:=(fun y=>some (Out.ret (Ya (.one .bool) y)))) (by kernel_rfl) (S8 n xs.1 _) h)
def Cx (n:Nat):List Entry:=pL n::Rp n
theorem Wy (n:Nat):AllOk Tryz.prog gl (Cx n):=.cons (y4 n) (HF n)
def UD (n:Nat) {R:Type} (c:Int) (k:Bool→Option R):Option R:=if (decide (c≥(48:Int)))=true then k (decide (c≤(57:Int))) else k false
def qo (n:Nat) (c:Int):Option Bool:=UD n c some
theorem Wfb (n:Nat) {S:Type}:∀ c (φ:_→Option S),(qo n c).bind φ=UD n c φ:=by
  intros;unfold qo UD;first | (simp only [ja,fa,iB,bB,oL,oX,nB,Option.bind_some]) | rfl
def GL (n:Nat):Hint Out:={ live:=fun c=>[],run:=fun c=>none,xm:=fun c q=>none }
theorem E4 (n:Nat):qa tys (ia Out (Cx n)) (GL n) n (ba Tryz.f61) 0:=na (fun _=>rfl) _ _ (by kernel_rfl)
theorem Z8 (n:Nat):Enters Tryz.prog 61:=enters_of (c:=ba Tryz.f61) Tryz.func61 (by kernel_rfl) (by kernel_rfl)
def EV (n:Nat):Entry:=⟨61,pcT (.pair (.int .u8) .unit) (.one .bool) (fun xs=>qo n xs.1),none,none⟩
theorem ycb (n:Nat):EntryOk Tryz.prog gl (EV n):=wa (Z8 n) fun xs y h=>ma tys_ok (Wy n) mixed (hint:=GL n) (n:=n) Tryz.func61 (ya (E4 n)) (la (φ:=(fun y=>some (Out.ret (Ya (.one .bool) y)))) (by kernel_rfl) (Wfb n xs.1 _) h)
def Jh (n:Nat):List Entry:=EV n::Cx n
theorem cG (n:Nat):AllOk Tryz.prog gl (Jh n):=.cons (ycb n) (Wy n)
def pi (n:Nat) {R:Type} (l1:(Sq BA)) (i1:Int) (w:BA) (k0:Int) (kn:(Sq BA)→Int→BA→Int→Option R) (ko:((Sq BA)×Int)→Option R) (kr:(Bool)→Option R) (kp:Int→Option R):Option R:=if (decide (k0<(w.size:Int)))=true then if 0≤k0∧k0<(w.size:Int) then if (decide ((bt w k0)≥(97:Int)))=true then if 0≤k0∧k0<(w.size:Int) then if (!(decide ((bt w k0)≤(122:Int))))=true then if 0≤k0∧k0<(w.size:Int) then (qo n (bt w k0)).bind fun v2=>if (!v2)=true then if 0≤k0∧k0<(w.size:Int) then if ((bt w k0) !=(45:Int))=true then kr false else kn l1 i1 w (IntKind.wrap .i64 (k0+(1:Int))) else none else kn l1 i1 w (IntKind.wrap .i64 (k0+(1:Int))) else none else kn l1 i1 w (IntKind.wrap .i64 (k0+(1:Int))) else none else if 0≤k0∧k0<(w.size:Int) then (qo n (bt w k0)).bind fun v3=>if (!v3)=true then if 0≤k0∧k0<(w.size:Int) then if ((bt w k0) !=(45:Int))=true then kr false else kn l1 i1 w (IntKind.wrap .i64 (k0+(1:Int))) else none else kn l1 i1 w (IntKind.wrap .i64 (k0+(1:Int))) else none else none else ko (l1,i1)
def ic (n:Nat):Nat→(Sq BA)→Int→BA→Int→Option (Lx ((Sq BA)×Int) (Bool))
 | 0,_,_,_,_=>none
 | m+1,l1,i1,w,k0=>pi n l1 i1 w k0 (ic n m) (fun a=>some (.out a)) (fun a=>some (.ret a)) (fun p=>some (.pan p))
theorem qY (n m:Nat) {S:Type}:∀ l1 i1 w k0 (φ:_→Option S),(ic n (m+1) l1 i1 w k0).bind φ=pi n l1 i1 w k0 (fun l1 i1 w k0=>(ic n m l1 i1 w k0).bind φ) (fun a=>φ (.out a)) (fun a=>φ (.ret a)) (fun p=>φ (.pan p)):=by
  intros;first | (simp only [ic,pi,ja,fa,iB,bB,oL,oX,nB,Option.bind_some]) | rfl
def bq:List Sl:=.top::.top::.top::.dat (.sl .str)::.dat (.int .i64)::.dat .str::.dat (.int .i64)::tp 68 []
def aq:List RS:=[]
def lI:List Sl:=.top::.top::.top::.dat (.sl .str)::.dat (.int .i64)::tp 70 []
def kI:List RS:=[]
def nI:List Sl:=.top::.top::.dat .bool::tp 72 []
def mI:List RS:=[]
def Sd (K:XE→List AV→oa→Option Out):Lx ((Sq BA)×Int) (Bool)→Option Out:=fun x=>onL x (fun a=>yb lI kI (a.1,(a.2,())) () (K (.exit 2))) (fun a=>yb nI mI (a,()) () (K .ret)) (fun _=>none)
def ni (n:Nat) {R:Type} (l:(Sq BA)) (i:Int) (kn:(Sq BA)→Int→Option R) (ko:(Unit)→Option R) (kr:(Bool)→Option R) (kp:Int→Option R):Option R:=if (decide (i<(l.n:Int)))=true then if 0≤i∧i<(l.n:Int) then if (decide (((l.at' (Int.toNat i)).size:Int)<(1:Int)))=false then if (decide (((l.at' (Int.toNat i)).size:Int)>(63:Int)))=false then if 0≤(0:Int)∧(0:Int)<((l.at' (Int.toNat i)).size:Int) then if ((bt (l.at' (Int.toNat i)) (0:Int))==(45:Int))=false then if 0≤(IntKind.wrap .i64 (((l.at' (Int.toNat i)).size:Int) - (1:Int)))∧(IntKind.wrap .i64 (((l.at' (Int.toNat i)).size:Int) - (1:Int)))<((l.at' (Int.toNat i)).size:Int) then if ((bt (l.at' (Int.toNat i)) (IntKind.wrap .i64 (((l.at' (Int.toNat i)).size:Int) - (1:Int))))==(45:Int))=true then kr false else (ic n n l i (l.at' (Int.toNat i)) (0:Int)).bind fun x_1=>onL x_1 (fun a_2=>kn a_2.1 (IntKind.wrap .i64 (a_2.2+(1:Int)))) (fun a_3=>kr a_3) (fun _=>none) else none else kr false else none else kr false else kr false else none else ko ()
def fc (n:Nat):Nat→(Sq BA)→Int→Option (Lx (Unit) (Bool))
 | 0,_,_=>none
 | m+1,l,i=>ni n l i (fc n m) (fun a=>some (.out a)) (fun a=>some (.ret a)) (fun p=>some (.pan p))
theorem pY (n m:Nat) {S:Type}:∀ l i (φ:_→Option S),(fc n (m+1) l i).bind φ=ni n l i (fun l i=>(fc n m l i).bind φ) (fun a=>φ (.out a)) (fun a=>φ (.ret a)) (fun p=>φ (.pan p)):=by
  intros;first | (simp only [fc,ni,ja,fa,iB,bB,oL,oX,nB,Option.bind_some]) | rfl
def Zp:List Sl:=.top::.top::.top::.dat (.sl .str)::.dat (.int .i64)::tp 70 []
def Yp:List RS:=[]
def gI:List Sl:=tp 75 []
def fI:List RS:=[]
def jI:List Sl:=.top::.top::.dat .bool::tp 72 []
def iI:List RS:=[]
def Rd (K:XE→List AV→oa→Option Out):Lx (Unit) (Bool)→Option Out:=fun x=>onL x (fun a=>yb gI fI () () (K (.exit 0))) (fun a=>yb jI iI (a,()) () (K .ret)) (fun _=>none)
def Bx (n:Nat) {R:Type} (s:BA) (k:Bool→Option R):Option R:=if (decide ((s.size:Int)>(255:Int)))=true then k false else (Qo n s).bind fun v=>if v=true then k true else (Un n s (46:Int)).bind fun v1=>(fc n n v1 (0:Int)).bind fun x_1=>onL x_1 (fun a_2=>k true) (fun a_3=>k a_3) (fun _=>none)
def Si (n:Nat) (s:BA):Option Bool:=Bx n s some
theorem scb (n:Nat) {S:Type}:∀ s (φ:_→Option S),(Si n s).bind φ=Bx n s φ:=by
  intros;unfold Si Bx;first | (simp only [ja,fa,iB,bB,oL,oX,nB,Option.bind_some]) | rfl
def qf (n:Nat):Hint Out:={ live:=fun c=>(cond (Nat.beq c 0) [(3,some (.sl .str)),(4,none)] (cond (Nat.beq c 2) [(3,some (.sl .str)),(4,none),(5,none),(6,none)] [])),run:=fun c=>(cond (Nat.beq c 0) (some (ef Zp Yp fun σ ρ K=>(fc n n σ.1 σ.2.1).bind (Rd K))) (cond (Nat.beq c 2) (some (ef bq aq fun σ ρ K=>(ic n n σ.1 σ.2.1 σ.2.2.1 σ.2.2.2.1).bind (Sd K))) none)),xm:=fun c q=>(cond (Nat.beq c 0&&Nat.beq (q.getD 1000000) 0&&q.isSome) (some []) (cond (Nat.beq c 2&&Nat.beq (q.getD 1000000) 2&&q.isSome) (some [(3,some (.sl .str)),(4,none)]) (cond (Nat.beq c 3&&q.isNone) (some [(2,none)]) (cond (Nat.beq c 1&&q.isNone) (some [(2,none)]) none)))) }
def ul (n:Nat) (K:XE→List AV→oa→Option Out) (m:Nat) (l1:(Sq BA)) (i1:Int) (w:BA) (k0:Int):Option Out:=Kb tys (ia Out (Jh n)) (qf n) n (ra [1,1,1,1,0,1,0,0,1,0,0,1,1,1,0,0] (ba Tryz.f31)) 2 bq aq K m (l1,(i1,(w,(k0,())))) ()
theorem YF (n:Nat) (K:XE→List AV→oa→Option Out):∀ (m:Nat) l1 i1 w k0,ul n K m l1 i1 w k0=(ic n m l1 i1 w k0).bind (Sd K)
  | 0,_,_,_,_=>by kernel_rfl
  | m+1,l1,i1,w,k0=>by
    have h1:ul n K (m+1) l1 i1 w k0=pi n l1 i1 w k0 (ul n K m) (fun a=>Sd K (.out a)) (fun a=>Sd K (.ret a)) (fun p=>Sd K (.pan p)):=by kernel_rfl
    have h2:ul n K m=fun l1 i1 w k0=>(ic n m l1 i1 w k0).bind (Sd K):=by
      repeat (refine funext fun _=>?_)
      exact YF n K m _ _ _ _
    rw [h1,h2];exact (qY n m _ _ _ _ (Sd K)).symm
theorem wV (n:Nat):ub tys (ia Out (Jh n)) (qf n) n (ra [1,1,1,1,0,1,0,0,1,0,0,1,1,1,0,0] (ba Tryz.f31)) 2:=Aa (sp:=bq) (rp:=aq) (by kernel_rfl) fun K σ ρ=>YF n K n σ.1 σ.2.1 σ.2.2.1 σ.2.2.2.1
def rl (n:Nat) (K:XE→List AV→oa→Option Out) (m:Nat) (l:(Sq BA)) (i:Int):Option Out:=Kb tys (ia Out (Jh n)) (qf n) n (ra [1,1,1,1,0,1,0,0] (ba Tryz.f31)) 0 Zp Yp K m (l,(i,())) ()
theorem XF (n:Nat) (K:XE→List AV→oa→Option Out):∀ (m:Nat) l i,rl n K m l i=(fc n m l i).bind (Rd K)
  | 0,_,_=>by kernel_rfl
  | m+1,l,i=>by
    have h1:rl n K (m+1) l i=ni n l i (rl n K m) (fun a=>Rd K (.out a)) (fun a=>Rd K (.ret a)) (fun p=>Rd K (.pan p)):=by kernel_rfl
    have h2:rl n K m=fun l i=>(fc n m l i).bind (Rd K):=by
      repeat (refine funext fun _=>?_)
      exact XF n K m _ _
    rw [h1,h2];exact (pY n m _ _ (Rd K)).symm
theorem vV (n:Nat):ub tys (ia Out (Jh n)) (qf n) n (ra [1,1,1,1,0,1,0,0] (ba Tryz.f31)) 0:=Aa (sp:=Zp) (rp:=Yp) (by kernel_rfl) fun K σ ρ=>XF n K n σ.1 σ.2.1
theorem rY (n:Nat):qa tys (ia Out (Jh n)) (qf n) n (ba Tryz.f31) 0:=⟨aa,⟨⟨aa,⟨⟨aa,aa⟩,aa⟩⟩,⟨⟨aa,⟨⟨aa,aa⟩,aa⟩⟩,⟨aa,⟨⟨aa,⟨vV n,⟨⟨aa,⟨aa,aa⟩⟩,⟨⟨aa,⟨⟨aa,⟨⟨aa,aa⟩,aa⟩⟩,⟨aa,⟨wV n,⟨⟨aa,⟨aa,aa⟩⟩,⟨⟨aa,⟨⟨aa,aa⟩,aa⟩⟩,aa⟩⟩⟩⟩⟩⟩,aa⟩⟩⟩⟩,⟨aa,aa⟩⟩⟩⟩⟩⟩
theorem u4 (n:Nat):Enters Tryz.prog 31:=enters_of (c:=ba Tryz.f31) Tryz.func31 (by kernel_rfl) (by kernel_rfl)
def nQ (n:Nat):Entry:=⟨31,pcT (.pair .str .unit) (.one .bool) (fun xs=>Si n xs.1),none,none⟩
theorem R8 (n:Nat):EntryOk Tryz.prog gl (nQ n):=wa (u4 n) fun xs y h=>ma tys_ok (cG n) mixed (hint:=qf n) (n:=n) Tryz.func31 (ya (rY n)) (la (φ:=(fun y=>some (Out.ret (Ya (.one .bool) y)))) (by kernel_rfl) (scb n xs.1 _) h)
def QB (n:Nat):List Entry:=nQ n::Jh n
theorem RB (n:Nat):AllOk Tryz.prog gl (QB n):=.cons (R8 n) (cG n)
def iO (n:Nat) {R:Type} (state:Int) (k:Bool→Option R):Option R:=if (state==(2:Int))=false then if (state==(3:Int))=false then k (state==(4:Int)) else k true else k true
def PS (n:Nat) (state:Int):Option Bool:=iO n state some
theorem Rfb (n:Nat) {S:Type}:∀ state (φ:_→Option S),(PS n state).bind φ=iO n state φ:=by
  intros;unfold PS iO;first | (simp only [ja,fa,iB,bB,oL,oX,nB,Option.bind_some]) | rfl
def nL (n:Nat):Hint Out:={ live:=fun c=>[],run:=fun c=>none,xm:=fun c q=>none }
theorem r4 (n:Nat):qa tys (ia Out (QB n)) (nL n) n (ba Tryz.f32) 0:=na (fun _=>rfl) _ _ (by kernel_rfl)
theorem P8 (n:Nat):Enters Tryz.prog 32:=enters_of (c:=ba Tryz.f32) Tryz.func32 (by kernel_rfl) (by kernel_rfl)
def tV (n:Nat):Entry:=⟨32,pcT (.pair (.int .i64) .unit) (.one .bool) (fun xs=>PS n xs.1),none,none⟩
theorem rcb (n:Nat):EntryOk Tryz.prog gl (tV n):=wa (P8 n) fun xs y h=>ma tys_ok (RB n) mixed (hint:=nL n) (n:=n) Tryz.func32 (ya (r4 n)) (la (φ:=(fun y=>some (Out.ret (Ya (.one .bool) y)))) (by kernel_rfl) (Rfb n xs.1 _) h)
def eI (n:Nat):List Entry:=tV n::QB n
theorem WF (n:Nat):AllOk Tryz.prog gl (eI n):=.cons (rcb n) (RB n)
def Ex (n:Nat) {R:Type} (c:Int) (k:Bool→Option R):Option R:=if (decide (c≥(97:Int)))=true then if (decide (c≤(122:Int)))=false then if (decide (c≥(65:Int)))=true then k (decide (c≤(90:Int))) else k false else k true else if (decide (c≥(65:Int)))=true then k (decide (c≤(90:Int))) else k false
def Wv (n:Nat) (c:Int):Option Bool:=Ex n c some
theorem Acb (n:Nat) {S:Type}:∀ c (φ:_→Option S),(Wv n c).bind φ=Ex n c φ:=by
  intros;unfold Wv Ex;first | (simp only [ja,fa,iB,bB,oL,oX,nB,Option.bind_some]) | rfl
def eG (n:Nat):Hint Out:={ live:=fun c=>[],run:=fun c=>none,xm:=fun c q=>none }
theorem xY (n:Nat):qa tys (ia Out (eI n)) (eG n) n (ba Tryz.f115) 0:=na (fun _=>rfl) _ _ (by kernel_rfl)
theorem H4 (n:Nat):Enters Tryz.prog 115:=enters_of (c:=ba Tryz.f115) Tryz.func115 (by kernel_rfl) (by kernel_rfl)
def rQ (n:Nat):Entry:=⟨115,pcT (.pair (.int .u8) .unit) (.one .bool) (fun xs=>Wv n xs.1),none,none⟩
theorem d9 (n:Nat):EntryOk Tryz.prog gl (rQ n):=wa (H4 n) fun xs y h=>ma tys_ok (WF n) mixed (hint:=eG n) (n:=n) Tryz.func115 (ya (xY n)) (la (φ:=(fun y=>some (Out.ret (Ya (.one .bool) y)))) (by kernel_rfl) (Acb n xs.1 _) h)
def Rl (n:Nat):List Entry:=rQ n::eI n
theorem XB (n:Nat):AllOk Tryz.prog gl (Rl n):=.cons (d9 n) (WF n)
def Ro (n:Nat) {R:Type} (c1:Int) (s:BA) (i:Int) (kn:Int→BA→Int→Option R) (ko:(Unit)→Option R) (kr:(Bool)→Option R) (kp:Int→Option R):Option R:=if (decide (i<(s.size:Int)))=true then if 0≤i∧i<(s.size:Int) then if ((bt s i)==c1)=true then kr true else kn c1 s (IntKind.wrap .i64 (i+(1:Int))) else none else ko ()
def fe (n:Nat):Nat→Int→BA→Int→Option (Lx (Unit) (Bool))
 | 0,_,_,_=>none
 | m+1,c1,s,i=>Ro n c1 s i (fe n m) (fun a=>some (.out a)) (fun a=>some (.ret a)) (fun p=>some (.pan p))
theorem n9 (n m:Nat) {S:Type}:∀ c1 s i (φ:_→Option S),(fe n (m+1) c1 s i).bind φ=Ro n c1 s i (fun c1 s i=>(fe n m c1 s i).bind φ) (fun a=>φ (.out a)) (fun a=>φ (.ret a)) (fun p=>φ (.pan p)):=by
  intros;first | (simp only [fe,Ro,ja,fa,iB,bB,oL,oX,nB,Option.bind_some]) | rfl
def Kx:List Sl:=.dat (.int .u8)::.top::.top::.dat .str::.dat (.int .i64)::tp 11 []
def Ix:List RS:=[]
def pO:List Sl:=tp 16 []
def oO:List RS:=[]
def rO:List Sl:=.top::.top::.dat .bool::tp 13 []
def qO:List RS:=[]
def cg (K:XE→List AV→oa→Option Out):Lx (Unit) (Bool)→Option Out:=fun x=>onL x (fun a=>yb pO oO () () (K (.exit 0))) (fun a=>yb rO qO (a,()) () (K .ret)) (fun _=>none)
def aM (n:Nat) {R:Type} (c:Int) (k:Bool→Option R):Option R:=(fe n n c (⟨#[33,35,36,37,38,39,42,43,45,47,61,63,94,95,96,123,124,125,126]⟩:BA) (0:Int)).bind fun x_1=>onL x_1 (fun a_2=>k false) (fun a_3=>k a_3) (fun _=>none)
def nO (n:Nat) (c:Int):Option Bool:=aM n c some
theorem Dib (n:Nat) {S:Type}:∀ c (φ:_→Option S),(nO n c).bind φ=aM n c φ:=by
  intros;unfold nO aM;first | (simp only [ja,fa,iB,bB,oL,oX,nB,Option.bind_some]) | rfl
def ws (n:Nat):Hint Out:={ live:=fun c=>(cond (Nat.beq c 0) (lv [0,3,4]) []),run:=fun c=>(cond (Nat.beq c 0) (some (ef Kx Ix fun σ ρ K=>(fe n n σ.1 σ.2.1 σ.2.2.1).bind (cg K))) none),xm:=fun c q=>(cond (Nat.beq c 0&&Nat.beq (q.getD 1000000) 0&&q.isSome) (some []) (cond (Nat.beq c 1&&q.isNone) (some [(2,none)]) none)) }
def ss (n:Nat) (K:XE→List AV→oa→Option Out) (m:Nat) (c1:Int) (s:BA) (i:Int):Option Out:=Kb tys (ia Out (Rl n)) (ws n) n (ra [1,1,0,1,0,0] (ba Tryz.f116)) 0 Kx Ix K m (c1,(s,(i,()))) ()
theorem tQ (n:Nat) (K:XE→List AV→oa→Option Out):∀ (m:Nat) c1 s i,ss n K m c1 s i=(fe n m c1 s i).bind (cg K)
  | 0,_,_,_=>by kernel_rfl
  | m+1,c1,s,i=>by
    have h1:ss n K (m+1) c1 s i=Ro n c1 s i (ss n K m) (fun a=>cg K (.out a)) (fun a=>cg K (.ret a)) (fun p=>cg K (.pan p)):=by kernel_rfl
    have h2:ss n K m=fun c1 s i=>(fe n m c1 s i).bind (cg K):=by
      repeat (refine funext fun _=>?_)
      exact tQ n K m _ _ _
    rw [h1,h2];exact (n9 n m _ _ _ (cg K)).symm
theorem P4 (n:Nat):ub tys (ia Out (Rl n)) (ws n) n (ra [1,1,0,1,0,0] (ba Tryz.f116)) 0:=Aa (sp:=Kx) (rp:=Ix) (by kernel_rfl) fun K σ ρ=>tQ n K n σ.1 σ.2.1 σ.2.2.1
theorem o9 (n:Nat):qa tys (ia Out (Rl n)) (ws n) n (ba Tryz.f116) 0:=⟨aa,⟨aa,⟨⟨aa,⟨P4 n,⟨⟨aa,⟨aa,aa⟩⟩,⟨⟨aa,⟨⟨aa,aa⟩,aa⟩⟩,aa⟩⟩⟩⟩,⟨aa,aa⟩⟩⟩⟩
theorem Ecb (n:Nat):Enters Tryz.prog 116:=enters_of (c:=ba Tryz.f116) Tryz.func116 (by kernel_rfl) (by kernel_rfl)
def FZ (n:Nat):Entry:=⟨116,pcT (.pair (.int .u8) .unit) (.one .bool) (fun xs=>nO n xs.1),none,none⟩
theorem agb (n:Nat):EntryOk Tryz.prog gl (FZ n):=wa (Ecb n) fun xs y h=>ma tys_ok (XB n) mixed (hint:=ws n) (n:=n) Tryz.func116 (ya (o9 n)) (la (φ:=(fun y=>some (Out.ret (Ya (.one .bool) y)))) (by kernel_rfl) (Dib n xs.1 _) h)
def rk (n:Nat):List Entry:=FZ n::Rl n
theorem bM (n:Nat):AllOk Tryz.prog gl (rk n):=.cons (agb n) (XB n)
def qk (n:Nat) {R:Type} (l1:(Sq BA)) (i1 k0:Int) (kn:(Sq BA)→Int→Int→Option R) (ko:((Sq BA)×Int)→Option R) (kr:(Bool)→Option R) (kp:Int→Option R):Option R:=if 0≤i1∧i1<(l1.n:Int) then if (decide (k0<((l1.at' (Int.toNat i1)).size:Int)))=true then if 0≤i1∧i1<(l1.n:Int) then if 0≤k0∧k0<((l1.at' (Int.toNat i1)).size:Int) then (Wv n (bt (l1.at' (Int.toNat i1)) k0)).bind fun v1=>if (!v1)=true then if 0≤i1∧i1<(l1.n:Int) then if 0≤k0∧k0<((l1.at' (Int.toNat i1)).size:Int) then (qo n (bt (l1.at' (Int.toNat i1)) k0)).bind fun v2=>if (!v2)=true then if 0≤i1∧i1<(l1.n:Int) then if 0≤k0∧k0<((l1.at' (Int.toNat i1)).size:Int) then (nO n (bt (l1.at' (Int.toNat i1)) k0)).bind fun v3=>if (!v3)=true then kr false else kn l1 i1 (IntKind.wrap .i64 (k0+(1:Int))) else none else none else kn l1 i1 (IntKind.wrap .i64 (k0+(1:Int))) else none else none else kn l1 i1 (IntKind.wrap .i64 (k0+(1:Int))) else none else none else ko (l1,i1) else none
def cd (n:Nat):Nat→(Sq BA)→Int→Int→Option (Lx ((Sq BA)×Int) (Bool))
 | 0,_,_,_=>none
 | m+1,l1,i1,k0=>qk n l1 i1 k0 (cd n m) (fun a=>some (.out a)) (fun a=>some (.ret a)) (fun p=>some (.pan p))
theorem L4 (n m:Nat) {S:Type}:∀ l1 i1 k0 (φ:_→Option S),(cd n (m+1) l1 i1 k0).bind φ=qk n l1 i1 k0 (fun l1 i1 k0=>(cd n m l1 i1 k0).bind φ) (fun a=>φ (.out a)) (fun a=>φ (.ret a)) (fun p=>φ (.pan p)):=by
  intros;first | (simp only [cd,qk,ja,fa,iB,bB,oL,oX,nB,Option.bind_some]) | rfl
def wu:List Sl:=.top::.top::.top::.dat (.sl .str)::.dat (.int .i64)::.dat (.int .i64)::tp 50 []
def vu:List RS:=[]
def UL:List Sl:=.top::.top::.top::.dat (.sl .str)::.dat (.int .i64)::tp 51 []
def TL:List RS:=[]
def WL:List Sl:=.top::.top::.dat .bool::tp 53 []
def VL:List RS:=[]
def Re (K:XE→List AV→oa→Option Out):Lx ((Sq BA)×Int) (Bool)→Option Out:=fun x=>onL x (fun a=>yb UL TL (a.1,(a.2,())) () (K (.exit 2))) (fun a=>yb WL VL (a,()) () (K .ret)) (fun _=>none)
def nk (n:Nat) {R:Type} (l:(Sq BA)) (i:Int) (kn:(Sq BA)→Int→Option R) (ko:(Unit)→Option R) (kr:(Bool)→Option R) (kp:Int→Option R):Option R:=if (decide (i<(l.n:Int)))=true then if 0≤i∧i<(l.n:Int) then if ((l.at' (Int.toNat i)).toList==(⟨#[]⟩:BA).toList)=true then kr false else (cd n n l i (0:Int)).bind fun x_1=>onL x_1 (fun a_2=>kn a_2.1 (IntKind.wrap .i64 (a_2.2+(1:Int)))) (fun a_3=>kr a_3) (fun _=>none) else none else ko ()
def bd (n:Nat):Nat→(Sq BA)→Int→Option (Lx (Unit) (Bool))
 | 0,_,_=>none
 | m+1,l,i=>nk n l i (bd n m) (fun a=>some (.out a)) (fun a=>some (.ret a)) (fun p=>some (.pan p))
theorem J4 (n m:Nat) {S:Type}:∀ l i (φ:_→Option S),(bd n (m+1) l i).bind φ=nk n l i (fun l i=>(bd n m l i).bind φ) (fun a=>φ (.out a)) (fun a=>φ (.ret a)) (fun p=>φ (.pan p)):=by
  intros;first | (simp only [bd,nk,ja,fa,iB,bB,oL,oX,nB,Option.bind_some]) | rfl
def uu:List Sl:=.top::.top::.top::.dat (.sl .str)::.dat (.int .i64)::tp 51 []
def tu:List RS:=[]
def PL:List Sl:=tp 56 []
def OL:List RS:=[]
def RL:List Sl:=.top::.top::.dat .bool::tp 53 []
def QL:List RS:=[]
def Qe (K:XE→List AV→oa→Option Out):Lx (Unit) (Bool)→Option Out:=fun x=>onL x (fun a=>yb PL OL () () (K (.exit 0))) (fun a=>yb RL QL (a,()) () (K .ret)) (fun _=>none)
def YD (n:Nat) {R:Type} (s:BA) (k:Bool→Option R):Option R:=(Un n s (46:Int)).bind fun v=>(bd n n v (0:Int)).bind fun x_1=>onL x_1 (fun a_2=>k true) (fun a_3=>k a_3) (fun _=>none)
def ks (n:Nat) (s:BA):Option Bool:=YD n s some
theorem Yfb (n:Nat) {S:Type}:∀ s (φ:_→Option S),(ks n s).bind φ=YD n s φ:=by
  intros;unfold ks YD;first | (simp only [ja,fa,iB,bB,oL,oX,nB,Option.bind_some]) | rfl
def Dg (n:Nat):Hint Out:={ live:=fun c=>(cond (Nat.beq c 0) [(3,some (.sl .str)),(4,none)] (cond (Nat.beq c 2) [(3,some (.sl .str)),(4,none),(5,none)] [])),run:=fun c=>(cond (Nat.beq c 0) (some (ef uu tu fun σ ρ K=>(bd n n σ.1 σ.2.1).bind (Qe K))) (cond (Nat.beq c 2) (some (ef wu vu fun σ ρ K=>(cd n n σ.1 σ.2.1 σ.2.2.1).bind (Re K))) none)),xm:=fun c q=>(cond (Nat.beq c 0&&Nat.beq (q.getD 1000000) 0&&q.isSome) (some []) (cond (Nat.beq c 2&&Nat.beq (q.getD 1000000) 2&&q.isSome) (some [(3,some (.sl .str)),(4,none)]) (cond (Nat.beq c 3&&q.isNone) (some [(2,none)]) (cond (Nat.beq c 1&&q.isNone) (some [(2,none)]) none)))) }
def yo (n:Nat) (K:XE→List AV→oa→Option Out) (m:Nat) (l1:(Sq BA)) (i1:Int) (k0:Int):Option Out:=Kb tys (ia Out (rk n)) (Dg n) n (ra [1,1,0,1,0,0,1,0,0,1,1,0,0] (ba Tryz.f86)) 2 wu vu K m (l1,(i1,(k0,()))) ()
theorem SL (n:Nat) (K:XE→List AV→oa→Option Out):∀ (m:Nat) l1 i1 k0,yo n K m l1 i1 k0=(cd n m l1 i1 k0).bind (Re K)
  | 0,_,_,_=>by kernel_rfl
  | m+1,l1,i1,k0=>by
    have h1:yo n K (m+1) l1 i1 k0=qk n l1 i1 k0 (yo n K m) (fun a=>Re K (.out a)) (fun a=>Re K (.ret a)) (fun p=>Re K (.pan p)):=by kernel_rfl
    have h2:yo n K m=fun l1 i1 k0=>(cd n m l1 i1 k0).bind (Re K):=by
      repeat (refine funext fun _=>?_)
      exact SL n K m _ _ _
    rw [h1,h2];exact (L4 n m _ _ _ (Re K)).symm
theorem AY (n:Nat):ub tys (ia Out (rk n)) (Dg n) n (ra [1,1,0,1,0,0,1,0,0,1,1,0,0] (ba Tryz.f86)) 2:=Aa (sp:=wu) (rp:=vu) (by kernel_rfl) fun K σ ρ=>SL n K n σ.1 σ.2.1 σ.2.2.1
def xo (n:Nat) (K:XE→List AV→oa→Option Out) (m:Nat) (l:(Sq BA)) (i:Int):Option Out:=Kb tys (ia Out (rk n)) (Dg n) n (ra [1,1,0,1,0,0] (ba Tryz.f86)) 0 uu tu K m (l,(i,())) ()
theorem NL (n:Nat) (K:XE→List AV→oa→Option Out):∀ (m:Nat) l i,xo n K m l i=(bd n m l i).bind (Qe K)
  | 0,_,_=>by kernel_rfl
  | m+1,l,i=>by
    have h1:xo n K (m+1) l i=nk n l i (xo n K m) (fun a=>Qe K (.out a)) (fun a=>Qe K (.ret a)) (fun p=>Qe K (.pan p)):=by kernel_rfl
    have h2:xo n K m=fun l i=>(bd n m l i).bind (Qe K):=by
      repeat (refine funext fun _=>?_)
      exact NL n K m _ _
    rw [h1,h2];exact (J4 n m _ _ (Qe K)).symm
theorem zY (n:Nat):ub tys (ia Out (rk n)) (Dg n) n (ra [1,1,0,1,0,0] (ba Tryz.f86)) 0:=Aa (sp:=uu) (rp:=tu) (by kernel_rfl) fun K σ ρ=>NL n K n σ.1 σ.2.1
theorem M4 (n:Nat):qa tys (ia Out (rk n)) (Dg n) n (ba Tryz.f86) 0:=⟨aa,⟨aa,⟨⟨aa,⟨zY n,⟨⟨aa,⟨aa,aa⟩⟩,⟨⟨⟨aa,⟨⟨aa,aa⟩,aa⟩⟩,⟨aa,⟨AY n,⟨⟨aa,⟨aa,aa⟩⟩,⟨⟨aa,⟨⟨aa,aa⟩,aa⟩⟩,aa⟩⟩⟩⟩⟩,aa⟩⟩⟩⟩,⟨aa,aa⟩⟩⟩⟩
theorem l9 (n:Nat):Enters Tryz.prog 86:=enters_of (c:=ba Tryz.f86) Tryz.func86 (by kernel_rfl) (by kernel_rfl)
def JV (n:Nat):Entry:=⟨86,pcT (.pair .str .unit) (.one .bool) (fun xs=>ks n xs.1),none,none⟩
theorem Ccb (n:Nat):EntryOk Tryz.prog gl (JV n):=wa (l9 n) fun xs y h=>ma tys_ok (bM n) mixed (hint:=Dg n) (n:=n) Tryz.func86 (ya (M4 n)) (la (φ:=(fun y=>some (Out.ret (Ya (.one .bool) y)))) (by kernel_rfl) (Yfb n xs.1 _) h)
def iq (n:Nat):List Entry:=JV n::rk n
theorem fG (n:Nat):AllOk Tryz.prog gl (iq n):=.cons (Ccb n) (bM n)
def Yb (n:Nat) {R:Type} (s1:BA) (i:Int) (b:(Sq Int)) (kn:BA→Int→(Sq Int)→Option R) (ko:(Unit)→Option R) (kr:(BA×Int×Bool)→Option R) (kp:Int→Option R):Option R:=if (decide (i<(s1.size:Int)))=true then if 0≤i∧i<(s1.size:Int) then if ((bt s1 i)==(34:Int))=true then kr ((nw b.n b.at'),(IntKind.wrap .i64 (i+(1:Int))),true) else if ((bt s1 i)==(92:Int))=true then if (decide ((IntKind.wrap .i64 (i+(1:Int)))≥(s1.size:Int)))=true then ko () else if 0≤(IntKind.wrap .i64 (i+(1:Int)))∧(IntKind.wrap .i64 (i+(1:Int)))<(s1.size:Int) then if (decide ((bt s1 (IntKind.wrap .i64 (i+(1:Int))))<(32:Int)))=false then if (decide ((bt s1 (IntKind.wrap .i64 (i+(1:Int))))>(126:Int)))=true then ko () else if ib (b.n+1) 1=true then kn s1 (IntKind.wrap .i64 ((IntKind.wrap .i64 (i+(1:Int)))+(1:Int))) (⟨(b.n+1),fun q=>if q<b.n then b.at' q else (fun q=>List.getD (α:=Int) [(bt s1 (IntKind.wrap .i64 (i+(1:Int))))] q (ta (.int .u8))) (q - b.n)⟩:Sq Int) else none else ko () else none else if (decide ((bt s1 i)<(32:Int)))=false then if (decide ((bt s1 i)>(126:Int)))=true then ko () else if ib (b.n+1) 1=true then kn s1 (IntKind.wrap .i64 (i+(1:Int))) (⟨(b.n+1),fun q=>if q<b.n then b.at' q else (fun q=>List.getD (α:=Int) [(bt s1 i)] q (ta (.int .u8))) (q - b.n)⟩:Sq Int) else none else
 ko () else none else ko ()
def Ha (n:Nat):Nat→BA→Int→(Sq Int)→Option (Lx (Unit) (BA×Int×Bool))
 | 0,_,_,_=>none
 | m+1,s1,i,b=>Yb n s1 i b (Ha n m) (fun a=>some (.out a)) (fun a=>some (.ret a)) (fun p=>some (.pan p))
theorem F4 (n m:Nat) {S:Type}:∀ s1 i b (φ:_→Option S),(Ha n (m+1) s1 i b).bind φ=Yb n s1 i b (fun s1 i b=>(Ha n m s1 i b).bind φ) (fun a=>φ (.out a)) (fun a=>φ (.ret a)) (fun p=>φ (.pan p)):=by
  intros;first | (simp only [Ha,Yb,ja,fa,iB,bB,oL,oX,nB,Option.bind_some]) | rfl
def su:List Sl:=.dat .str::tp 4 (.row 0::.dat (.int .i64)::tp 37 [])
def ru:List RS:=[.row 5 1 (.int .u8) true false]
def JL:List Sl:=tp 44 []
def IL:List RS:=[]
def LL:List Sl:=.top::.top::.dat .str::.dat (.int .i64)::.dat .bool::tp 39 []
def KL:List RS:=[]
def Pe (K:XE→List AV→oa→Option Out):Lx (Unit) (BA×Int×Bool)→Option Out:=fun x=>onL x (fun a=>yb JL IL () () (K (.exit 0))) (fun a=>yb LL KL (a.1,(a.2.1,(a.2.2,()))) () (K .ret)) (fun _=>none)
def VD (n:Nat) {R:Type} (s:BA) (k:(BA×Int×Bool×Unit)→Option R):Option R:=(Ha n n s (1:Int) (⟨0,fun _=>ta (.int .u8)⟩:Sq Int)).bind fun x_1=>onL x_1 (fun a_2=>k ((⟨#[]⟩:BA),((0:Int),(false,())))) (fun a_3=>k (a_3.1,(a_3.2.1,(a_3.2.2,())))) (fun _=>none)
def js (n:Nat) (s:BA):Option (BA×Int×Bool×Unit):=VD n s some
theorem Xfb (n:Nat) {S:Type}:∀ s (φ:_→Option S),(js n s).bind φ=VD n s φ:=by
  intros;unfold js VD;first | (simp only [ja,fa,iB,bB,oL,oX,nB,Option.bind_some]) | rfl
def uo (n:Nat):Hint Out:={ live:=fun c=>(cond (Nat.beq c 0) [(0,none),(5,some (.sl (.int .u8))),(6,none)] []),run:=fun c=>(cond (Nat.beq c 0) (some (ef su ru fun σ ρ K=>(Ha n n σ.1 σ.2.1 ρ.1).bind (Pe K))) none),xm:=fun c q=>(cond (Nat.beq c 0&&Nat.beq (q.getD 1000000) 0&&q.isSome) (some []) (cond (Nat.beq c 1&&Nat.beq (q.getD 1000000) 0&&q.isSome) (some []) (cond (Nat.beq c 1&&q.isNone) (some (lv [2,3,4])) none))) }
def ro (n:Nat) (K:XE→List AV→oa→Option Out) (m:Nat) (s1:BA) (i:Int) (b:(Sq Int)):Option Out:=Kb tys (ia Out (iq n)) (uo n) n (ra [1,1,0,1,0,0] (ba Tryz.f87)) 0 su ru K m (s1,(i,())) (b,())
theorem HL (n:Nat) (K:XE→List AV→oa→Option Out):∀ (m:Nat) s1 i b,ro n K m s1 i b=(Ha n m s1 i b).bind (Pe K)
  | 0,_,_,_=>by kernel_rfl
  | m+1,s1,i,b=>by
    have h1:ro n K (m+1) s1 i b=Yb n s1 i b (ro n K m) (fun a=>Pe K (.out a)) (fun a=>Pe K (.ret a)) (fun p=>Pe K (.pan p)):=by kernel_rfl
    have h2:ro n K m=fun s1 i b=>(Ha n m s1 i b).bind (Pe K):=by
      repeat (refine funext fun _=>?_)
      exact HL n K m _ _ _
    rw [h1,h2];exact (F4 n m _ _ _ (Pe K)).symm
theorem wY (n:Nat):ub tys (ia Out (iq n)) (uo n) n (ra [1,1,0,1,0,0] (ba Tryz.f87)) 0:=Aa (sp:=su) (rp:=ru) (by kernel_rfl) fun K σ ρ=>HL n K n σ.1 σ.2.1 ρ.1
theorem G4 (n:Nat):qa tys (ia Out (iq n)) (uo n) n (ba Tryz.f87) 0:=⟨aa,⟨aa,⟨⟨aa,⟨wY n,⟨⟨aa,⟨aa,aa⟩⟩,⟨⟨aa,⟨⟨aa,⟨⟨aa,aa⟩,aa⟩⟩,⟨⟨aa,⟨⟨aa,⟨⟨aa,⟨aa,aa⟩⟩,aa⟩⟩,aa⟩⟩,⟨⟨aa,⟨aa,aa⟩⟩,aa⟩⟩⟩⟩,aa⟩⟩⟩⟩,⟨aa,aa⟩⟩⟩⟩
theorem b9 (n:Nat):Enters Tryz.prog 87:=enters_of (c:=ba Tryz.f87) Tryz.func87 (by kernel_rfl) (by kernel_rfl)
def FV (n:Nat):Entry:=⟨87,pcT (.pair .str .unit) (.many (.pair .str (.pair (.int .i64) (.pair .bool .unit)))) (fun xs=>js n xs.1),none,none⟩
theorem zcb (n:Nat):EntryOk Tryz.prog gl (FV n):=wa (b9 n) fun xs y h=>ma tys_ok (fG n) mixed (hint:=uo n) (n:=n) Tryz.func87 (ya (G4 n)) (la (φ:=(fun y=>some (Out.ret (Ya (.many (.pair .str (.pair (.int .i64) (.pair .bool .unit)))) y)))) (by kernel_rfl) (Xfb n xs.1 _) h)
def gq (n:Nat):List Entry:=FV n::iq n
theorem dG (n:Nat):AllOk Tryz.prog gl (gq n):=.cons (zcb n) (fG n)
def bg (n:Nat) {R:Type} (s1 q:BA) (i:Int) (kn:BA→BA→Int→Option R) (ko:(BA)→Option R) (kr:Unit→Option R) (kp:Int→Option R):Option R:=if (decide (i<(s1.size:Int)))=true then if 0≤i∧i<(s1.size:Int) then if ((bt s1 i)==(34:Int))=false then if 0≤i∧i<(s1.size:Int) then if ((bt s1 i)==(92:Int))=true then if Sa q (⟨#[92]⟩:BA)=true then if 0≤(IntKind.wrap .i64 (i+(1:Int)))∧(IntKind.wrap .i64 (i+(1:Int)))≤(s1.size:Int) then if 0≤i∧i≤(IntKind.wrap .i64 (i+(1:Int))) then if Sa (q++(⟨#[92]⟩:BA)) (s1.extract (Int.toNat i) (Int.toNat (IntKind.wrap .i64 (i+(1:Int)))))=true then kn s1 ((q++(⟨#[92]⟩:BA))++(s1.extract (Int.toNat i) (Int.toNat (IntKind.wrap .i64 (i+(1:Int)))))) (IntKind.wrap .i64 (i+(1:Int))) else none else none else none else none else if 0≤(IntKind.wrap .i64 (i+(1:Int)))∧(IntKind.wrap .i64 (i+(1:Int)))≤(s1.size:Int) then if 0≤i∧i≤(IntKind.wrap .i64 (i+(1:Int))) then if Sa q (s1.extract (Int.toNat i) (Int.toNat (IntKind.wrap .i64 (i+(1:Int)))))=true then kn s1 (q++(s1.extract (Int.toNat i) (Int.toNat (IntKind.wrap .i64 (i+(1:Int)))))) (IntKind.wrap .i64 (i+(1:Int))) else none else none else none else none else if Sa q (⟨#[92]⟩:BA)=true then if 0≤(IntKind.wrap .i64 (i+(1:Int)))∧(IntKind.wrap .i64 (i+(1:Int)))≤(s1.size:Int) then
 if 0≤i∧i≤(IntKind.wrap .i64 (i+(1:Int))) then if Sa (q++(⟨#[92]⟩:BA)) (s1.extract (Int.toNat i) (Int.toNat (IntKind.wrap .i64 (i+(1:Int)))))=true then kn s1 ((q++(⟨#[92]⟩:BA))++(s1.extract (Int.toNat i) (Int.toNat (IntKind.wrap .i64 (i+(1:Int)))))) (IntKind.wrap .i64 (i+(1:Int))) else none else none else none else none else none else ko q
def Zb (n:Nat):Nat→BA→BA→Int→Option (Lx (BA) Unit)
 | 0,_,_,_=>none
 | m+1,s1,q,i=>bg n s1 q i (Zb n m) (fun a=>some (.out a)) (fun a=>some (.ret a)) (fun p=>some (.pan p))
theorem N4 (n m:Nat) {S:Type}:∀ s1 q i (φ:_→Option S),(Zb n (m+1) s1 q i).bind φ=bg n s1 q i (fun s1 q i=>(Zb n m s1 q i).bind φ) (fun a=>φ (.out a)) (fun a=>φ (.ret a)) (fun p=>φ (.pan p)):=by
  intros;first | (simp only [Zb,bg,ja,fa,iB,bB,oL,oX,nB,Option.bind_some]) | rfl
def zu:List Sl:=.dat .str::.top::.top::.dat .str::.dat (.int .i64)::tp 27 []
def xu:List RS:=[]
def ZL:List Sl:=.top::.top::.top::.dat .str::tp 28 []
def YL:List RS:=[]
def Se (K:XE→List AV→oa→Option Out):Lx (BA) Unit→Option Out:=fun x=>onL x (fun a=>yb ZL YL (a,()) () (K (.exit 0))) (fun _=>none) (fun _=>none)
def ZD (n:Nat) {R:Type} (s:BA) (k:BA→Option R):Option R:=(Zb n n s (⟨#[34]⟩:BA) (0:Int)).bind fun x_1=>onL x_1 (fun a_2=>if Sa a_2 (⟨#[34]⟩:BA)=true then k (a_2++(⟨#[34]⟩:BA)) else none) (fun _=>none) (fun _=>none)
def Gx (n:Nat) (s:BA):Option BA:=ZD n s some
theorem Zfb (n:Nat) {S:Type}:∀ s (φ:_→Option S),(Gx n s).bind φ=ZD n s φ:=by
  intros;unfold Gx ZD;first | (simp only [ja,fa,iB,bB,oL,oX,nB,Option.bind_some]) | rfl
def Ao (n:Nat):Hint Out:={ live:=fun c=>(cond (Nat.beq c 0) (lv [0,3,4]) []),run:=fun c=>(cond (Nat.beq c 0) (some (ef zu xu fun σ ρ K=>(Zb n n σ.1 σ.2.1 σ.2.2.1).bind (Se K))) none),xm:=fun c q=>(cond (Nat.beq c 0&&Nat.beq (q.getD 1000000) 0&&q.isSome) (some [(3,none)]) none) }
def zo (n:Nat) (K:XE→List AV→oa→Option Out) (m:Nat) (s1:BA) (q:BA) (i:Int):Option Out:=Kb tys (ia Out (gq n)) (Ao n) n (ra [1,1,0,1,0,0] (ba Tryz.f88)) 0 zu xu K m (s1,(q,(i,()))) ()
theorem XL (n:Nat) (K:XE→List AV→oa→Option Out):∀ (m:Nat) s1 q i,zo n K m s1 q i=(Zb n m s1 q i).bind (Se K)
  | 0,_,_,_=>by kernel_rfl
  | m+1,s1,q,i=>by
    have h1:zo n K (m+1) s1 q i=bg n s1 q i (zo n K m) (fun a=>Se K (.out a)) (fun a=>Se K (.ret a)) (fun p=>Se K (.pan p)):=by kernel_rfl
    have h2:zo n K m=fun s1 q i=>(Zb n m s1 q i).bind (Se K):=by
      repeat (refine funext fun _=>?_)
      exact XL n K m _ _ _
    rw [h1,h2];exact (N4 n m _ _ _ (Se K)).symm
theorem BY (n:Nat):ub tys (ia Out (gq n)) (Ao n) n (ra [1,1,0,1,0,0] (ba Tryz.f88)) 0:=Aa (sp:=zu) (rp:=xu) (by kernel_rfl) fun K σ ρ=>XL n K n σ.1 σ.2.1 σ.2.2.1
theorem O4 (n:Nat):qa tys (ia Out (gq n)) (Ao n) n (ba Tryz.f88) 0:=⟨aa,⟨aa,⟨⟨aa,⟨BY n,⟨⟨aa,⟨aa,aa⟩⟩,⟨⟨⟨aa,⟨aa,aa⟩⟩,aa⟩,aa⟩⟩⟩⟩,⟨aa,aa⟩⟩⟩⟩
theorem m9 (n:Nat):Enters Tryz.prog 88:=enters_of (c:=ba Tryz.f88) Tryz.func88 (by kernel_rfl) (by kernel_rfl)
def KV (n:Nat):Entry:=⟨88,pcT (.pair .str .unit) (.one .str) (fun xs=>Gx n xs.1),none,none⟩
theorem Dcb (n:Nat):EntryOk Tryz.prog gl (KV n):=wa (m9 n) fun xs y h=>ma tys_ok (dG n) mixed (hint:=Ao n) (n:=n) Tryz.func88 (ya (O4 n)) (la (φ:=(fun y=>some (Out.ret (Ya (.one .str) y)))) (by kernel_rfl) (Zfb n xs.1 _) h)
def AI (n:Nat):List Entry:=KV n::gq n
theorem gG (n:Nat):AllOk Tryz.prog gl (AI n):=.cons (Dcb n) (dG n)
def SD (n:Nat) {R:Type} (s:BA) (k:Bool→Option R):Option R:=if (decide ((s.size:Int)<(1:Int)))=false then if (decide ((s.size:Int)>(64:Int)))=true then k false else if 0≤(0:Int)∧(0:Int)<(s.size:Int) then if ((bt s (0:Int)) !=(34:Int))=true then (ks n s).bind fun v=>k v else (js n s).bind fun v1=>if v1.2.2.1=true then if (v1.2.1==(s.size:Int))=true then (ks n v1.1).bind fun v2=>if (!v2)=true then (Gx n v1.1).bind fun v3=>k (v3.toList==s.toList) else k false else k false else k false else none else k false
def RD (n:Nat) (s:BA):Option Bool:=SD n s some
theorem Sfb (n:Nat) {S:Type}:∀ s (φ:_→Option S),(RD n s).bind φ=SD n s φ:=by
  intros;unfold RD SD;first | (simp only [ja,fa,iB,bB,oL,oX,nB,Option.bind_some]) | rfl
def qL (n:Nat):Hint Out:={ live:=fun c=>[],run:=fun c=>none,xm:=fun c q=>none }
theorem A4 (n:Nat):qa tys (ia Out (AI n)) (qL n) n (ba Tryz.f62) 0:=na (fun _=>rfl) _ _ (by kernel_rfl)
theorem T8 (n:Nat):Enters Tryz.prog 62:=enters_of (c:=ba Tryz.f62) Tryz.func62 (by kernel_rfl) (by kernel_rfl)
def zV (n:Nat):Entry:=⟨62,pcT (.pair .str .unit) (.one .bool) (fun xs=>RD n xs.1),none,none⟩
theorem tcb (n:Nat):EntryOk Tryz.prog gl (zV n):=wa (T8 n) fun xs y h=>ma tys_ok (gG n) mixed (hint:=qL n) (n:=n) Tryz.func62 (ya (A4 n)) (la (φ:=(fun y=>some (Out.ret (Ya (.one .bool) y)))) (by kernel_rfl) (Sfb n xs.1 _) h)
def oI (n:Nat):List Entry:=zV n::AI n
theorem ZF (n:Nat):AllOk Tryz.prog gl (oI n):=.cons (tcb n) (gG n)
def QS (n:Nat) {R:Type} (m0:U0) (k:Bool→Option R):Option R:=(RD n m0.1).bind fun v=>if v=true then (Si n m0.2.1).bind fun v1=>k v1 else k false
def vf (n:Nat) (m0:U0):Option Bool:=QS n m0 some
theorem Dkb (n:Nat) {S:Type}:∀ m0 (φ:_→Option S),(vf n m0).bind φ=QS n m0 φ:=by
  intros;unfold vf QS;first | (simp only [ja,fa,iB,bB,oL,oX,nB,Option.bind_some]) | rfl
def BV (n:Nat):Hint Out:={ live:=fun c=>[],run:=fun c=>none,xm:=fun c q=>none }
theorem ucb (n:Nat):qa tys (ia Out (oI n)) (BV n) n (ba Tryz.f33) 0:=na (fun _=>rfl) _ _ (by kernel_rfl)
theorem Tfb (n:Nat):Enters Tryz.prog 33:=enters_of (c:=ba Tryz.f33) Tryz.func33 (by kernel_rfl) (by kernel_rfl)
def V8 (n:Nat):Entry:=⟨33,pcT (.pair (.pair .str (.pair .str .unit)) .unit) (.one .bool) (fun xs=>vf n xs.1),none,none⟩
theorem zib (n:Nat):EntryOk Tryz.prog gl (V8 n):=wa (Tfb n) fun xs y h=>ma tys_ok (ZF n) mixed (hint:=BV n) (n:=n) Tryz.func33 (ya (ucb n)) (la (φ:=(fun y=>some (Out.ret (Ya (.one .bool) y)))) (by kernel_rfl) (Dkb n xs.1 _) h)
def TB (n:Nat):List Entry:=V8 n::oI n
theorem oQ (n:Nat):AllOk Tryz.prog gl (TB n):=.cons (zib n) (ZF n)
def Pn (n:Nat) {R:Type} (l1:(Sq U0)) (i:Int) (m01 m02:BA) (kn:(Sq U0)→Int→BA→BA→Option R) (ko:(Unit)→Option R) (kr:(Int)→Option R) (kp:Int→Option R):Option R:=if (decide (i<(l1.n:Int)))=true then if 0≤i∧i<(l1.n:Int) then if (((((l1.at' (Int.toNat i))).1).toList==m01.toList)&&((((((l1.at' (Int.toNat i))).2).1).toList==m02.toList)&&true))=true then kr i else kn l1 (IntKind.wrap .i64 (i+(1:Int))) m01 m02 else none else ko ()
def zd (n:Nat):Nat→(Sq U0)→Int→BA→BA→Option (Lx (Unit) (Int))
 | 0,_,_,_,_=>none
 | m+1,l1,i,m01,m02=>Pn n l1 i m01 m02 (zd n m) (fun a=>some (.out a)) (fun a=>some (.ret a)) (fun p=>some (.pan p))
theorem GU (n m:Nat) {S:Type}:∀ l1 i m01 m02 (φ:_→Option S),(zd n (m+1) l1 i m01 m02).bind φ=Pn n l1 i m01 m02 (fun l1 i m01 m02=>(zd n m l1 i m01 m02).bind φ) (fun a=>φ (.out a)) (fun a=>φ (.ret a)) (fun p=>φ (.pan p)):=by
  intros;first | (simp only [zd,Pn,ja,fa,iB,bB,oL,oX,nB,Option.bind_some]) | rfl
def vm:List Sl:=.dat (.sl (.pair .str (.pair .str .unit)))::.top::.top::.ptr 0 0 0::.top::.dat (.int .i64)::tp 13 []
def um:List RS:=[.box 25 2 true [.dat .str,.dat .str]]
def HE:List Sl:=tp 19 []
def GE:List RS:=[]
def JE:List Sl:=tp 4 (.dat (.int .i64)::tp 14 [])
def IE:List RS:=[]
def Wc (K:XE→List AV→oa→Option Out):Lx (Unit) (Int)→Option Out:=fun x=>onL x (fun a=>yb HE GE () () (K (.exit 0))) (fun a=>yb JE IE (a,()) () (K .ret)) (fun _=>none)
def mB (n:Nat) {R:Type} (l:(Sq U0)) (m0:U0) (k:Int→Option R):Option R:=(zd n n l (0:Int) m0.1 m0.2.1).bind fun x_1=>onL x_1 (fun a_2=>k (-1:Int)) (fun a_3=>k a_3) (fun _=>none)
def nf (n:Nat) (l:(Sq U0)) (m0:U0):Option Int:=mB n l m0 some
theorem w8 (n:Nat) {S:Type}:∀ l m0 (φ:_→Option S),(nf n l m0).bind φ=mB n l m0 φ:=by
  intros;unfold nf mB;first | (simp only [ja,fa,iB,bB,oL,oX,nB,Option.bind_some]) | rfl
def Oi (n:Nat):Hint Out:={ live:=fun c=>(cond (Nat.beq c 0) [(0,some (.sl (.pair .str (.pair .str .unit)))),(3,none),(5,none)] []),run:=fun c=>(cond (Nat.beq c 0) (some (ef vm um fun σ ρ K=>(zd n n σ.1 σ.2.1 ρ.1.1 ρ.1.2.1).bind (Wc K))) none),xm:=fun c q=>(cond (Nat.beq c 0&&Nat.beq (q.getD 1000000) 0&&q.isSome) (some []) (cond (Nat.beq c 1&&q.isNone) (some [(4,none)]) none)) }
def Mi (n:Nat) (K:XE→List AV→oa→Option Out) (m:Nat) (l1:(Sq U0)) (i:Int) (m01:BA) (m02:BA):Option Out:=Kb tys (ia Out (TB n)) (Oi n) n (ra [1,0,1,0,0] (ba Tryz.f34)) 0 vm um K m (l1,(i,())) ((m01,(m02,())),())
theorem oB (n:Nat) (K:XE→List AV→oa→Option Out):∀ (m:Nat) l1 i m01 m02,Mi n K m l1 i m01 m02=(zd n m l1 i m01 m02).bind (Wc K)
  | 0,_,_,_,_=>by kernel_rfl
  | m+1,l1,i,m01,m02=>by
    have h1:Mi n K (m+1) l1 i m01 m02=Pn n l1 i m01 m02 (Mi n K m) (fun a=>Wc K (.out a)) (fun a=>Wc K (.ret a)) (fun p=>Wc K (.pan p)):=by kernel_rfl
    have h2:Mi n K m=fun l1 i m01 m02=>(zd n m l1 i m01 m02).bind (Wc K):=by
      repeat (refine funext fun _=>?_)
      exact oB n K m _ _ _ _
    rw [h1,h2];exact (GU n m _ _ _ _ (Wc K)).symm
theorem kR (n:Nat):ub tys (ia Out (TB n)) (Oi n) n (ra [1,0,1,0,0] (ba Tryz.f34)) 0:=Aa (sp:=vm) (rp:=um) (by kernel_rfl) fun K σ ρ=>oB n K n σ.1 σ.2.1 ρ.1.1 ρ.1.2.1
theorem HU (n:Nat):qa tys (ia Out (TB n)) (Oi n) n (ba Tryz.f34) 0:=⟨aa,⟨⟨aa,⟨kR n,⟨⟨aa,⟨aa,aa⟩⟩,⟨⟨aa,⟨⟨aa,aa⟩,aa⟩⟩,aa⟩⟩⟩⟩,⟨aa,aa⟩⟩⟩
theorem YX (n:Nat):Enters Tryz.prog 34:=enters_of (c:=ba Tryz.f34) Tryz.func34 (by kernel_rfl) (by kernel_rfl)
def DK (n:Nat):Entry:=⟨34,pcT K6 (.one (.int .i64)) (fun xs=>nf n xs.1 xs.2.1),none,none⟩
theorem u3 (n:Nat):EntryOk Tryz.prog gl (DK n):=wa (YX n) fun xs y h=>ma tys_ok (oQ n) mixed (hint:=Oi n) (n:=n) Tryz.func34 (ya (HU n)) (la (φ:=(fun y=>some (Out.ret (Ya (.one (.int .i64)) y)))) (by kernel_rfl) (w8 n xs.1 xs.2.1 _) h)
def Ni (n:Nat):List Entry:=DK n::TB n
theorem Ry (n:Nat):AllOk Tryz.prog gl (Ni n):=.cons (u3 n) (oQ n)
def sx (n:Nat) {R:Type} (s1:BA) (i:Int) (kn:BA→Int→Option R) (ko:(BA)→Option R) (kr:(Bool)→Option R) (kp:Int→Option R):Option R:=if (decide (i<(s1.size:Int)))=true then if 0≤i∧i<(s1.size:Int) then if ((bt s1 i)==(13:Int))=false then if 0≤i∧i<(s1.size:Int) then if ((bt s1 i)==(10:Int))=true then kr false else kn s1 (IntKind.wrap .i64 (i+(1:Int))) else none else kr false else none else ko s1
def Vf (n:Nat):Nat→BA→Int→Option (Lx (BA) (Bool))
 | 0,_,_=>none
 | m+1,s1,i=>sx n s1 i (Vf n m) (fun a=>some (.out a)) (fun a=>some (.ret a)) (fun p=>some (.pan p))
theorem O3 (n m:Nat) {S:Type}:∀ s1 i (φ:_→Option S),(Vf n (m+1) s1 i).bind φ=sx n s1 i (fun s1 i=>(Vf n m s1 i).bind φ) (fun a=>φ (.out a)) (fun a=>φ (.ret a)) (fun p=>φ (.pan p)):=by
  intros;first | (simp only [Vf,sx,ja,fa,iB,bB,oL,oX,nB,Option.bind_some]) | rfl
def Zt:List Sl:=.dat .str::.top::.top::.dat (.int .i64)::tp 19 []
def Yt:List RS:=[]
def bL:List Sl:=.dat .str::tp 22 []
def aL:List RS:=[]
def dL:List Sl:=.top::.top::.dat .bool::tp 20 []
def cL:List RS:=[]
def Ne (K:XE→List AV→oa→Option Out):Lx (BA) (Bool)→Option Out:=fun x=>onL x (fun a=>yb bL aL (a,()) () (K (.exit 0))) (fun a=>yb dL cL (a,()) () (K .ret)) (fun _=>none)
def ZN (n:Nat) {R:Type} (s:BA) (k:Bool→Option R):Option R:=(Vf n n s (0:Int)).bind fun x_1=>onL x_1 (fun a_2=>k (decide ((a_2.size:Int)≤(509:Int)))) (fun a_3=>k a_3) (fun _=>none)
def MD (n:Nat) (s:BA):Option Bool:=ZN n s some
theorem Mfb (n:Nat) {S:Type}:∀ s (φ:_→Option S),(MD n s).bind φ=ZN n s φ:=by
  intros;unfold MD ZN;first | (simp only [ja,fa,iB,bB,oL,oX,nB,Option.bind_some]) | rfl
def co (n:Nat):Hint Out:={ live:=fun c=>(cond (Nat.beq c 0) [(0,none),(3,none)] []),run:=fun c=>(cond (Nat.beq c 0) (some (ef Zt Yt fun σ ρ K=>(Vf n n σ.1 σ.2.1).bind (Ne K))) none),xm:=fun c q=>(cond (Nat.beq c 0&&Nat.beq (q.getD 1000000) 0&&q.isSome) (some [(0,none)]) (cond (Nat.beq c 1&&q.isNone) (some [(2,none)]) none)) }
def bo (n:Nat) (K:XE→List AV→oa→Option Out) (m:Nat) (s1:BA) (i:Int):Option Out:=Kb tys (ia Out (Ni n)) (co n) n (ra [1,0,1,0,0] (ba Tryz.f35)) 0 Zt Yt K m (s1,(i,())) ()
theorem ZK (n:Nat) (K:XE→List AV→oa→Option Out):∀ (m:Nat) s1 i,bo n K m s1 i=(Vf n m s1 i).bind (Ne K)
  | 0,_,_=>by kernel_rfl
  | m+1,s1,i=>by
    have h1:bo n K (m+1) s1 i=sx n s1 i (bo n K m) (fun a=>Ne K (.out a)) (fun a=>Ne K (.ret a)) (fun p=>Ne K (.pan p)):=by kernel_rfl
    have h2:bo n K m=fun s1 i=>(Vf n m s1 i).bind (Ne K):=by
      repeat (refine funext fun _=>?_)
      exact ZK n K m _ _
    rw [h1,h2];exact (O3 n m _ _ (Ne K)).symm
theorem eY (n:Nat):ub tys (ia Out (Ni n)) (co n) n (ra [1,0,1,0,0] (ba Tryz.f35)) 0:=Aa (sp:=Zt) (rp:=Yt) (by kernel_rfl) fun K σ ρ=>ZK n K n σ.1 σ.2.1
theorem P3 (n:Nat):qa tys (ia Out (Ni n)) (co n) n (ba Tryz.f35) 0:=⟨aa,⟨⟨aa,⟨eY n,⟨⟨aa,⟨aa,aa⟩⟩,⟨⟨aa,⟨⟨aa,aa⟩,aa⟩⟩,aa⟩⟩⟩⟩,⟨aa,aa⟩⟩⟩
theorem D8 (n:Nat):Enters Tryz.prog 35:=enters_of (c:=ba Tryz.f35) Tryz.func35 (by kernel_rfl) (by kernel_rfl)
def UU (n:Nat):Entry:=⟨35,pcT (.pair .str .unit) (.one .bool) (fun xs=>MD n xs.1),none,none⟩
theorem icb (n:Nat):EntryOk Tryz.prog gl (UU n):=wa (D8 n) fun xs y h=>ma tys_ok (Ry n) mixed (hint:=co n) (n:=n) Tryz.func35 (ya (P3 n)) (la (φ:=(fun y=>some (Out.ret (Ya (.one .bool) y)))) (by kernel_rfl) (Mfb n xs.1 _) h)
def nb (n:Nat):List Entry:=UU n::Ni n
theorem JF (n:Nat):AllOk Tryz.prog gl (nb n):=.cons (icb n) (Ry n)
def au (n:Nat) {R:Type} (c1 c2 c3:Int) (c4:BA) (c5:Bool) (c6:Int) (c7:BA) (c8:Bool) (c9 c10:BA) (c11:(Sq U0)) (c12:(Sq BA)) (c13:Int) (c14:Bool) (ko:U1→Option R) (kr:(Bool)→Option R) (kp:Int→Option R):Option R:=if (decide (c1<(1:Int)))=false then if (decide (c1>(1099511627776:Int)))=false then (NU n c2 (3:Int)).bind fun v=>if (!v)=false then (NU n c3 (1099511627776:Int)).bind fun v1=>if (!v1)=false then (eL n (c4,(c5,()))).bind fun v2=>if (!v2)=false then if (decide (c6<(0:Int)))=false then if (decide (c6>(5:Int)))=false then if (decide ((c11.n:Int)>(8:Int)))=true then kr false else ko (c1,c2,c3,c4,c5,c6,c7,c8,c9,c10,c11,c12,c13,c14) else kr false else kr false else kr false else kr false else kr false else kr false else kr false
def zr (n:Nat) (c1 c2 c3:Int) (c4:BA) (c5:Bool) (c6:Int) (c7:BA) (c8:Bool) (c9 c10:BA) (c11:(Sq U0)) (c12:(Sq BA)) (c13:Int) (c14:Bool):Option (Lx U1 (Bool)):=au n c1 c2 c3 c4 c5 c6 c7 c8 c9 c10 c11 c12 c13 c14 (fun a=>some (.out a)) (fun a=>some (.ret a)) (fun p=>some (.pan p))
theorem lR (n:Nat) {S:Type}:∀ c1 c2 c3 c4 c5 c6 c7 c8 c9 c10 c11 c12 c13 c14 (φ:_→Option S),(zr n c1 c2 c3 c4 c5 c6 c7 c8 c9 c10 c11 c12 c13 c14).bind φ=au n c1 c2 c3 c4 c5 c6 c7 c8 c9 c10 c11 c12 c13 c14 (fun a=>φ (.out a)) (fun a=>φ (.ret a)) (fun p=>φ (.pan p)):=by
  intros;first | (simp only [zr,au,ja,fa,iB,bB,oL,oX,nB,Option.bind_some]) | rfl
def sB:List Sl:=.top::.ptr 0 0 0::tp 197 []
def rB:List RS:=[.box 29 14 true [.dat (.int .i64),.dat (.int .i64),.dat (.int .i64),.dat .str,.dat .bool,.dat (.int .i64),.dat .str,.dat .bool,.dat .str,.dat .str,.dat (.sl (.pair .str (.pair .str .unit))),.dat (.sl .str),.dat (.int .i64),.dat .bool]]
def pH:List Sl:=.top::.ptr 0 0 0::tp 197 []
def oH:List RS:=[.box 29 14 true [.dat (.int .i64),.dat (.int .i64),.dat (.int .i64),.dat .str,.dat .bool,.dat (.int .i64),.dat .str,.dat .bool,.dat .str,.dat .str,.dat (.sl (.pair .str (.pair .str .unit))),.dat (.sl .str),.dat (.int .i64),.dat .bool]]
def rH:List Sl:=.top::.top::.dat .bool::tp 196 []
def qH:List RS:=[]
def LF (K:XE→List AV→oa→Option Out):Lx U1 (Bool)→Option Out:=fun x=>onL x (fun a=>yb pH oH () ((a.1,(a.2.1,(a.2.2.1,(a.2.2.2.1,(a.2.2.2.2.1,(a.2.2.2.2.2.1,(a.2.2.2.2.2.2.1,(a.2.2.2.2.2.2.2.1,(a.2.2.2.2.2.2.2.2.1,(a.2.2.2.2.2.2.2.2.2.1,(a.2.2.2.2.2.2.2.2.2.2.1,(a.2.2.2.2.2.2.2.2.2.2.2.1,(a.2.2.2.2.2.2.2.2.2.2.2.2.1,(a.2.2.2.2.2.2.2.2.2.2.2.2.2,())))))))))))))),()) (K .normal)) (fun a=>yb rH qH (a,()) () (K .ret)) (fun _=>none)
def bu (n:Nat) {R:Type} (hello:Bool) (c29 c30 c31:Int) (c32:BA) (c33:Bool) (c34:Int) (c35:BA) (c36:Bool) (c37 c38:BA) (c39:(Sq U0)) (c40:(Sq BA)) (c41:Int) (c42:Bool) (ko:U1→Option R) (kr:(Bool)→Option R) (kp:Int→Option R):Option R:=if (c34==(0:Int))=true then if (!(c35.toList==(⟨#[]⟩:BA).toList))=true then kr false else ko (c29,c30,c31,c32,c33,c34,c35,c36,c37,c38,c39,c40,c41,c42) else if (c34==(5:Int))=true then if (!(c35.toList==(⟨#[]⟩:BA).toList))=true then if (!hello)=true then kr false else ko (c29,c30,c31,c32,c33,c34,c35,c36,c37,c38,c39,c40,c41,c42) else ko (c29,c30,c31,c32,c33,c34,c35,c36,c37,c38,c39,c40,c41,c42) else if (!hello)=true then kr false else ko (c29,c30,c31,c32,c33,c34,c35,c36,c37,c38,c39,c40,c41,c42)
def Ml (n:Nat) (hello:Bool) (c29 c30 c31:Int) (c32:BA) (c33:Bool) (c34:Int) (c35:BA) (c36:Bool) (c37 c38:BA) (c39:(Sq U0)) (c40:(Sq BA)) (c41:Int) (c42:Bool):Option (Lx U1 (Bool)):=bu n hello c29 c30 c31 c32 c33 c34 c35 c36 c37 c38 c39 c40 c41 c42 (fun a=>some (.out a)) (fun a=>some (.ret a)) (fun p=>some (.pan p))
theorem mR (n:Nat) {S:Type}:∀ hello c29 c30 c31 c32 c33 c34 c35 c36 c37 c38 c39 c40 c41 c42 (φ:_→Option S),(Ml n hello c29 c30 c31 c32 c33 c34 c35 c36 c37 c38 c39 c40 c41 c42).bind φ=bu n hello c29 c30 c31 c32 c33 c34 c35 c36 c37 c38 c39 c40 c41 c42 (fun a=>φ (.out a)) (fun a=>φ (.ret a)) (fun p=>φ (.pan p)):=by
  intros;first | (simp only [Ml,bu,ja,fa,iB,bB,oL,oX,nB,Option.bind_some]) | rfl
def uB:List Sl:=.top::.ptr 0 0 0::.top::.dat .bool::tp 195 []
def tB:List RS:=[.box 29 14 true [.dat (.int .i64),.dat (.int .i64),.dat (.int .i64),.dat .str,.dat .bool,.dat (.int .i64),.dat .str,.dat .bool,.dat .str,.dat .str,.dat (.sl (.pair .str (.pair .str .unit))),.dat (.sl .str),.dat (.int .i64),.dat .bool]]
def tH:List Sl:=.top::.ptr 0 0 0::tp 197 []
def sH:List RS:=[.box 29 14 true [.dat (.int .i64),.dat (.int .i64),.dat (.int .i64),.dat .str,.dat .bool,.dat (.int .i64),.dat .str,.dat .bool,.dat .str,.dat .str,.dat (.sl (.pair .str (.pair .str .unit))),.dat (.sl .str),.dat (.int .i64),.dat .bool]]
def vH:List Sl:=.top::.top::.dat .bool::tp 196 []
def uH:List RS:=[]
def MF (K:XE→List AV→oa→Option Out):Lx U1 (Bool)→Option Out:=fun x=>onL x (fun a=>yb tH sH () ((a.1,(a.2.1,(a.2.2.1,(a.2.2.2.1,(a.2.2.2.2.1,(a.2.2.2.2.2.1,(a.2.2.2.2.2.2.1,(a.2.2.2.2.2.2.2.1,(a.2.2.2.2.2.2.2.2.1,(a.2.2.2.2.2.2.2.2.2.1,(a.2.2.2.2.2.2.2.2.2.2.1,(a.2.2.2.2.2.2.2.2.2.2.2.1,(a.2.2.2.2.2.2.2.2.2.2.2.2.1,(a.2.2.2.2.2.2.2.2.2.2.2.2.2,())))))))))))))),()) (K .normal)) (fun a=>yb vH uH (a,()) () (K .ret)) (fun _=>none)
def du (n:Nat) {R:Type} (c71 c72 c73:Int) (c74:BA) (c75:Bool) (c76:Int) (c77:BA) (c78:Bool) (c79 c80:BA) (c81:(Sq U0)) (c82:(Sq BA)) (c83:Int) (c84:Bool) (ko:U1→Option R) (kr:(Bool)→Option R) (kp:Int→Option R):Option R:=if c78=true then if (!((c79.toList==(⟨#[]⟩:BA).toList)&&((c80.toList==(⟨#[]⟩:BA).toList)&&true)))=false then if (!c78)=true then (vf n (c79,(c80,()))).bind fun v5=>if (!v5)=true then kr false else ko (c71,c72,c73,c74,c75,c76,c77,c78,c79,c80,c81,c82,c83,c84) else ko (c71,c72,c73,c74,c75,c76,c77,c78,c79,c80,c81,c82,c83,c84) else kr false else if (!c78)=true then (vf n (c79,(c80,()))).bind fun v6=>if (!v6)=true then kr false else ko (c71,c72,c73,c74,c75,c76,c77,c78,c79,c80,c81,c82,c83,c84) else ko (c71,c72,c73,c74,c75,c76,c77,c78,c79,c80,c81,c82,c83,c84)
def Ar (n:Nat) (c71 c72 c73:Int) (c74:BA) (c75:Bool) (c76:Int) (c77:BA) (c78:Bool) (c79 c80:BA) (c81:(Sq U0)) (c82:(Sq BA)) (c83:Int) (c84:Bool):Option (Lx U1 (Bool)):=du n c71 c72 c73 c74 c75 c76 c77 c78 c79 c80 c81 c82 c83 c84 (fun a=>some (.out a)) (fun a=>some (.ret a)) (fun p=>some (.pan p))
theorem oR (n:Nat) {S:Type}:∀ c71 c72 c73 c74 c75 c76 c77 c78 c79 c80 c81 c82 c83 c84 (φ:_→Option S),(Ar n c71 c72 c73 c74 c75 c76 c77 c78 c79 c80 c81 c82 c83 c84).bind φ=du n c71 c72 c73 c74 c75 c76 c77 c78 c79 c80 c81 c82 c83 c84 (fun a=>φ (.out a)) (fun a=>φ (.ret a)) (fun p=>φ (.pan p)):=by
  intros;first | (simp only [Ar,du,ja,fa,iB,bB,oL,oX,nB,Option.bind_some]) | rfl
def zB:List Sl:=.top::.ptr 0 0 0::tp 197 []
def yB:List RS:=[.box 29 14 true [.dat (.int .i64),.dat (.int .i64),.dat (.int .i64),.dat .str,.dat .bool,.dat (.int .i64),.dat .str,.dat .bool,.dat .str,.dat .str,.dat (.sl (.pair .str (.pair .str .unit))),.dat (.sl .str),.dat (.int .i64),.dat .bool]]
def BH:List Sl:=.top::.ptr 0 0 0::tp 197 []
def AH:List RS:=[.box 29 14 true [.dat (.int .i64),.dat (.int .i64),.dat (.int .i64),.dat .str,.dat .bool,.dat (.int .i64),.dat .str,.dat .bool,.dat .str,.dat .str,.dat (.sl (.pair .str (.pair .str .unit))),.dat (.sl .str),.dat (.int .i64),.dat .bool]]
def DH:List Sl:=.top::.top::.dat .bool::tp 196 []
def CH:List RS:=[]
def OF (K:XE→List AV→oa→Option Out):Lx U1 (Bool)→Option Out:=fun x=>onL x (fun a=>yb BH AH () ((a.1,(a.2.1,(a.2.2.1,(a.2.2.2.1,(a.2.2.2.2.1,(a.2.2.2.2.2.1,(a.2.2.2.2.2.2.1,(a.2.2.2.2.2.2.2.1,(a.2.2.2.2.2.2.2.2.1,(a.2.2.2.2.2.2.2.2.2.1,(a.2.2.2.2.2.2.2.2.2.2.1,(a.2.2.2.2.2.2.2.2.2.2.2.1,(a.2.2.2.2.2.2.2.2.2.2.2.2.1,(a.2.2.2.2.2.2.2.2.2.2.2.2.2,())))))))))))))),()) (K .normal)) (fun a=>yb DH CH (a,()) () (K .ret)) (fun _=>none)
def cu (n:Nat) {R:Type} (c57 c58 c59:Int) (c60:BA) (c61:Bool) (c62:Int) (c63:BA) (c64:Bool) (c65 c66:BA) (c67:(Sq U0)) (c68:(Sq BA)) (c69:Int) (c70:Bool) (ko:U1→Option R) (kr:(Bool)→Option R) (kp:Int→Option R):Option R:=(PS n c62).bind fun v4=>if v4=true then (Ar n c57 c58 c59 c60 c61 c62 c63 c64 c65 c66 c67 c68 c69 c70).bind fun x_1=>onL x_1 (fun a_2=>if (!(((a_2.2.2.2.2.2.2.2.2.2.2.1.n:Int)==(0:Int))==(a_2.2.2.2.2.2.1==(2:Int))))=true then kr false else ko (a_2.1,a_2.2.1,a_2.2.2.1,a_2.2.2.2.1,a_2.2.2.2.2.1,a_2.2.2.2.2.2.1,a_2.2.2.2.2.2.2.1,a_2.2.2.2.2.2.2.2.1,a_2.2.2.2.2.2.2.2.2.1,a_2.2.2.2.2.2.2.2.2.2.1,a_2.2.2.2.2.2.2.2.2.2.2.1,a_2.2.2.2.2.2.2.2.2.2.2.2.1,a_2.2.2.2.2.2.2.2.2.2.2.2.2.1,a_2.2.2.2.2.2.2.2.2.2.2.2.2.2)) (fun a_3=>kr a_3) (fun _=>none) else if c64=false then if (!((c65.toList==(⟨#[]⟩:BA).toList)&&((c66.toList==(⟨#[]⟩:BA).toList)&&true)))=false then if (decide ((c67.n:Int)>(0:Int)))=true then kr false else ko (c57,c58,c59,c60,c61,c62,c63,c64,c65,c66,c67,c68,c69,c70) else kr false else kr false
def Nl (n:Nat) (c57 c58 c59:Int) (c60:BA) (c61:Bool) (c62:Int) (c63:BA) (c64:Bool) (c65 c66:BA) (c67:(Sq U0)) (c68:(Sq BA)) (c69:Int) (c70:Bool):Option (Lx U1 (Bool)):=cu n c57 c58 c59 c60 c61 c62 c63 c64 c65 c66 c67 c68 c69 c70 (fun a=>some (.out a)) (fun a=>some (.ret a)) (fun p=>some (.pan p))
theorem nR (n:Nat) {S:Type}:∀ c57 c58 c59 c60 c61 c62 c63 c64 c65 c66 c67 c68 c69 c70 (φ:_→Option S),(Nl n c57 c58 c59 c60 c61 c62 c63 c64 c65 c66 c67 c68 c69 c70).bind φ=cu n c57 c58 c59 c60 c61 c62 c63 c64 c65 c66 c67 c68 c69 c70 (fun a=>φ (.out a)) (fun a=>φ (.ret a)) (fun p=>φ (.pan p)):=by
  intros;first | (simp only [Nl,cu,ja,fa,iB,bB,oL,oX,nB,Option.bind_some]) | rfl
def xB:List Sl:=.top::.ptr 0 0 0::tp 197 []
def vB:List RS:=[.box 29 14 true [.dat (.int .i64),.dat (.int .i64),.dat (.int .i64),.dat .str,.dat .bool,.dat (.int .i64),.dat .str,.dat .bool,.dat .str,.dat .str,.dat (.sl (.pair .str (.pair .str .unit))),.dat (.sl .str),.dat (.int .i64),.dat .bool]]
def xH:List Sl:=.top::.ptr 0 0 0::tp 197 []
def wH:List RS:=[.box 29 14 true [.dat (.int .i64),.dat (.int .i64),.dat (.int .i64),.dat .str,.dat .bool,.dat (.int .i64),.dat .str,.dat .bool,.dat .str,.dat .str,.dat (.sl (.pair .str (.pair .str .unit))),.dat (.sl .str),.dat (.int .i64),.dat .bool]]
def zH:List Sl:=.top::.top::.dat .bool::tp 196 []
def yH:List RS:=[]
def NF (K:XE→List AV→oa→Option Out):Lx U1 (Bool)→Option Out:=fun x=>onL x (fun a=>yb xH wH () ((a.1,(a.2.1,(a.2.2.1,(a.2.2.2.1,(a.2.2.2.2.1,(a.2.2.2.2.2.1,(a.2.2.2.2.2.2.1,(a.2.2.2.2.2.2.2.1,(a.2.2.2.2.2.2.2.2.1,(a.2.2.2.2.2.2.2.2.2.1,(a.2.2.2.2.2.2.2.2.2.2.1,(a.2.2.2.2.2.2.2.2.2.2.2.1,(a.2.2.2.2.2.2.2.2.2.2.2.2.1,(a.2.2.2.2.2.2.2.2.2.2.2.2.2,())))))))))))))),()) (K .normal)) (fun a=>yb zH yH (a,()) () (K .ret)) (fun _=>none)
def fu (n:Nat) {R:Type} (i1 c127 c128 c129:Int) (c130:BA) (c131:Bool) (c132:Int) (c133:BA) (c134:Bool) (c135 c136:BA) (c137:(Sq U0)) (c138:(Sq BA)) (c139:Int) (c140:Bool) (ko:U6→Option R) (kr:(Bool)→Option R) (kp:Int→Option R):Option R:=if 0≤i1∧i1<(c137.n:Int) then (vf n (((c137.at' (Int.toNat i1))).1,((((c137.at' (Int.toNat i1))).2).1,()))).bind fun v7=>if (!v7)=false then if 0≤i1∧i1≤(c137.n:Int) then if 0≤i1∧i1<(c137.n:Int) then (nf n (⟨((Int.toNat i1) - (Int.toNat (0:Int))),fun i=>c137.at' ((Int.toNat (0:Int))+i)⟩:Sq U0) (((c137.at' (Int.toNat i1))).1,((((c137.at' (Int.toNat i1))).2).1,()))).bind fun v8=>if (decide (v8≥(0:Int)))=true then kr false else ko (i1,c127,c128,c129,c130,c131,c132,c133,c134,c135,c136,c137,c138,c139,c140) else none else none else kr false else none
def Br (n:Nat) (i1 c127 c128 c129:Int) (c130:BA) (c131:Bool) (c132:Int) (c133:BA) (c134:Bool) (c135 c136:BA) (c137:(Sq U0)) (c138:(Sq BA)) (c139:Int) (c140:Bool):Option (Lx U6 (Bool)):=fu n i1 c127 c128 c129 c130 c131 c132 c133 c134 c135 c136 c137 c138 c139 c140 (fun a=>some (.out a)) (fun a=>some (.ret a)) (fun p=>some (.pan p))
theorem pR (n:Nat) {S:Type}:∀ i1 c127 c128 c129 c130 c131 c132 c133 c134 c135 c136 c137 c138 c139 c140 (φ:_→Option S),(Br n i1 c127 c128 c129 c130 c131 c132 c133 c134 c135 c136 c137 c138 c139 c140).bind φ=fu n i1 c127 c128 c129 c130 c131 c132 c133 c134 c135 c136 c137 c138 c139 c140 (fun a=>φ (.out a)) (fun a=>φ (.ret a)) (fun p=>φ (.pan p)):=by
  intros;first | (simp only [Br,fu,ja,fa,iB,bB,oL,oX,nB,Option.bind_some]) | rfl
def BB:List Sl:=.top::.ptr 0 0 0::.top::.top::.dat (.int .i64)::tp 194 []
def AB:List RS:=[.box 29 14 true [.dat (.int .i64),.dat (.int .i64),.dat (.int .i64),.dat .str,.dat .bool,.dat (.int .i64),.dat .str,.dat .bool,.dat .str,.dat .str,.dat (.sl (.pair .str (.pair .str .unit))),.dat (.sl .str),.dat (.int .i64),.dat .bool]]
def FH:List Sl:=.top::.ptr 0 0 0::.top::.top::.dat (.int .i64)::tp 194 []
def EH:List RS:=[.box 29 14 true [.dat (.int .i64),.dat (.int .i64),.dat (.int .i64),.dat .str,.dat .bool,.dat (.int .i64),.dat .str,.dat .bool,.dat .str,.dat .str,.dat (.sl (.pair .str (.pair .str .unit))),.dat (.sl .str),.dat (.int .i64),.dat .bool]]
def HH:List Sl:=.top::.top::.dat .bool::tp 196 []
def GH:List RS:=[]
def PF (K:XE→List AV→oa→Option Out):Lx U6 (Bool)→Option Out:=fun x=>onL x (fun a=>yb FH EH (a.1,()) ((a.2.1,(a.2.2.1,(a.2.2.2.1,(a.2.2.2.2.1,(a.2.2.2.2.2.1,(a.2.2.2.2.2.2.1,(a.2.2.2.2.2.2.2.1,(a.2.2.2.2.2.2.2.2.1,(a.2.2.2.2.2.2.2.2.2.1,(a.2.2.2.2.2.2.2.2.2.2.1,(a.2.2.2.2.2.2.2.2.2.2.2.1,(a.2.2.2.2.2.2.2.2.2.2.2.2.1,(a.2.2.2.2.2.2.2.2.2.2.2.2.2.1,(a.2.2.2.2.2.2.2.2.2.2.2.2.2.2,())))))))))))))),()) (K .normal)) (fun a=>yb HH GH (a,()) () (K .ret)) (fun _=>none)
def xr (n:Nat) {R:Type} (i c113 c114 c115:Int) (c116:BA) (c117:Bool) (c118:Int) (c119:BA) (c120:Bool) (c121 c122:BA) (c123:(Sq U0)) (c124:(Sq BA)) (c125:Int) (c126:Bool) (kn:Int→Int→Int→Int→BA→Bool→Int→BA→Bool→BA→BA→(Sq U0)→(Sq BA)→Int→Bool→Option R) (ko:U1→Option R) (kr:(Bool)→Option R) (kp:Int→Option R):Option R:=if (decide (i<(c123.n:Int)))=true then (Br n i c113 c114 c115 c116 c117 c118 c119 c120 c121 c122 c123 c124 c125 c126).bind fun x_1=>onL x_1 (fun a_2=>kn (IntKind.wrap .i64 (a_2.1+(1:Int))) a_2.2.1 a_2.2.2.1 a_2.2.2.2.1 a_2.2.2.2.2.1 a_2.2.2.2.2.2.1 a_2.2.2.2.2.2.2.1 a_2.2.2.2.2.2.2.2.1 a_2.2.2.2.2.2.2.2.2.1 a_2.2.2.2.2.2.2.2.2.2.1 a_2.2.2.2.2.2.2.2.2.2.2.1 a_2.2.2.2.2.2.2.2.2.2.2.2.1 a_2.2.2.2.2.2.2.2.2.2.2.2.2.1 a_2.2.2.2.2.2.2.2.2.2.2.2.2.2.1 a_2.2.2.2.2.2.2.2.2.2.2.2.2.2.2) (fun a_3=>kr a_3) (fun _=>none) else ko (c113,c114,c115,c116,c117,c118,c119,c120,c121,c122,c123,c124,c125,c126)
def Ad (n:Nat):Nat→Int→Int→Int→Int→BA→Bool→Int→BA→Bool→BA→BA→(Sq U0)→(Sq BA)→Int→Bool→Option (Lx U1 (Bool))
 | 0,_,_,_,_,_,_,_,_,_,_,_,_,_,_,_=>none
 | m+1,i,c113,c114,c115,c116,c117,c118,c119,c120,c121,c122,c123,c124,c125,c126=>xr n i c113 c114 c115 c116 c117 c118 c119 c120 c121 c122 c123 c124 c125 c126 (Ad n m) (fun a=>some (.out a)) (fun a=>some (.ret a)) (fun p=>some (.pan p))
theorem iY (n m:Nat) {S:Type}:∀ i c113 c114 c115 c116 c117 c118 c119 c120 c121 c122 c123 c124 c125 c126 (φ:_→Option S),(Ad n (m+1) i c113 c114 c115 c116 c117 c118 c119 c120 c121 c122 c123 c124 c125 c126).bind φ=xr n i c113 c114 c115 c116 c117 c118 c119 c120 c121 c122 c123 c124 c125 c126 (fun i c113 c114 c115 c116 c117 c118 c119 c120 c121 c122 c123 c124 c125 c126=>(Ad n m i c113 c114 c115 c116 c117 c118 c119 c120 c121 c122 c123 c124 c125 c126).bind φ) (fun a=>φ (.out a)) (fun a=>φ (.ret a)) (fun p=>φ (.pan p)):=by
  intros;first | (simp only [Ad,xr,ja,fa,iB,bB,oL,oX,nB,Option.bind_some]) | rfl
def Vp:List Sl:=.top::.ptr 0 0 0::.top::.top::.dat (.int .i64)::tp 194 []
def Up:List RS:=[.box 29 14 true [.dat (.int .i64),.dat (.int .i64),.dat (.int .i64),.dat .str,.dat .bool,.dat (.int .i64),.dat .str,.dat .bool,.dat .str,.dat .str,.dat (.sl (.pair .str (.pair .str .unit))),.dat (.sl .str),.dat (.int .i64),.dat .bool]]
def VH:List Sl:=.top::.ptr 0 0 0::tp 197 []
def UH:List RS:=[.box 29 14 true [.dat (.int .i64),.dat (.int .i64),.dat (.int .i64),.dat .str,.dat .bool,.dat (.int .i64),.dat .str,.dat .bool,.dat .str,.dat .str,.dat (.sl (.pair .str (.pair .str .unit))),.dat (.sl .str),.dat (.int .i64),.dat .bool]]
def XH:List Sl:=.top::.top::.dat .bool::tp 196 []
def WH:List RS:=[]
def Od (K:XE→List AV→oa→Option Out):Lx U1 (Bool)→Option Out:=fun x=>onL x (fun a=>yb VH UH () ((a.1,(a.2.1,(a.2.2.1,(a.2.2.2.1,(a.2.2.2.2.1,(a.2.2.2.2.2.1,(a.2.2.2.2.2.2.1,(a.2.2.2.2.2.2.2.1,(a.2.2.2.2.2.2.2.2.1,(a.2.2.2.2.2.2.2.2.2.1,(a.2.2.2.2.2.2.2.2.2.2.1,(a.2.2.2.2.2.2.2.2.2.2.2.1,(a.2.2.2.2.2.2.2.2.2.2.2.2.1,(a.2.2.2.2.2.2.2.2.2.2.2.2.2,())))))))))))))),()) (K (.exit 1))) (fun a=>yb XH WH (a,()) () (K .ret)) (fun _=>none)
def gu (n:Nat) {R:Type} (c169 c170 c171:Int) (c172:BA) (c173:Bool) (c174:Int) (c175:BA) (c176:Bool) (c177 c178:BA) (c179:(Sq U0)) (c180:(Sq BA)) (c181:Int) (c182:Bool) (ko:U1→Option R) (kr:(Bool)→Option R) (kp:Int→Option R):Option R:=if (c174 !=(4:Int))=true then if (decide ((c180.n:Int)>(0:Int)))=false then if c182=false then if c182=true then if (decide ((c180.n:Int)>(0:Int)))=true then kr false else ko (c169,c170,c171,c172,c173,c174,c175,c176,c177,c178,c179,c180,c181,c182) else ko (c169,c170,c171,c172,c173,c174,c175,c176,c177,c178,c179,c180,c181,c182) else kr false else kr false else if c182=true then if (decide ((c180.n:Int)>(0:Int)))=true then kr false else ko (c169,c170,c171,c172,c173,c174,c175,c176,c177,c178,c179,c180,c181,c182) else ko (c169,c170,c171,c172,c173,c174,c175,c176,c177,c178,c179,c180,c181,c182)
def Ol (n:Nat) (c169 c170 c171:Int) (c172:BA) (c173:Bool) (c174:Int) (c175:BA) (c176:Bool) (c177 c178:BA) (c179:(Sq U0)) (c180:(Sq BA)) (c181:Int) (c182:Bool):Option (Lx U1 (Bool)):=gu n c169 c170 c171 c172 c173 c174 c175 c176 c177 c178 c179 c180 c181 c182 (fun a=>some (.out a)) (fun a=>some (.ret a)) (fun p=>some (.pan p))
theorem qR (n:Nat) {S:Type}:∀ c169 c170 c171 c172 c173 c174 c175 c176 c177 c178 c179 c180 c181 c182 (φ:_→Option S),(Ol n c169 c170 c171 c172 c173 c174 c175 c176 c177 c178 c179 c180 c181 c182).bind φ=gu n c169 c170 c171 c172 c173 c174 c175 c176 c177 c178 c179 c180 c181 c182 (fun a=>φ (.out a)) (fun a=>φ (.ret a)) (fun p=>φ (.pan p)):=by
  intros;first | (simp only [Ol,gu,ja,fa,iB,bB,oL,oX,nB,Option.bind_some]) | rfl
def DB:List Sl:=.top::.ptr 0 0 0::tp 197 []
def CB:List RS:=[.box 29 14 true [.dat (.int .i64),.dat (.int .i64),.dat (.int .i64),.dat .str,.dat .bool,.dat (.int .i64),.dat .str,.dat .bool,.dat .str,.dat .str,.dat (.sl (.pair .str (.pair .str .unit))),.dat (.sl .str),.dat (.int .i64),.dat .bool]]
def JH:List Sl:=.top::.ptr 0 0 0::tp 197 []
def IH:List RS:=[.box 29 14 true [.dat (.int .i64),.dat (.int .i64),.dat (.int .i64),.dat .str,.dat .bool,.dat (.int .i64),.dat .str,.dat .bool,.dat .str,.dat .str,.dat (.sl (.pair .str (.pair .str .unit))),.dat (.sl .str),.dat (.int .i64),.dat .bool]]
def LH:List Sl:=.top::.top::.dat .bool::tp 196 []
def KH:List RS:=[]
def QF (K:XE→List AV→oa→Option Out):Lx U1 (Bool)→Option Out:=fun x=>onL x (fun a=>yb JH IH () ((a.1,(a.2.1,(a.2.2.1,(a.2.2.2.1,(a.2.2.2.2.1,(a.2.2.2.2.2.1,(a.2.2.2.2.2.2.1,(a.2.2.2.2.2.2.2.1,(a.2.2.2.2.2.2.2.2.1,(a.2.2.2.2.2.2.2.2.2.1,(a.2.2.2.2.2.2.2.2.2.2.1,(a.2.2.2.2.2.2.2.2.2.2.2.1,(a.2.2.2.2.2.2.2.2.2.2.2.2.1,(a.2.2.2.2.2.2.2.2.2.2.2.2.2,())))))))))))))),()) (K .normal)) (fun a=>yb LH KH (a,()) () (K .ret)) (fun _=>none)
def ju (n:Nat) {R:Type} (n02 i5 c225 c226 c227:Int) (c228:BA) (c229:Bool) (c230:Int) (c231:BA) (c232:Bool) (c233 c234:BA) (c235:(Sq U0)) (c236:(Sq BA)) (c237:Int) (c238:Bool) (ko:U5→Option R) (kr:(Bool)→Option R) (kp:Int→Option R):Option R:=if 0≤i5∧i5<(c236.n:Int) then (MD n (c236.at' (Int.toNat i5))).bind fun v9=>if (!v9)=true then kr false else ko (n02,i5,c225,c226,c227,c228,c229,c230,c231,c232,c233,c234,c235,c236,c237,c238) else none
def Dr (n:Nat) (n02 i5 c225 c226 c227:Int) (c228:BA) (c229:Bool) (c230:Int) (c231:BA) (c232:Bool) (c233 c234:BA) (c235:(Sq U0)) (c236:(Sq BA)) (c237:Int) (c238:Bool):Option (Lx U5 (Bool)):=ju n n02 i5 c225 c226 c227 c228 c229 c230 c231 c232 c233 c234 c235 c236 c237 c238 (fun a=>some (.out a)) (fun a=>some (.ret a)) (fun p=>some (.pan p))
theorem sR (n:Nat) {S:Type}:∀ n02 i5 c225 c226 c227 c228 c229 c230 c231 c232 c233 c234 c235 c236 c237 c238 (φ:_→Option S),(Dr n n02 i5 c225 c226 c227 c228 c229 c230 c231 c232 c233 c234 c235 c236 c237 c238).bind φ=ju n n02 i5 c225 c226 c227 c228 c229 c230 c231 c232 c233 c234 c235 c236 c237 c238 (fun a=>φ (.out a)) (fun a=>φ (.ret a)) (fun p=>φ (.pan p)):=by
  intros;first | (simp only [Dr,ju,ja,fa,iB,bB,oL,oX,nB,Option.bind_some]) | rfl
def IB:List Sl:=.top::.ptr 0 0 0::.top::.top::.top::.dat (.int .i64)::.dat (.int .i64)::tp 192 []
def GB:List RS:=[.box 29 14 true [.dat (.int .i64),.dat (.int .i64),.dat (.int .i64),.dat .str,.dat .bool,.dat (.int .i64),.dat .str,.dat .bool,.dat .str,.dat .str,.dat (.sl (.pair .str (.pair .str .unit))),.dat (.sl .str),.dat (.int .i64),.dat .bool]]
def RH:List Sl:=.top::.ptr 0 0 0::.top::.top::.top::.dat (.int .i64)::.dat (.int .i64)::tp 192 []
def QH:List RS:=[.box 29 14 true [.dat (.int .i64),.dat (.int .i64),.dat (.int .i64),.dat .str,.dat .bool,.dat (.int .i64),.dat .str,.dat .bool,.dat .str,.dat .str,.dat (.sl (.pair .str (.pair .str .unit))),.dat (.sl .str),.dat (.int .i64),.dat .bool]]
def TH:List Sl:=.top::.top::.dat .bool::tp 196 []
def SH:List RS:=[]
def SF (K:XE→List AV→oa→Option Out):Lx U5 (Bool)→Option Out:=fun x=>onL x (fun a=>yb RH QH (a.1,(a.2.1,())) ((a.2.2.1,(a.2.2.2.1,(a.2.2.2.2.1,(a.2.2.2.2.2.1,(a.2.2.2.2.2.2.1,(a.2.2.2.2.2.2.2.1,(a.2.2.2.2.2.2.2.2.1,(a.2.2.2.2.2.2.2.2.2.1,(a.2.2.2.2.2.2.2.2.2.2.1,(a.2.2.2.2.2.2.2.2.2.2.2.1,(a.2.2.2.2.2.2.2.2.2.2.2.2.1,(a.2.2.2.2.2.2.2.2.2.2.2.2.2.1,(a.2.2.2.2.2.2.2.2.2.2.2.2.2.2.1,(a.2.2.2.2.2.2.2.2.2.2.2.2.2.2.2,())))))))))))))),()) (K .normal)) (fun a=>yb TH SH (a,()) () (K .ret)) (fun _=>none)
def iu (n:Nat) {R:Type} (n01 i4 c211 c212 c213:Int) (c214:BA) (c215:Bool) (c216:Int) (c217:BA) (c218:Bool) (c219 c220:BA) (c221:(Sq U0)) (c222:(Sq BA)) (c223:Int) (c224:Bool) (ko:U5→Option R) (kr:(Bool)→Option R) (kp:Int→Option R):Option R:=(Dr n n01 i4 c211 c212 c213 c214 c215 c216 c217 c218 c219 c220 c221 c222 c223 c224).bind fun x_1=>onL x_1 (fun a_2=>if 0≤a_2.2.1∧a_2.2.1<(a_2.2.2.2.2.2.2.2.2.2.2.2.2.2.1.n:Int) then if (decide ((IntKind.wrap .i64 ((IntKind.wrap .i64 (a_2.1+((a_2.2.2.2.2.2.2.2.2.2.2.2.2.2.1.at' (Int.toNat a_2.2.1)).size:Int)))+(2:Int)))>(8192:Int)))=true then kr false else ko ((IntKind.wrap .i64 ((IntKind.wrap .i64 (a_2.1+((a_2.2.2.2.2.2.2.2.2.2.2.2.2.2.1.at' (Int.toNat a_2.2.1)).size:Int)))+(2:Int))),a_2.2.1,a_2.2.2.1,a_2.2.2.2.1,a_2.2.2.2.2.1,a_2.2.2.2.2.2.1,a_2.2.2.2.2.2.2.1,a_2.2.2.2.2.2.2.2.1,a_2.2.2.2.2.2.2.2.2.1,a_2.2.2.2.2.2.2.2.2.2.1,a_2.2.2.2.2.2.2.2.2.2.2.1,a_2.2.2.2.2.2.2.2.2.2.2.2.1,a_2.2.2.2.2.2.2.2.2.2.2.2.2.1,a_2.2.2.2.2.2.2.2.2.2.2.2.2.2.1,a_2.2.2.2.2.2.2.2.2.2.2.2.2.2.2.1,a_2.2.2.2.2.2.2.2.2.2.2.2.2.2.2.2) else none) (fun a_3=>kr a_3) (fun _=>none)
def Cr (n:Nat) (n01 i4 c211 c212 c213:Int) (c214:BA) (c215:Bool) (c216:Int) (c217:BA) (c218:Bool) (c219 c220:BA) (c221:(Sq U0)) (c222:(Sq BA)) (c223:Int) (c224:Bool):Option (Lx U5 (Bool)):=iu n n01 i4 c211 c212 c213 c214 c215 c216 c217 c218 c219 c220 c221 c222 c223 c224 (fun a=>some (.out a)) (fun a=>some (.ret a)) (fun p=>some (.pan p))
theorem rR (n:Nat) {S:Type}:∀ n01 i4 c211 c212 c213 c214 c215 c216 c217 c218 c219 c220 c221 c222 c223 c224 (φ:_→Option S),(Cr n n01 i4 c211 c212 c213 c214 c215 c216 c217 c218 c219 c220 c221 c222 c223 c224).bind φ=iu n n01 i4 c211 c212 c213 c214 c215 c216 c217 c218 c219 c220 c221 c222 c223 c224 (fun a=>φ (.out a)) (fun a=>φ (.ret a)) (fun p=>φ (.pan p)):=by
  intros;first | (simp only [Cr,iu,ja,fa,iB,bB,oL,oX,nB,Option.bind_some]) | rfl
def FB:List Sl:=.top::.ptr 0 0 0::.top::.top::.top::.dat (.int .i64)::.dat (.int .i64)::tp 192 []
def EB:List RS:=[.box 29 14 true [.dat (.int .i64),.dat (.int .i64),.dat (.int .i64),.dat .str,.dat .bool,.dat (.int .i64),.dat .str,.dat .bool,.dat .str,.dat .str,.dat (.sl (.pair .str (.pair .str .unit))),.dat (.sl .str),.dat (.int .i64),.dat .bool]]
def NH:List Sl:=.top::.ptr 0 0 0::.top::.top::.top::.dat (.int .i64)::.dat (.int .i64)::tp 192 []
def MH:List RS:=[.box 29 14 true [.dat (.int .i64),.dat (.int .i64),.dat (.int .i64),.dat .str,.dat .bool,.dat (.int .i64),.dat .str,.dat .bool,.dat .str,.dat .str,.dat (.sl (.pair .str (.pair .str .unit))),.dat (.sl .str),.dat (.int .i64),.dat .bool]]
def PH:List Sl:=.top::.top::.dat .bool::tp 196 []
def OH:List RS:=[]
def RF (K:XE→List AV→oa→Option Out):Lx U5 (Bool)→Option Out:=fun x=>onL x (fun a=>yb NH MH (a.1,(a.2.1,())) ((a.2.2.1,(a.2.2.2.1,(a.2.2.2.2.1,(a.2.2.2.2.2.1,(a.2.2.2.2.2.2.1,(a.2.2.2.2.2.2.2.1,(a.2.2.2.2.2.2.2.2.1,(a.2.2.2.2.2.2.2.2.2.1,(a.2.2.2.2.2.2.2.2.2.2.1,(a.2.2.2.2.2.2.2.2.2.2.2.1,(a.2.2.2.2.2.2.2.2.2.2.2.2.1,(a.2.2.2.2.2.2.2.2.2.2.2.2.2.1,(a.2.2.2.2.2.2.2.2.2.2.2.2.2.2.1,(a.2.2.2.2.2.2.2.2.2.2.2.2.2.2.2,())))))))))))))),()) (K .normal)) (fun a=>yb PH OH (a,()) () (K .ret)) (fun _=>none)
def yr (n:Nat) {R:Type} (n0 i3 c197 c198 c199:Int) (c200:BA) (c201:Bool) (c202:Int) (c203:BA) (c204:Bool) (c205 c206:BA) (c207:(Sq U0)) (c208:(Sq BA)) (c209:Int) (c210:Bool) (kn:Int→Int→Int→Int→Int→BA→Bool→Int→BA→Bool→BA→BA→(Sq U0)→(Sq BA)→Int→Bool→Option R) (ko:U6→Option R) (kr:(Bool)→Option R) (kp:Int→Option R):Option R:=if (decide (i3<(c208.n:Int)))=true then (Cr n n0 i3 c197 c198 c199 c200 c201 c202 c203 c204 c205 c206 c207 c208 c209 c210).bind fun x_1=>onL x_1 (fun a_2=>kn a_2.1 (IntKind.wrap .i64 (a_2.2.1+(1:Int))) a_2.2.2.1 a_2.2.2.2.1 a_2.2.2.2.2.1 a_2.2.2.2.2.2.1 a_2.2.2.2.2.2.2.1 a_2.2.2.2.2.2.2.2.1 a_2.2.2.2.2.2.2.2.2.1 a_2.2.2.2.2.2.2.2.2.2.1 a_2.2.2.2.2.2.2.2.2.2.2.1 a_2.2.2.2.2.2.2.2.2.2.2.2.1 a_2.2.2.2.2.2.2.2.2.2.2.2.2.1 a_2.2.2.2.2.2.2.2.2.2.2.2.2.2.1 a_2.2.2.2.2.2.2.2.2.2.2.2.2.2.2.1 a_2.2.2.2.2.2.2.2.2.2.2.2.2.2.2.2) (fun a_3=>kr a_3) (fun _=>none) else ko (n0,c197,c198,c199,c200,c201,c202,c203,c204,c205,c206,c207,c208,c209,c210)
def Bd (n:Nat):Nat→Int→Int→Int→Int→Int→BA→Bool→Int→BA→Bool→BA→BA→(Sq U0)→(Sq BA)→Int→Bool→Option (Lx U6 (Bool))
 | 0,_,_,_,_,_,_,_,_,_,_,_,_,_,_,_,_=>none
 | m+1,n0,i3,c197,c198,c199,c200,c201,c202,c203,c204,c205,c206,c207,c208,c209,c210=>yr n n0 i3 c197 c198 c199 c200 c201 c202 c203 c204 c205 c206 c207 c208 c209 c210 (Bd n m) (fun a=>some (.out a)) (fun a=>some (.ret a)) (fun p=>some (.pan p))
theorem jY (n m:Nat) {S:Type}:∀ n0 i3 c197 c198 c199 c200 c201 c202 c203 c204 c205 c206 c207 c208 c209 c210 (φ:_→Option S),(Bd n (m+1) n0 i3 c197 c198 c199 c200 c201 c202 c203 c204 c205 c206 c207 c208 c209 c210).bind φ=yr n n0 i3 c197 c198 c199 c200 c201 c202 c203 c204 c205 c206 c207 c208 c209 c210 (fun n0 i3 c197 c198 c199 c200 c201 c202 c203 c204 c205 c206 c207 c208 c209 c210=>(Bd n m n0 i3 c197 c198 c199 c200 c201 c202 c203 c204 c205 c206 c207 c208 c209 c210).bind φ) (fun a=>φ (.out a)) (fun a=>φ (.ret a)) (fun p=>φ (.pan p)):=by
  intros;first | (simp only [Bd,yr,ja,fa,iB,bB,oL,oX,nB,Option.bind_some]) | rfl
def Xp:List Sl:=.top::.ptr 0 0 0::.top::.top::.top::.dat (.int .i64)::.dat (.int .i64)::tp 192 []
def Wp:List RS:=[.box 29 14 true [.dat (.int .i64),.dat (.int .i64),.dat (.int .i64),.dat .str,.dat .bool,.dat (.int .i64),.dat .str,.dat .bool,.dat .str,.dat .str,.dat (.sl (.pair .str (.pair .str .unit))),.dat (.sl .str),.dat (.int .i64),.dat .bool]]
def ZH:List Sl:=.top::.ptr 0 0 0::.top::.top::.top::.dat (.int .i64)::tp 193 []
def YH:List RS:=[.box 29 14 true [.dat (.int .i64),.dat (.int .i64),.dat (.int .i64),.dat .str,.dat .bool,.dat (.int .i64),.dat .str,.dat .bool,.dat .str,.dat .str,.dat (.sl (.pair .str (.pair .str .unit))),.dat (.sl .str),.dat (.int .i64),.dat .bool]]
def bI:List Sl:=.top::.top::.dat .bool::tp 196 []
def aI:List RS:=[]
def Pd (K:XE→List AV→oa→Option Out):Lx U6 (Bool)→Option Out:=fun x=>onL x (fun a=>yb ZH YH (a.1,()) ((a.2.1,(a.2.2.1,(a.2.2.2.1,(a.2.2.2.2.1,(a.2.2.2.2.2.1,(a.2.2.2.2.2.2.1,(a.2.2.2.2.2.2.2.1,(a.2.2.2.2.2.2.2.2.1,(a.2.2.2.2.2.2.2.2.2.1,(a.2.2.2.2.2.2.2.2.2.2.1,(a.2.2.2.2.2.2.2.2.2.2.2.1,(a.2.2.2.2.2.2.2.2.2.2.2.2.1,(a.2.2.2.2.2.2.2.2.2.2.2.2.2.1,(a.2.2.2.2.2.2.2.2.2.2.2.2.2.2,())))))))))))))),()) (K (.exit 3))) (fun a=>yb bI aI (a,()) () (K .ret)) (fun _=>none)
def nH (n:Nat) {R:Type} (c:T0) (k:Bool→Option R):Option R:=(zr n c.1 c.2.1 c.2.2.1 c.2.2.2.1.1 c.2.2.2.1.2.1 c.2.2.2.2.1 c.2.2.2.2.2.1 c.2.2.2.2.2.2.1 c.2.2.2.2.2.2.2.1.1 c.2.2.2.2.2.2.2.1.2.1 c.2.2.2.2.2.2.2.2.1 c.2.2.2.2.2.2.2.2.2.1 c.2.2.2.2.2.2.2.2.2.2.1 c.2.2.2.2.2.2.2.2.2.2.2.1).bind fun x_1=>onL x_1 (fun a_2=>if (decide ((a_2.2.2.2.2.2.2.1.size:Int)≤(200:Int)))=true then (Si n a_2.2.2.2.2.2.2.1).bind fun v3=>(Ml n v3 a_2.1 a_2.2.1 a_2.2.2.1 a_2.2.2.2.1 a_2.2.2.2.2.1 a_2.2.2.2.2.2.1 a_2.2.2.2.2.2.2.1 a_2.2.2.2.2.2.2.2.1 a_2.2.2.2.2.2.2.2.2.1 a_2.2.2.2.2.2.2.2.2.2.1 a_2.2.2.2.2.2.2.2.2.2.2.1 a_2.2.2.2.2.2.2.2.2.2.2.2.1 a_2.2.2.2.2.2.2.2.2.2.2.2.2.1 a_2.2.2.2.2.2.2.2.2.2.2.2.2.2).bind fun x_3=>onL x_3 (fun a_4=>(Nl n a_4.1 a_4.2.1 a_4.2.2.1 a_4.2.2.2.1 a_4.2.2.2.2.1 a_4.2.2.2.2.2.1 a_4.2.2.2.2.2.2.1 a_4.2.2.2.2.2.2.2.1 a_4.2.2.2.2.2.2.2.2.1 a_4.2.2.2.2.2.2.2.2.2.1 a_4.2.2.2.2.2.2.2.2.2.2.1 a_4.2.2.2.2.2.2.2.2.2.2.2.1 a_4.2.2.2.2.2.2.2.2.2.2.2.2.1 a_4.2.2.2.2.2.2.2.2.2.2.2.2.2).bind fun x_5=>onL x_5 (fun a_6=>(Ad n n (0:Int) a_6.1 a_6.2.1 a_6.2.2.1 a_6.2.2.2.1 a_6.2.2.2.2.1 a_6.2.2.2.2.2.1 a_6.2.2.2.2.2.2.1 a_6.2.2.2.2.2.2.2.1 a_6.2.2.2.2.2.2.2.2.1 a_6.2.2.2.2.2.2.2.2.2.1 a_6.2.2.2.2.2.2.2.2.2.2.1 a_6.2.2.2.2.2.2.2.2.2.2.2.1 a_6.2.2.2.2.2.2.2.2.2.2.2.2.1 a_6.2.2.2.2.2.2.2.2.2.2.2.2.2).bind fun x_7=>onL x_7 (fun a_8=>(Ol n a_8.1 a_8.2.1 a_8.2.2.1 a_8.2.2.2.1 a_8.2.2.2.2.1 a_8.2.2.2.2.2.1 a_8.2.2.2.2.2.2.1 a_8.2.2.2.2.2.2.2.1 a_8.2.2.2.2.2.2.2.2.1 a_8.2.2.2.2.2.2.2.2.2.1 a_8.2.2.2.2.2.2.2.2.2.2.1 a_8.2.2.2.2.2.2.2.2.2.2.2.1 a_8.2.2.2.2.2.2.2.2.2.2.2.2.1 a_8.2.2.2.2.2.2.2.2.2.2.2.2.2).bind fun x_9=>onL x_9
 (fun a_10=>(Bd n n (0:Int) (0:Int) a_10.1 a_10.2.1 a_10.2.2.1 a_10.2.2.2.1 a_10.2.2.2.2.1 a_10.2.2.2.2.2.1 a_10.2.2.2.2.2.2.1 a_10.2.2.2.2.2.2.2.1 a_10.2.2.2.2.2.2.2.2.1 a_10.2.2.2.2.2.2.2.2.2.1 a_10.2.2.2.2.2.2.2.2.2.2.1 a_10.2.2.2.2.2.2.2.2.2.2.2.1 a_10.2.2.2.2.2.2.2.2.2.2.2.2.1 a_10.2.2.2.2.2.2.2.2.2.2.2.2.2).bind fun x_11=>onL x_11 (fun a_12=>k (a_12.2.2.2.2.2.2.2.2.2.2.2.2.2.1==a_12.1)) (fun a_13=>k a_13) (fun _=>none)) (fun a_14=>k a_14) (fun _=>none)) (fun a_15=>k a_15) (fun _=>none)) (fun a_16=>k a_16) (fun _=>none)) (fun a_17=>k a_17) (fun _=>none) else (Ml n false a_2.1 a_2.2.1 a_2.2.2.1 a_2.2.2.2.1 a_2.2.2.2.2.1 a_2.2.2.2.2.2.1 a_2.2.2.2.2.2.2.1 a_2.2.2.2.2.2.2.2.1 a_2.2.2.2.2.2.2.2.2.1 a_2.2.2.2.2.2.2.2.2.2.1 a_2.2.2.2.2.2.2.2.2.2.2.1 a_2.2.2.2.2.2.2.2.2.2.2.2.1 a_2.2.2.2.2.2.2.2.2.2.2.2.2.1 a_2.2.2.2.2.2.2.2.2.2.2.2.2.2).bind fun x_18=>onL x_18 (fun a_19=>(Nl n a_19.1 a_19.2.1 a_19.2.2.1 a_19.2.2.2.1 a_19.2.2.2.2.1 a_19.2.2.2.2.2.1 a_19.2.2.2.2.2.2.1 a_19.2.2.2.2.2.2.2.1 a_19.2.2.2.2.2.2.2.2.1 a_19.2.2.2.2.2.2.2.2.2.1 a_19.2.2.2.2.2.2.2.2.2.2.1 a_19.2.2.2.2.2.2.2.2.2.2.2.1 a_19.2.2.2.2.2.2.2.2.2.2.2.2.1 a_19.2.2.2.2.2.2.2.2.2.2.2.2.2).bind fun x_20=>onL x_20 (fun a_21=>(Ad n n (0:Int) a_21.1 a_21.2.1 a_21.2.2.1 a_21.2.2.2.1 a_21.2.2.2.2.1 a_21.2.2.2.2.2.1 a_21.2.2.2.2.2.2.1 a_21.2.2.2.2.2.2.2.1 a_21.2.2.2.2.2.2.2.2.1 a_21.2.2.2.2.2.2.2.2.2.1 a_21.2.2.2.2.2.2.2.2.2.2.1 a_21.2.2.2.2.2.2.2.2.2.2.2.1 a_21.2.2.2.2.2.2.2.2.2.2.2.2.1 a_21.2.2.2.2.2.2.2.2.2.2.2.2.2).bind fun x_22=>onL x_22
 (fun a_23=>(Ol n a_23.1 a_23.2.1 a_23.2.2.1 a_23.2.2.2.1 a_23.2.2.2.2.1 a_23.2.2.2.2.2.1 a_23.2.2.2.2.2.2.1 a_23.2.2.2.2.2.2.2.1 a_23.2.2.2.2.2.2.2.2.1 a_23.2.2.2.2.2.2.2.2.2.1 a_23.2.2.2.2.2.2.2.2.2.2.1 a_23.2.2.2.2.2.2.2.2.2.2.2.1 a_23.2.2.2.2.2.2.2.2.2.2.2.2.1 a_23.2.2.2.2.2.2.2.2.2.2.2.2.2).bind fun x_24=>onL x_24 (fun a_25=>(Bd n n (0:Int) (0:Int) a_25.1 a_25.2.1 a_25.2.2.1 a_25.2.2.2.1 a_25.2.2.2.2.1 a_25.2.2.2.2.2.1 a_25.2.2.2.2.2.2.1 a_25.2.2.2.2.2.2.2.1 a_25.2.2.2.2.2.2.2.2.1 a_25.2.2.2.2.2.2.2.2.2.1 a_25.2.2.2.2.2.2.2.2.2.2.1 a_25.2.2.2.2.2.2.2.2.2.2.2.1 a_25.2.2.2.2.2.2.2.2.2.2.2.2.1 a_25.2.2.2.2.2.2.2.2.2.2.2.2.2).bind fun x_26=>onL x_26 (fun a_27=>k (a_27.2.2.2.2.2.2.2.2.2.2.2.2.2.1==a_27.1)) (fun a_28=>k a_28) (fun _=>none)) (fun a_29=>k a_29) (fun _=>none)) (fun a_30=>k a_30) (fun _=>none)) (fun a_31=>k a_31) (fun _=>none)) (fun a_32=>k a_32) (fun _=>none)) (fun a_33=>k a_33) (fun _=>none)
def qB (n:Nat) (c:T0):Option Bool:=nH n c some
theorem mcb (n:Nat) {S:Type}:∀ c (φ:_→Option S),(qB n c).bind φ=nH n c φ:=by
  intros;unfold qB nH;first | (simp only [ja,fa,iB,bB,oL,oX,nB,Option.bind_some]) | rfl
def Pa (n:Nat):Hint Out:={ live:=fun c=>(cond (Nat.beq c 3) (lv [1,5,6]) (cond (Nat.beq c 1) [(1,none),(4,none)] [])),run:=fun c=>(cond (Nat.beq c 3) (some (ef Xp Wp fun σ ρ K=>(Bd n n σ.1 σ.2.1 ρ.1.1 ρ.1.2.1 ρ.1.2.2.1 ρ.1.2.2.2.1 ρ.1.2.2.2.2.1 ρ.1.2.2.2.2.2.1 ρ.1.2.2.2.2.2.2.1 ρ.1.2.2.2.2.2.2.2.1 ρ.1.2.2.2.2.2.2.2.2.1 ρ.1.2.2.2.2.2.2.2.2.2.1 ρ.1.2.2.2.2.2.2.2.2.2.2.1 ρ.1.2.2.2.2.2.2.2.2.2.2.2.1 ρ.1.2.2.2.2.2.2.2.2.2.2.2.2.1 ρ.1.2.2.2.2.2.2.2.2.2.2.2.2.2.1).bind (Pd K))) (cond (Nat.beq c 1) (some (ef Vp Up fun σ ρ K=>(Ad n n σ.1 ρ.1.1 ρ.1.2.1 ρ.1.2.2.1 ρ.1.2.2.2.1 ρ.1.2.2.2.2.1 ρ.1.2.2.2.2.2.1 ρ.1.2.2.2.2.2.2.1 ρ.1.2.2.2.2.2.2.2.1 ρ.1.2.2.2.2.2.2.2.2.1 ρ.1.2.2.2.2.2.2.2.2.2.1 ρ.1.2.2.2.2.2.2.2.2.2.2.1 ρ.1.2.2.2.2.2.2.2.2.2.2.2.1 ρ.1.2.2.2.2.2.2.2.2.2.2.2.2.1 ρ.1.2.2.2.2.2.2.2.2.2.2.2.2.2.1).bind (Od K))) none)),xm:=fun c q=>(cond (Nat.beq c 3&&Nat.beq (q.getD 1000000) 3&&q.isSome) (some [(1,none),(5,none)]) (cond (Nat.beq c 4&&q.isNone) (some [(2,none)]) (cond (Nat.beq c 1&&Nat.beq (q.getD 1000000) 1&&q.isSome) (some [(1,none)]) (cond (Nat.beq c 2&&q.isNone) (some [(2,none)]) (cond (Nat.beq c 0&&q.isNone) (some [(2,none)]) none))))),jn:=fun c=>(cond (Nat.beq c 31) (some (ef FB EB fun σ ρ K=>(Cr n σ.1 σ.2.1 ρ.1.1 ρ.1.2.1 ρ.1.2.2.1 ρ.1.2.2.2.1 ρ.1.2.2.2.2.1 ρ.1.2.2.2.2.2.1 ρ.1.2.2.2.2.2.2.1 ρ.1.2.2.2.2.2.2.2.1 ρ.1.2.2.2.2.2.2.2.2.1 ρ.1.2.2.2.2.2.2.2.2.2.1 ρ.1.2.2.2.2.2.2.2.2.2.2.1 ρ.1.2.2.2.2.2.2.2.2.2.2.2.1 ρ.1.2.2.2.2.2.2.2.2.2.2.2.2.1 ρ.1.2.2.2.2.2.2.2.2.2.2.2.2.2.1).bind (RF K))) (cond (Nat.beq c 34) (some (ef IB GB fun σ ρ K=>(Dr n σ.1 σ.2.1 ρ.1.1 ρ.1.2.1 ρ.1.2.2.1 ρ.1.2.2.2.1 ρ.1.2.2.2.2.1 ρ.1.2.2.2.2.2.1 ρ.1.2.2.2.2.2.2.1 ρ.1.2.2.2.2.2.2.2.1 ρ.1.2.2.2.2.2.2.2.2.1 ρ.1.2.2.2.2.2.2.2.2.2.1 ρ.1.2.2.2.2.2.2.2.2.2.2.1 ρ.1.2.2.2.2.2.2.2.2.2.2.2.1 ρ.1.2.2.2.2.2.2.2.2.2.2.2.2.1 ρ.1.2.2.2.2.2.2.2.2.2.2.2.2.2.1).bind (SF K))) (cond (Nat.beq c 28) (some (ef DB CB fun σ ρ K=>(Ol n ρ.1.1 ρ.1.2.1 ρ.1.2.2.1 ρ.1.2.2.2.1 ρ.1.2.2.2.2.1 ρ.1.2.2.2.2.2.1 ρ.1.2.2.2.2.2.2.1 ρ.1.2.2.2.2.2.2.2.1 ρ.1.2.2.2.2.2.2.2.2.1 ρ.1.2.2.2.2.2.2.2.2.2.1 ρ.1.2.2.2.2.2.2.2.2.2.2.1 ρ.1.2.2.2.2.2.2.2.2.2.2.2.1 ρ.1.2.2.2.2.2.2.2.2.2.2.2.2.1 ρ.1.2.2.2.2.2.2.2.2.2.2.2.2.2.1).bind (QF K))) (cond (Nat.beq c 23) (some (ef BB AB fun σ ρ K=>(Br n σ.1 ρ.1.1 ρ.1.2.1 ρ.1.2.2.1 ρ.1.2.2.2.1 ρ.1.2.2.2.2.1 ρ.1.2.2.2.2.2.1 ρ.1.2.2.2.2.2.2.1 ρ.1.2.2.2.2.2.2.2.1 ρ.1.2.2.2.2.2.2.2.2.1 ρ.1.2.2.2.2.2.2.2.2.2.1 ρ.1.2.2.2.2.2.2.2.2.2.2.1 ρ.1.2.2.2.2.2.2.2.2.2.2.2.1 ρ.1.2.2.2.2.2.2.2.2.2.2.2.2.1 ρ.1.2.2.2.2.2.2.2.2.2.2.2.2.2.1).bind (PF K))) (cond (Nat.beq c 21) (some (ef xB vB fun σ ρ K=>(Nl n ρ.1.1 ρ.1.2.1 ρ.1.2.2.1 ρ.1.2.2.2.1 ρ.1.2.2.2.2.1 ρ.1.2.2.2.2.2.1 ρ.1.2.2.2.2.2.2.1 ρ.1.2.2.2.2.2.2.2.1 ρ.1.2.2.2.2.2.2.2.2.1 ρ.1.2.2.2.2.2.2.2.2.2.1 ρ.1.2.2.2.2.2.2.2.2.2.2.1 ρ.1.2.2.2.2.2.2.2.2.2.2.2.1 ρ.1.2.2.2.2.2.2.2.2.2.2.2.2.1 ρ.1.2.2.2.2.2.2.2.2.2.2.2.2.2.1).bind (NF K))) (cond (Nat.beq c 17) (some (ef zB yB fun σ ρ K=>(Ar n ρ.1.1 ρ.1.2.1 ρ.1.2.2.1 ρ.1.2.2.2.1 ρ.1.2.2.2.2.1 ρ.1.2.2.2.2.2.1 ρ.1.2.2.2.2.2.2.1 ρ.1.2.2.2.2.2.2.2.1 ρ.1.2.2.2.2.2.2.2.2.1 ρ.1.2.2.2.2.2.2.2.2.2.1 ρ.1.2.2.2.2.2.2.2.2.2.2.1 ρ.1.2.2.2.2.2.2.2.2.2.2.2.1 ρ.1.2.2.2.2.2.2.2.2.2.2.2.2.1 ρ.1.2.2.2.2.2.2.2.2.2.2.2.2.2.1).bind (OF K))) (cond (Nat.beq c 14) (some (ef uB tB fun σ ρ K=>(Ml n σ.1 ρ.1.1 ρ.1.2.1 ρ.1.2.2.1 ρ.1.2.2.2.1 ρ.1.2.2.2.2.1 ρ.1.2.2.2.2.2.1 ρ.1.2.2.2.2.2.2.1 ρ.1.2.2.2.2.2.2.2.1 ρ.1.2.2.2.2.2.2.2.2.1 ρ.1.2.2.2.2.2.2.2.2.2.1 ρ.1.2.2.2.2.2.2.2.2.2.2.1 ρ.1.2.2.2.2.2.2.2.2.2.2.2.1 ρ.1.2.2.2.2.2.2.2.2.2.2.2.2.1 ρ.1.2.2.2.2.2.2.2.2.2.2.2.2.2.1).bind (MF K))) (cond (Nat.beq c 4) (some (ef sB rB fun σ ρ K=>(zr n ρ.1.1 ρ.1.2.1 ρ.1.2.2.1 ρ.1.2.2.2.1 ρ.1.2.2.2.2.1 ρ.1.2.2.2.2.2.1 ρ.1.2.2.2.2.2.2.1 ρ.1.2.2.2.2.2.2.2.1 ρ.1.2.2.2.2.2.2.2.2.1 ρ.1.2.2.2.2.2.2.2.2.2.1 ρ.1.2.2.2.2.2.2.2.2.2.2.1 ρ.1.2.2.2.2.2.2.2.2.2.2.2.1 ρ.1.2.2.2.2.2.2.2.2.2.2.2.2.1 ρ.1.2.2.2.2.2.2.2.2.2.2.2.2.2.1).bind (LF K))) none)))))))),jl:=fun c=>(cond (Nat.beq c 31) (lv [1,5,6]) (cond (Nat.beq c 34) (lv [1,5,6]) (cond (Nat.beq c 28) [(1,none)] (cond (Nat.beq c 23) [(1,none),(4,none)] (cond (Nat.beq c 21) [(1,none)] (cond (Nat.beq c 17) [(1,none)] (cond (Nat.beq c 14) [(1,none),(3,none)] (cond (Nat.beq c 4) [(1,none)] [])))))))),jo:=fun c=>(cond (Nat.beq c 31) (lv [1,5,6]) (cond (Nat.beq c 34) (lv [1,5,6]) (cond (Nat.beq c 28) [(1,none)] (cond (Nat.beq c 23) [(1,none),(4,none)] (cond (Nat.beq c 21) [(1,none)] (cond (Nat.beq c 17) [(1,none)] (cond (Nat.beq c 14) [(1,none)] (cond (Nat.beq c 4) [(1,none)] [])))))))) }
theorem YU (n:Nat):d6 tys (ia Out (nb n)) (Pa n) n (ra [1,0] (ba Tryz.f16)) 0 4:=Rg (sp:=sB) (rp:=rB) (by kernel_rfl) fun K σ ρ=>Eq.trans (by kernel_rfl) (lR n ρ.1.1 ρ.1.2.1 ρ.1.2.2.1 ρ.1.2.2.2.1 ρ.1.2.2.2.2.1 ρ.1.2.2.2.2.2.1 ρ.1.2.2.2.2.2.2.1 ρ.1.2.2.2.2.2.2.2.1 ρ.1.2.2.2.2.2.2.2.2.1 ρ.1.2.2.2.2.2.2.2.2.2.1 ρ.1.2.2.2.2.2.2.2.2.2.2.1 ρ.1.2.2.2.2.2.2.2.2.2.2.2.1 ρ.1.2.2.2.2.2.2.2.2.2.2.2.2.1 ρ.1.2.2.2.2.2.2.2.2.2.2.2.2.2.1 (LF K)).symm
theorem ZU (n:Nat):d6 tys (ia Out (nb n)) (Pa n) n (ra [1,1,1,0] (ba Tryz.f16)) 0 14:=Rg (sp:=uB) (rp:=tB) (by kernel_rfl) fun K σ ρ=>Eq.trans (by kernel_rfl) (mR n σ.1 ρ.1.1 ρ.1.2.1 ρ.1.2.2.1 ρ.1.2.2.2.1 ρ.1.2.2.2.2.1 ρ.1.2.2.2.2.2.1 ρ.1.2.2.2.2.2.2.1 ρ.1.2.2.2.2.2.2.2.1 ρ.1.2.2.2.2.2.2.2.2.1 ρ.1.2.2.2.2.2.2.2.2.2.1 ρ.1.2.2.2.2.2.2.2.2.2.2.1 ρ.1.2.2.2.2.2.2.2.2.2.2.2.1 ρ.1.2.2.2.2.2.2.2.2.2.2.2.2.1 ρ.1.2.2.2.2.2.2.2.2.2.2.2.2.2.1 (MF K)).symm
theorem cV (n:Nat):d6 tys (ia Out (nb n)) (Pa n) n (ra [1,1,1,1,0,1,0,0] (ba Tryz.f16)) 0 17:=Rg (sp:=zB) (rp:=yB) (by kernel_rfl) fun K σ ρ=>Eq.trans (by kernel_rfl) (oR n ρ.1.1 ρ.1.2.1 ρ.1.2.2.1 ρ.1.2.2.2.1 ρ.1.2.2.2.2.1 ρ.1.2.2.2.2.2.1 ρ.1.2.2.2.2.2.2.1 ρ.1.2.2.2.2.2.2.2.1 ρ.1.2.2.2.2.2.2.2.2.1 ρ.1.2.2.2.2.2.2.2.2.2.1 ρ.1.2.2.2.2.2.2.2.2.2.2.1 ρ.1.2.2.2.2.2.2.2.2.2.2.2.1 ρ.1.2.2.2.2.2.2.2.2.2.2.2.2.1 ρ.1.2.2.2.2.2.2.2.2.2.2.2.2.2.1 (OF K)).symm
theorem aV (n:Nat):d6 tys (ia Out (nb n)) (Pa n) n (ra [1,1,1,1,0] (ba Tryz.f16)) 0 21:=Rg (sp:=xB) (rp:=vB) (by kernel_rfl) fun K σ ρ=>Eq.trans (by kernel_rfl) (nR n ρ.1.1 ρ.1.2.1 ρ.1.2.2.1 ρ.1.2.2.2.1 ρ.1.2.2.2.2.1 ρ.1.2.2.2.2.2.1 ρ.1.2.2.2.2.2.2.1 ρ.1.2.2.2.2.2.2.2.1 ρ.1.2.2.2.2.2.2.2.2.1 ρ.1.2.2.2.2.2.2.2.2.2.1 ρ.1.2.2.2.2.2.2.2.2.2.2.1 ρ.1.2.2.2.2.2.2.2.2.2.2.2.1 ρ.1.2.2.2.2.2.2.2.2.2.2.2.2.1 ρ.1.2.2.2.2.2.2.2.2.2.2.2.2.2.1 (NF K)).symm
theorem dV (n:Nat):d6 tys (ia Out (nb n)) (Pa n) n (ra [1,1,1,1,1,0,1,0,0,1,0] (ba Tryz.f16)) 1 23:=Rg (sp:=BB) (rp:=AB) (by kernel_rfl) fun K σ ρ=>Eq.trans (by kernel_rfl) (pR n σ.1 ρ.1.1 ρ.1.2.1 ρ.1.2.2.1 ρ.1.2.2.2.1 ρ.1.2.2.2.2.1 ρ.1.2.2.2.2.2.1 ρ.1.2.2.2.2.2.2.1 ρ.1.2.2.2.2.2.2.2.1 ρ.1.2.2.2.2.2.2.2.2.1 ρ.1.2.2.2.2.2.2.2.2.2.1 ρ.1.2.2.2.2.2.2.2.2.2.2.1 ρ.1.2.2.2.2.2.2.2.2.2.2.2.1 ρ.1.2.2.2.2.2.2.2.2.2.2.2.2.1 ρ.1.2.2.2.2.2.2.2.2.2.2.2.2.2.1 (PF K)).symm
def il (n:Nat) (K:XE→List AV→oa→Option Out) (m:Nat) (i:Int) (c113:Int) (c114:Int) (c115:Int) (c116:BA) (c117:Bool) (c118:Int) (c119:BA) (c120:Bool) (c121:BA) (c122:BA) (c123:(Sq U0)) (c124:(Sq BA)) (c125:Int) (c126:Bool):Option Out:=Kb tys (ia Out (nb n)) (Pa n) n (ra [1,1,1,1,1,0,1,0,0] (ba Tryz.f16)) 1 Vp Up K m (i,()) ((c113,(c114,(c115,(c116,(c117,(c118,(c119,(c120,(c121,(c122,(c123,(c124,(c125,(c126,())))))))))))))),())
theorem TF (n:Nat) (K:XE→List AV→oa→Option Out):∀ (m:Nat) i c113 c114 c115 c116 c117 c118 c119 c120 c121 c122 c123 c124 c125 c126,il n K m i c113 c114 c115 c116 c117 c118 c119 c120 c121 c122 c123 c124 c125 c126=(Ad n m i c113 c114 c115 c116 c117 c118 c119 c120 c121 c122 c123 c124 c125 c126).bind (Od K)
  | 0,_,_,_,_,_,_,_,_,_,_,_,_,_,_,_=>by kernel_rfl
  | m+1,i,c113,c114,c115,c116,c117,c118,c119,c120,c121,c122,c123,c124,c125,c126=>by
    have h1:il n K (m+1) i c113 c114 c115 c116 c117 c118 c119 c120 c121 c122 c123 c124 c125 c126=xr n i c113 c114 c115 c116 c117 c118 c119 c120 c121 c122 c123 c124 c125 c126 (il n K m) (fun a=>Od K (.out a)) (fun a=>Od K (.ret a)) (fun p=>Od K (.pan p)):=by kernel_rfl
    have h2:il n K m=fun i c113 c114 c115 c116 c117 c118 c119 c120 c121 c122 c123 c124 c125 c126=>(Ad n m i c113 c114 c115 c116 c117 c118 c119 c120 c121 c122 c123 c124 c125 c126).bind (Od K):=by
      repeat (refine funext fun _=>?_)
      exact TF n K m _ _ _ _ _ _ _ _ _ _ _ _ _ _ _
    rw [h1,h2];exact (iY n m _ _ _ _ _ _ _ _ _ _ _ _ _ _ _ (Od K)).symm
theorem iV (n:Nat):ub tys (ia Out (nb n)) (Pa n) n (ra [1,1,1,1,1,0,1,0,0] (ba Tryz.f16)) 1:=Aa (sp:=Vp) (rp:=Up) (by kernel_rfl) fun K σ ρ=>TF n K n σ.1 ρ.1.1 ρ.1.2.1 ρ.1.2.2.1 ρ.1.2.2.2.1 ρ.1.2.2.2.2.1 ρ.1.2.2.2.2.2.1 ρ.1.2.2.2.2.2.2.1 ρ.1.2.2.2.2.2.2.2.1 ρ.1.2.2.2.2.2.2.2.2.1 ρ.1.2.2.2.2.2.2.2.2.2.1 ρ.1.2.2.2.2.2.2.2.2.2.2.1 ρ.1.2.2.2.2.2.2.2.2.2.2.2.1 ρ.1.2.2.2.2.2.2.2.2.2.2.2.2.1 ρ.1.2.2.2.2.2.2.2.2.2.2.2.2.2.1
theorem eV (n:Nat):d6 tys (ia Out (nb n)) (Pa n) n (ra [1,1,1,1,1,1,0] (ba Tryz.f16)) 0 28:=Rg (sp:=DB) (rp:=CB) (by kernel_rfl) fun K σ ρ=>Eq.trans (by kernel_rfl) (qR n ρ.1.1 ρ.1.2.1 ρ.1.2.2.1 ρ.1.2.2.2.1 ρ.1.2.2.2.2.1 ρ.1.2.2.2.2.2.1 ρ.1.2.2.2.2.2.2.1 ρ.1.2.2.2.2.2.2.2.1 ρ.1.2.2.2.2.2.2.2.2.1 ρ.1.2.2.2.2.2.2.2.2.2.1 ρ.1.2.2.2.2.2.2.2.2.2.2.1 ρ.1.2.2.2.2.2.2.2.2.2.2.2.1 ρ.1.2.2.2.2.2.2.2.2.2.2.2.2.1 ρ.1.2.2.2.2.2.2.2.2.2.2.2.2.2.1 (QF K)).symm
theorem gV (n:Nat):d6 tys (ia Out (nb n)) (Pa n) n (ra [1,1,1,1,1,1,1,1,0,1,0,0,1,0,0,0] (ba Tryz.f16)) 4 34:=Rg (sp:=IB) (rp:=GB) (by kernel_rfl) fun K σ ρ=>Eq.trans (by kernel_rfl) (sR n σ.1 σ.2.1 ρ.1.1 ρ.1.2.1 ρ.1.2.2.1 ρ.1.2.2.2.1 ρ.1.2.2.2.2.1 ρ.1.2.2.2.2.2.1 ρ.1.2.2.2.2.2.2.1 ρ.1.2.2.2.2.2.2.2.1 ρ.1.2.2.2.2.2.2.2.2.1 ρ.1.2.2.2.2.2.2.2.2.2.1 ρ.1.2.2.2.2.2.2.2.2.2.2.1 ρ.1.2.2.2.2.2.2.2.2.2.2.2.1 ρ.1.2.2.2.2.2.2.2.2.2.2.2.2.1 ρ.1.2.2.2.2.2.2.2.2.2.2.2.2.2.1 (SF K)).symm
theorem fV (n:Nat):d6 tys (ia Out (nb n)) (Pa n) n (ra [1,1,1,1,1,1,1,1,0,1,0,0,1,0] (ba Tryz.f16)) 3 31:=Rg (sp:=FB) (rp:=EB) (by kernel_rfl) fun K σ ρ=>Eq.trans (by kernel_rfl) (rR n σ.1 σ.2.1 ρ.1.1 ρ.1.2.1 ρ.1.2.2.1 ρ.1.2.2.2.1 ρ.1.2.2.2.2.1 ρ.1.2.2.2.2.2.1 ρ.1.2.2.2.2.2.2.1 ρ.1.2.2.2.2.2.2.2.1 ρ.1.2.2.2.2.2.2.2.2.1 ρ.1.2.2.2.2.2.2.2.2.2.1 ρ.1.2.2.2.2.2.2.2.2.2.2.1 ρ.1.2.2.2.2.2.2.2.2.2.2.2.1 ρ.1.2.2.2.2.2.2.2.2.2.2.2.2.1 ρ.1.2.2.2.2.2.2.2.2.2.2.2.2.2.1 (RF K)).symm
def ll (n:Nat) (K:XE→List AV→oa→Option Out) (m:Nat) (n0:Int) (i3:Int) (c197:Int) (c198:Int) (c199:Int) (c200:BA) (c201:Bool) (c202:Int) (c203:BA) (c204:Bool) (c205:BA) (c206:BA) (c207:(Sq U0)) (c208:(Sq BA)) (c209:Int) (c210:Bool):Option Out:=Kb tys (ia Out (nb n)) (Pa n) n (ra [1,1,1,1,1,1,1,1,0,1,0,0] (ba Tryz.f16)) 3 Xp Wp K m (n0,(i3,())) ((c197,(c198,(c199,(c200,(c201,(c202,(c203,(c204,(c205,(c206,(c207,(c208,(c209,(c210,())))))))))))))),())
theorem UF (n:Nat) (K:XE→List AV→oa→Option Out):∀ (m:Nat) n0 i3 c197 c198 c199 c200 c201 c202 c203 c204 c205 c206 c207 c208 c209 c210,ll n K m n0 i3 c197 c198 c199 c200 c201 c202 c203 c204 c205 c206 c207 c208 c209 c210=(Bd n m n0 i3 c197 c198 c199 c200 c201 c202 c203 c204 c205 c206 c207 c208 c209 c210).bind (Pd K)
  | 0,_,_,_,_,_,_,_,_,_,_,_,_,_,_,_,_=>by kernel_rfl
  | m+1,n0,i3,c197,c198,c199,c200,c201,c202,c203,c204,c205,c206,c207,c208,c209,c210=>by
    have h1:ll n K (m+1) n0 i3 c197 c198 c199 c200 c201 c202 c203 c204 c205 c206 c207 c208 c209 c210=yr n n0 i3 c197 c198 c199 c200 c201 c202 c203 c204 c205 c206 c207 c208 c209 c210 (ll n K m) (fun a=>Pd K (.out a)) (fun a=>Pd K (.ret a)) (fun p=>Pd K (.pan p)):=by kernel_rfl
    have h2:ll n K m=fun n0 i3 c197 c198 c199 c200 c201 c202 c203 c204 c205 c206 c207 c208 c209 c210=>(Bd n m n0 i3 c197 c198 c199 c200 c201 c202 c203 c204 c205 c206 c207 c208 c209 c210).bind (Pd K):=by
      repeat (refine funext fun _=>?_)
      exact UF n K m _ _ _ _ _ _ _ _ _ _ _ _ _ _ _ _
    rw [h1,h2];exact (jY n m _ _ _ _ _ _ _ _ _ _ _ _ _ _ _ _ (Pd K)).symm
theorem jV (n:Nat):ub tys (ia Out (nb n)) (Pa n) n (ra [1,1,1,1,1,1,1,1,0,1,0,0] (ba Tryz.f16)) 3:=Aa (sp:=Xp) (rp:=Wp) (by kernel_rfl) fun K σ ρ=>UF n K n σ.1 σ.2.1 ρ.1.1 ρ.1.2.1 ρ.1.2.2.1 ρ.1.2.2.2.1 ρ.1.2.2.2.2.1 ρ.1.2.2.2.2.2.1 ρ.1.2.2.2.2.2.2.1 ρ.1.2.2.2.2.2.2.2.1 ρ.1.2.2.2.2.2.2.2.2.1 ρ.1.2.2.2.2.2.2.2.2.2.1 ρ.1.2.2.2.2.2.2.2.2.2.2.1 ρ.1.2.2.2.2.2.2.2.2.2.2.2.1 ρ.1.2.2.2.2.2.2.2.2.2.2.2.2.1 ρ.1.2.2.2.2.2.2.2.2.2.2.2.2.2.1
theorem kY (n:Nat):qa tys (ia Out (nb n)) (Pa n) n (ba Tryz.f16) 0:=⟨aa,⟨⟨⟨aa,⟨⟨aa,aa⟩,aa⟩⟩,⟨aa,⟨⟨⟨aa,⟨aa,⟨⟨aa,⟨⟨aa,aa⟩,aa⟩⟩,⟨aa,⟨⟨aa,⟨⟨aa,aa⟩,aa⟩⟩,⟨aa,⟨⟨aa,aa⟩,aa⟩⟩⟩⟩⟩⟩⟩,⟨⟨⟨aa,⟨⟨⟨⟨aa,⟨⟨aa,aa⟩,aa⟩⟩,⟨aa,⟨⟨aa,aa⟩,aa⟩⟩⟩,cV n⟩,⟨aa,⟨⟨aa,aa⟩,aa⟩⟩⟩⟩,⟨⟨aa,⟨iV n,⟨⟨aa,⟨aa,aa⟩⟩,⟨⟨⟨aa,⟨⟨aa,aa⟩,aa⟩⟩,aa⟩,dV n⟩⟩⟩⟩,⟨⟨⟨aa,⟨⟨aa,aa⟩,aa⟩⟩,⟨aa,⟨⟨aa,⟨jV n,⟨⟨aa,⟨aa,aa⟩⟩,⟨⟨⟨⟨⟨aa,⟨⟨aa,aa⟩,aa⟩⟩,⟨aa,⟨aa,⟨⟨aa,aa⟩,aa⟩⟩⟩⟩,gV n⟩,aa⟩,fV n⟩⟩⟩⟩,⟨aa,aa⟩⟩⟩⟩,eV n⟩⟩⟩,aV n⟩⟩,ZU n⟩⟩⟩,YU n⟩⟩
theorem T3 (n:Nat):Enters Tryz.prog 16:=enters_of (c:=ba Tryz.f16) Tryz.func16 (by kernel_rfl) (by kernel_rfl)
def iQ (n:Nat):Entry:=⟨16,pcT K1 (.one .bool) (fun xs=>qB n xs.1),none,none⟩
theorem H8 (n:Nat):EntryOk Tryz.prog gl (iQ n):=wa (T3 n) fun xs y h=>ma tys_ok (JF n) mixed (hint:=Pa n) (n:=n) Tryz.func16 (ya (kY n)) (la (φ:=(fun y=>some (Out.ret (Ya (.one .bool) y)))) (by kernel_rfl) (mcb n xs.1 _) h)
def JB (n:Nat):List Entry:=iQ n::nb n
theorem KB (n:Nat):AllOk Tryz.prog gl (JB n):=.cons (H8 n) (JF n)
def vD (n:Nat) {R:Type} (n0 least most:Int) (k:Bool→Option R):Option R:=if (decide (n0≥least))=true then k (decide (n0≤most)) else k false
def Ln (n:Nat) (n0 least most:Int):Option Bool:=vD n n0 least most some
theorem qfb (n:Nat) {S:Type}:∀ n0 least most (φ:_→Option S),(Ln n n0 least most).bind φ=vD n n0 least most φ:=by
  intros;unfold Ln vD;first | (simp only [ja,fa,iB,bB,oL,oX,nB,Option.bind_some]) | rfl
def eK (n:Nat):Hint Out:={ live:=fun c=>[],run:=fun c=>none,xm:=fun c q=>none }
theorem Z1 (n:Nat):qa tys (ia Out (JB n)) (eK n) n (ba Tryz.f63) 0:=na (fun _=>rfl) _ _ (by kernel_rfl)
theorem z7 (n:Nat):Enters Tryz.prog 63:=enters_of (c:=ba Tryz.f63) Tryz.func63 (by kernel_rfl) (by kernel_rfl)
def cU (n:Nat):Entry:=⟨63,pcT (.pair (.int .i64) (.pair (.int .i64) (.pair (.int .i64) .unit))) (.one .bool) (fun xs=>Ln n xs.1 xs.2.1 xs.2.2.1),none,none⟩
theorem zbb (n:Nat):EntryOk Tryz.prog gl (cU n):=wa (z7 n) fun xs y h=>ma tys_ok (KB n) mixed (hint:=eK n) (n:=n) Tryz.func63 (ya (Z1 n)) (la (φ:=(fun y=>some (Out.ret (Ya (.one .bool) y)))) (by kernel_rfl) (qfb n xs.1 xs.2.1 xs.2.2.1 _) h)
def dU (n:Nat):List Entry:=cU n::JB n
theorem JX (n:Nat):AllOk Tryz.prog gl (dU n):=.cons (zbb n) (KB n)
def Gu (n:Nat):List Entry:=⟨89,pcT (.pair .str (.pair .str .unit)) (.one .bool) (fun xs=>nv xs.1 xs.2.1),none,none⟩::dU n
theorem iw (n:Nat):AllOk Tryz.prog gl (Gu n):=.cons Bbb (JX n)
def dx (n:Nat) {R:Type} (f:U9) (k:Bool→Option R):Option R:=if f.2.1=true then if (f.1.toList==(⟨#[]⟩:BA).toList)=false then k (f.1.toList==(⟨#[13]⟩:BA).toList) else k true else if (decide ((f.1.size:Int)<(512:Int)))=true then (nv f.1 (⟨#[13,10]⟩:BA)).bind fun v=>k (!v) else k false
def pv (n:Nat) (f:U9):Option Bool:=dx n f some
theorem Kbb (n:Nat) {S:Type}:∀ f (φ:_→Option S),(pv n f).bind φ=dx n f φ:=by
  intros;unfold pv dx;first | (simp only [ja,fa,iB,bB,oL,oX,nB,Option.bind_some]) | rfl
def AF (n:Nat):Hint Out:={ live:=fun c=>[],run:=fun c=>none,xm:=fun c q=>none }
theorem QX (n:Nat):qa tys (ia Out (Gu n)) (AF n) n (ba Tryz.f64) 0:=na (fun _=>rfl) _ _ (by kernel_rfl)
theorem G2 (n:Nat):Enters Tryz.prog 64:=enters_of (c:=ba Tryz.f64) Tryz.func64 (by kernel_rfl) (by kernel_rfl)
def ZP (n:Nat):Entry:=⟨64,pcT (.pair (.pair .str (.pair .bool .unit)) .unit) (.one .bool) (fun xs=>pv n xs.1),none,none⟩
theorem P7 (n:Nat):EntryOk Tryz.prog gl (ZP n):=wa (G2 n) fun xs y h=>ma tys_ok (iw n) mixed (hint:=AF n) (n:=n) Tryz.func64 (ya (QX n)) (la (φ:=(fun y=>some (Out.ret (Ya (.one .bool) y)))) (by kernel_rfl) (Kbb n xs.1 _) h)
def RA (n:Nat):List Entry:=ZP n::Gu n
theorem SA (n:Nat):AllOk Tryz.prog gl (RA n):=.cons (P7 n) (iw n)
def Zk (n:Nat) {R:Type} (s prefix0:BA) (k:Bool→Option R):Option R:=if (decide ((s.size:Int)≥(prefix0.size:Int)))=true then if 0≤(prefix0.size:Int)∧(prefix0.size:Int)≤(s.size:Int) then k ((s.extract (Int.toNat (0:Int)) (Int.toNat (prefix0.size:Int))).toList==prefix0.toList) else none else k false
def ne (n:Nat) (s prefix0:BA):Option Bool:=Zk n s prefix0 some
theorem RX (n:Nat) {S:Type}:∀ s prefix0 (φ:_→Option S),(ne n s prefix0).bind φ=Zk n s prefix0 φ:=by
  intros;unfold ne Zk;first | (simp only [ja,fa,iB,bB,oL,oX,nB,Option.bind_some]) | rfl
def tv (n:Nat):Hint Out:={ live:=fun c=>[],run:=fun c=>none,xm:=fun c q=>none }
theorem MN (n:Nat):qa tys (ia Out (RA n)) (tv n) n (ba Tryz.f163) 0:=na (fun _=>rfl) _ _ (by kernel_rfl)
theorem ZQ (n:Nat):Enters Tryz.prog 163:=enters_of (c:=ba Tryz.f163) Tryz.func163 (by kernel_rfl) (by kernel_rfl)
def VA (n:Nat):Entry:=⟨163,pcT (.pair .str (.pair .str .unit)) (.one .bool) (fun xs=>ne n xs.1 xs.2.1),none,none⟩
theorem oU (n:Nat):EntryOk Tryz.prog gl (VA n):=wa (ZQ n) fun xs y h=>ma tys_ok (SA n) mixed (hint:=tv n) (n:=n) Tryz.func163 (ya (MN n)) (la (φ:=(fun y=>some (Out.ret (Ya (.one .bool) y)))) (by kernel_rfl) (RX n xs.1 xs.2.1 _) h)
def Bp (n:Nat):List Entry:=VA n::RA n
theorem lr (n:Nat):AllOk Tryz.prog gl (Bp n):=.cons (oU n) (SA n)
def kh (n:Nat) {R:Type} (s prefix0:BA) (k:Bool→Option R):Option R:=(ne n s prefix0).bind fun v=>k v
def Lb (n:Nat) (s prefix0:BA):Option Bool:=kh n s prefix0 some
theorem MY (n:Nat) {S:Type}:∀ s prefix0 (φ:_→Option S),(Lb n s prefix0).bind φ=kh n s prefix0 φ:=by
  intros;unfold Lb kh;first | (simp only [ja,fa,iB,bB,oL,oX,nB,Option.bind_some]) | rfl
def jw (n:Nat):Hint Out:={ live:=fun c=>[],run:=fun c=>none,xm:=fun c q=>none }
theorem MO (n:Nat):qa tys (ia Out (Bp n)) (jw n) n (ba Tryz.f140) 0:=na (fun _=>rfl) _ _ (by kernel_rfl)
theorem SR (n:Nat):Enters Tryz.prog 140:=enters_of (c:=ba Tryz.f140) Tryz.func140 (by kernel_rfl) (by kernel_rfl)
def FC (n:Nat):Entry:=⟨140,pcT (.pair .str (.pair .str .unit)) (.one .bool) (fun xs=>Lb n xs.1 xs.2.1),none,none⟩
theorem nW (n:Nat):EntryOk Tryz.prog gl (FC n):=wa (SR n) fun xs y h=>ma tys_ok (lr n) mixed (hint:=jw n) (n:=n) Tryz.func140 (ya (MO n)) (la (φ:=(fun y=>some (Out.ret (Ya (.one .bool) y)))) (by kernel_rfl) (MY n xs.1 xs.2.1 _) h)
def mq (n:Nat):List Entry:=FC n::Bp n
theorem Qs (n:Nat):AllOk Tryz.prog gl (mq n):=.cons (nW n) (lr n)
def Uk (n:Nat) {R:Type} (s:BA) (k:Bool→Option R):Option R:=(Lb n s (⟨#[91]⟩:BA)).bind fun v=>k v
def me (n:Nat) (s:BA):Option Bool:=Uk n s some
theorem fX (n:Nat) {S:Type}:∀ s (φ:_→Option S),(me n s).bind φ=Uk n s φ:=by
  intros;unfold me Uk;first | (simp only [ja,fa,iB,bB,oL,oX,nB,Option.bind_some]) | rfl
def Yu (n:Nat):Hint Out:={ live:=fun c=>[],run:=fun c=>none,xm:=fun c q=>none }
theorem mN (n:Nat):qa tys (ia Out (mq n)) (Yu n) n (ba Tryz.f118) 0:=na (fun _=>rfl) _ _ (by kernel_rfl)
theorem NQ (n:Nat):Enters Tryz.prog 118:=enters_of (c:=ba Tryz.f118) Tryz.func118 (by kernel_rfl) (by kernel_rfl)
def Yz (n:Nat):Entry:=⟨118,pcT (.pair .str .unit) (.one .bool) (fun xs=>me n xs.1),none,none⟩
theorem Zz (n:Nat):EntryOk Tryz.prog gl (Yz n):=wa (NQ n) fun xs y h=>ma tys_ok (Qs n) mixed (hint:=Yu n) (n:=n) Tryz.func118 (ya (mN n)) (la (φ:=(fun y=>some (Out.ret (Ya (.one .bool) y)))) (by kernel_rfl) (fX n xs.1 _) h)
def Wo (n:Nat):List Entry:=Yz n::mq n
theorem Pq (n:Nat):AllOk Tryz.prog gl (Wo n):=.cons (Zz n) (Qs n)
def bl (n:Nat) {R:Type} (s suffix:BA) (k:Bool→Option R):Option R:=if (decide ((s.size:Int)≥(suffix.size:Int)))=true then if 0≤(IntKind.wrap .i64 ((s.size:Int) - (suffix.size:Int)))∧(IntKind.wrap .i64 ((s.size:Int) - (suffix.size:Int)))≤(s.size:Int) then k ((s.extract (Int.toNat (IntKind.wrap .i64 ((s.size:Int) - (suffix.size:Int)))) (Int.toNat (s.size:Int))).toList==suffix.toList) else none else k false
def Jl (n:Nat) (s suffix:BA):Option Bool:=bl n s suffix some
theorem SX (n:Nat) {S:Type}:∀ s suffix (φ:_→Option S),(Jl n s suffix).bind φ=bl n s suffix φ:=by
  intros;unfold Jl bl;first | (simp only [ja,fa,iB,bB,oL,oX,nB,Option.bind_some]) | rfl
def uv (n:Nat):Hint Out:={ live:=fun c=>[],run:=fun c=>none,xm:=fun c q=>none }
theorem NN (n:Nat):qa tys (ia Out (Wo n)) (uv n) n (ba Tryz.f141) 0:=na (fun _=>rfl) _ _ (by kernel_rfl)
theorem aR (n:Nat):Enters Tryz.prog 141:=enters_of (c:=ba Tryz.f141) Tryz.func141 (by kernel_rfl) (by kernel_rfl)
def WA (n:Nat):Entry:=⟨141,pcT (.pair .str (.pair .str .unit)) (.one .bool) (fun xs=>Jl n xs.1 xs.2.1),none,none⟩
theorem pU (n:Nat):EntryOk Tryz.prog gl (WA n):=wa (aR n) fun xs y h=>ma tys_ok (Pq n) mixed (hint:=uv n) (n:=n) Tryz.func141 (ya (NN n)) (la (φ:=(fun y=>some (Out.ret (Ya (.one .bool) y)))) (by kernel_rfl) (SX n xs.1 xs.2.1 _) h)
def Cp (n:Nat):List Entry:=WA n::Wo n
theorem mr (n:Nat):AllOk Tryz.prog gl (Cp n):=.cons (pU n) (Pq n)
def Al (n:Nat) {R:Type} (s suffix:BA) (k:Bool→Option R):Option R:=(Jl n s suffix).bind fun v=>k v
def qe (n:Nat) (s suffix:BA):Option Bool:=Al n s suffix some
theorem NY (n:Nat) {S:Type}:∀ s suffix (φ:_→Option S),(qe n s suffix).bind φ=Al n s suffix φ:=by
  intros;unfold qe Al;first | (simp only [ja,fa,iB,bB,oL,oX,nB,Option.bind_some]) | rfl
def kw (n:Nat):Hint Out:={ live:=fun c=>[],run:=fun c=>none,xm:=fun c q=>none }
theorem NO (n:Nat):qa tys (ia Out (Cp n)) (kw n) n (ba Tryz.f119) 0:=na (fun _=>rfl) _ _ (by kernel_rfl)
theorem TR (n:Nat):Enters Tryz.prog 119:=enters_of (c:=ba Tryz.f119) Tryz.func119 (by kernel_rfl) (by kernel_rfl)
def GC (n:Nat):Entry:=⟨119,pcT (.pair .str (.pair .str .unit)) (.one .bool) (fun xs=>qe n xs.1 xs.2.1),none,none⟩
theorem IC (n:Nat):EntryOk Tryz.prog gl (GC n):=wa (TR n) fun xs y h=>ma tys_ok (mr n) mixed (hint:=kw n) (n:=n) Tryz.func119 (ya (NO n)) (la (φ:=(fun y=>some (Out.ret (Ya (.one .bool) y)))) (by kernel_rfl) (NY n xs.1 xs.2.1 _) h)
def HC (n:Nat):List Entry:=GC n::Cp n
theorem xM (n:Nat):AllOk Tryz.prog gl (HC n):=.cons (IC n) (mr n)
theorem KN:Tryz.prog.funcs[199]?=some Tryz.f199:=by kernel_rfl
theorem LN:EntryOk Tryz.prog gl ⟨199,vd,some (.flat Neb),none⟩:=Cbb KN (by kernel_rfl) (by kernel_rfl) (by kernel_rfl) (by kernel_rfl)
def qv (n:Nat):List Entry:=⟨199,vd,some (.flat Neb),none⟩::HC n
theorem xE (n:Nat):AllOk Tryz.prog gl (qv n):=.cons LN (xM n)
theorem TA:Tryz.prog.funcs[181]?=some Tryz.f181:=by kernel_rfl
theorem UA:EntryOk Tryz.prog gl ⟨181,vd,some (.flat qE),none⟩:=tU TA (by kernel_rfl) (by kernel_rfl) (by kernel_rfl) (by kernel_rfl)
def Lf (n:Nat):List Entry:=⟨181,vd,some (.flat qE),none⟩::qv n
theorem li (n:Nat):AllOk Tryz.prog gl (Lf n):=.cons UA (xE n)
def eh (n:Nat) {R:Type} (s:BA) (c:Int) (k:Int→Option R):Option R:=k (Lib.indexByte s.data.toList (Nat.toUInt8 (Int.toNat c)))
def Nf (n:Nat) (s:BA) (c:Int):Option Int:=eh n s c some
theorem TX (n:Nat) {S:Type}:∀ s c (φ:_→Option S),(Nf n s c).bind φ=eh n s c φ:=by
  intros;unfold Nf eh;first | (simp only [ja,fa,iB,bB,oL,oX,nB,Option.bind_some]) | rfl
def vv (n:Nat):Hint Out:={ live:=fun c=>[],run:=fun c=>none,xm:=fun c q=>none }
theorem ON (n:Nat):qa tys (ia Out (Lf n)) (vv n) n (ba Tryz.f159) 0:=na (fun _=>rfl) _ _ (by kernel_rfl)
theorem bR (n:Nat):Enters Tryz.prog 159:=enters_of (c:=ba Tryz.f159) Tryz.func159 (by kernel_rfl) (by kernel_rfl)
def XA (n:Nat):Entry:=⟨159,pcT (.pair .str (.pair (.int .u8) .unit)) (.one (.int .i64)) (fun xs=>Nf n xs.1 xs.2.1),none,none⟩
theorem qU (n:Nat):EntryOk Tryz.prog gl (XA n):=wa (bR n) fun xs y h=>ma tys_ok (li n) mixed (hint:=vv n) (n:=n) Tryz.func159 (ya (ON n)) (la (φ:=(fun y=>some (Out.ret (Ya (.one (.int .i64)) y)))) (by kernel_rfl) (TX n xs.1 xs.2.1 _) h)
def Dp (n:Nat):List Entry:=XA n::Lf n
theorem nr (n:Nat):AllOk Tryz.prog gl (Dp n):=.cons (qU n) (li n)
def AD (n:Nat) {R:Type} (s substr:BA) (k:Int→Option R):Option R:=if ((substr.size:Int)==(0:Int))=false then if (substr.toList==s.toList)=true then k (0:Int) else if ((substr.size:Int)==(1:Int))=true then if 0≤(0:Int)∧(0:Int)<(substr.size:Int) then (Nf n s (bt substr (0:Int))).bind fun v=>k v else none else if (decide ((substr.size:Int)≥(s.size:Int)))=true then k (-1:Int) else none else k (0:Int)
def oK (n:Nat) (s substr:BA):Option Int:=AD n s substr some
theorem yfb (n:Nat) {S:Type}:∀ s substr (φ:_→Option S),(oK n s substr).bind φ=AD n s substr φ:=by
  intros;unfold oK AD;first | (simp only [ja,fa,iB,bB,oL,oX,nB,Option.bind_some]) | rfl
def pK (n:Nat):Hint Out:={ live:=fun c=>[],run:=fun c=>none,xm:=fun c q=>none }
theorem M2 (n:Nat):qa tys (ia Out (Dp n)) (pK n) n (ba Tryz.f139) 0:=⟨aa,⟨aa,⟨⟨aa,⟨⟨aa,aa⟩,⟨aa,⟨⟨aa,aa⟩,⟨aa,⟨⟨aa,aa⟩,⟨aa,⟨⟨aa,aa⟩,aa⟩⟩⟩⟩⟩⟩⟩⟩,⟨aa,⟨aa,⟨aa,⟨aa,⟨aa,⟨⟨fgb (by kernel_rfl),⟨⟨aa,⟨aa,aa⟩⟩,⟨⟨aa,⟨⟨aa,⟨⟨aa,⟨⟨aa,aa⟩,aa⟩⟩,aa⟩⟩,aa⟩⟩,⟨⟨aa,⟨⟨aa,aa⟩,aa⟩⟩,⟨aa,⟨aa,⟨aa,⟨⟨aa,⟨⟨aa,⟨⟨aa,aa⟩,aa⟩⟩,⟨aa,aa⟩⟩⟩,⟨aa,⟨⟨aa,⟨⟨aa,⟨⟨aa,aa⟩,aa⟩⟩,⟨aa,aa⟩⟩⟩,aa⟩⟩⟩⟩⟩⟩⟩⟩⟩⟩,⟨aa,aa⟩⟩⟩⟩⟩⟩⟩⟩⟩⟩
theorem T7 (n:Nat):Enters Tryz.prog 139:=enters_of (c:=ba Tryz.f139) Tryz.func139 (by kernel_rfl) (by kernel_rfl)
def rU (n:Nat):Entry:=⟨139,pcT (.pair .str (.pair .str .unit)) (.one (.int .i64)) (fun xs=>oK n xs.1 xs.2.1),none,none⟩
theorem Mbb (n:Nat):EntryOk Tryz.prog gl (rU n):=wa (T7 n) fun xs y h=>ma tys_ok (nr n) mixed (hint:=pK n) (n:=n) Tryz.func139 (ya (M2 n)) (la (φ:=(fun y=>some (Out.ret (Ya (.one (.int .i64)) y)))) (by kernel_rfl) (yfb n xs.1 xs.2.1 _) h)
def WG (n:Nat):List Entry:=rU n::Dp n
theorem BF (n:Nat):AllOk Tryz.prog gl (WG n):=.cons (Mbb n) (nr n)
def kE (n:Nat) {R:Type} (s substr:BA) (k:Int→Option R):Option R:=(oK n s substr).bind fun v=>k v
def Bl (n:Nat) (s substr:BA):Option Int:=kE n s substr some
theorem tgb (n:Nat) {S:Type}:∀ s substr (φ:_→Option S),(Bl n s substr).bind φ=kE n s substr φ:=by
  intros;unfold Bl kE;first | (simp only [ja,fa,iB,bB,oL,oX,nB,Option.bind_some]) | rfl
def yM (n:Nat):Hint Out:={ live:=fun c=>[],run:=fun c=>none,xm:=fun c q=>none }
theorem E5 (n:Nat):qa tys (ia Out (WG n)) (yM n) n (ba Tryz.f117) 0:=na (fun _=>rfl) _ _ (by kernel_rfl)
theorem W9 (n:Nat):Enters Tryz.prog 117:=enters_of (c:=ba Tryz.f117) Tryz.func117 (by kernel_rfl) (by kernel_rfl)
def pW (n:Nat):Entry:=⟨117,pcT (.pair .str (.pair .str .unit)) (.one (.int .i64)) (fun xs=>Bl n xs.1 xs.2.1),none,none⟩
theorem qW (n:Nat):EntryOk Tryz.prog gl (pW n):=wa (W9 n) fun xs y h=>ma tys_ok (BF n) mixed (hint:=yM n) (n:=n) Tryz.func117 (ya (E5 n)) (la (φ:=(fun y=>some (Out.ret (Ya (.one (.int .i64)) y)))) (by kernel_rfl) (tgb n xs.1 xs.2.1 _) h)
def oq (n:Nat):List Entry:=pW n::WG n
theorem rG (n:Nat):AllOk Tryz.prog gl (oq n):=.cons (qW n) (BF n)
def ey (n:Nat) {R:Type} (s1 substr1:BA) (n0:Int) (kn:BA→BA→Int→Option R) (ko:Unit→Option R) (kr:(Int)→Option R) (kp:Int→Option R):Option R:=(Bl n s1 substr1).bind fun v=>if (v==(-1:Int))=true then kr n0 else if 0≤(IntKind.wrap .i64 (v+(substr1.size:Int)))∧(IntKind.wrap .i64 (v+(substr1.size:Int)))≤(s1.size:Int) then kn (s1.extract (Int.toNat (IntKind.wrap .i64 (v+(substr1.size:Int)))) (Int.toNat (s1.size:Int))) substr1 (IntKind.wrap .i64 (n0+(1:Int))) else none
def lg (n:Nat):Nat→BA→BA→Int→Option (Lx Unit (Int))
 | 0,_,_,_=>none
 | m+1,s1,substr1,n0=>ey n s1 substr1 n0 (lg n m) (fun a=>some (.out a)) (fun a=>some (.ret a)) (fun p=>some (.pan p))
theorem C5 (n m:Nat) {S:Type}:∀ s1 substr1 n0 (φ:_→Option S),(lg n (m+1) s1 substr1 n0).bind φ=ey n s1 substr1 n0 (fun s1 substr1 n0=>(lg n m s1 substr1 n0).bind φ) (fun a=>φ (.out a)) (fun a=>φ (.ret a)) (fun p=>φ (.pan p)):=by
  intros;first | (simp only [lg,ey,ja,fa,iB,bB,oL,oX,nB,Option.bind_some]) | rfl
def Iu:List Sl:=.dat .str::.dat .str::.top::.top::.top::.dat (.int .i64)::tp 28 []
def Hu:List RS:=[]
def wM:List Sl:=tp 4 (.dat (.int .i64)::tp 29 [])
def vM:List RS:=[]
def Ze (K:XE→List AV→oa→Option Out):Lx Unit (Int)→Option Out:=fun x=>onL x (fun _=>none) (fun a=>yb wM vM (a,()) () (K .ret)) (fun _=>none)
def jE (n:Nat) {R:Type} (s substr:BA) (k:Int→Option R):Option R:=if ((substr.size:Int)==(0:Int))=true then none else if ((substr.size:Int)==(1:Int))=true then if 0≤(0:Int)∧(0:Int)<(substr.size:Int) then k ((Lib.countByte s.data.toList (Nat.toUInt8 (Int.toNat (bt substr (0:Int)))):Nat):Int) else none else (lg n n s substr (0:Int)).bind fun x_1=>onL x_1 (fun _=>none) (fun a_2=>k a_2) (fun _=>none)
def iE (n:Nat) (s substr:BA):Option Int:=jE n s substr some
theorem sgb (n:Nat) {S:Type}:∀ s substr (φ:_→Option S),(iE n s substr).bind φ=jE n s substr φ:=by
  intros;unfold iE jE;first | (simp only [ja,fa,iB,bB,oL,oX,nB,Option.bind_some]) | rfl
def Fo (n:Nat):Hint Out:={ live:=fun c=>(cond (Nat.beq c 0) (lv [0,1,5]) []),run:=fun c=>(cond (Nat.beq c 0) (some (ef Iu Hu fun σ ρ K=>(lg n n σ.1 σ.2.1 σ.2.2.1).bind (Ze K))) none),xm:=fun c q=>(cond (Nat.beq c 1&&q.isNone) (some [(4,none)]) none) }
def Eo (n:Nat) (K:XE→List AV→oa→Option Out) (m:Nat) (s1:BA) (substr1:BA) (n0:Int):Option Out:=Kb tys (ia Out (oq n)) (Fo n) n (ra [1,1,1,1,0,0] (ba Tryz.f184)) 0 Iu Hu K m (s1,(substr1,(n0,()))) ()
theorem uM (n:Nat) (K:XE→List AV→oa→Option Out):∀ (m:Nat) s1 substr1 n0,Eo n K m s1 substr1 n0=(lg n m s1 substr1 n0).bind (Ze K)
  | 0,_,_,_=>by kernel_rfl
  | m+1,s1,substr1,n0=>by
    have h1:Eo n K (m+1) s1 substr1 n0=ey n s1 substr1 n0 (Eo n K m) (fun a=>Ze K (.out a)) (fun a=>Ze K (.ret a)) (fun p=>Ze K (.pan p)):=by kernel_rfl
    have h2:Eo n K m=fun s1 substr1 n0=>(lg n m s1 substr1 n0).bind (Ze K):=by
      repeat (refine funext fun _=>?_)
      exact uM n K m _ _ _
    rw [h1,h2];exact (C5 n m _ _ _ (Ze K)).symm
theorem LY (n:Nat):ub tys (ia Out (oq n)) (Fo n) n (ra [1,1,1,1,0,0] (ba Tryz.f184)) 0:=Aa (sp:=Iu) (rp:=Hu) (by kernel_rfl) fun K σ ρ=>uM n K n σ.1 σ.2.1 σ.2.2.1
theorem D5 (n:Nat):qa tys (ia Out (oq n)) (Fo n) n (ba Tryz.f184) 0:=⟨aa,⟨⟨aa,⟨⟨aa,aa⟩,aa⟩⟩,⟨⟨aa,⟨⟨aa,aa⟩,aa⟩⟩,⟨aa,⟨LY n,⟨aa,⟨⟨aa,⟨⟨aa,aa⟩,aa⟩⟩,⟨aa,aa⟩⟩⟩⟩⟩⟩⟩⟩
theorem V9 (n:Nat):Enters Tryz.prog 184:=enters_of (c:=ba Tryz.f184) Tryz.func184 (by kernel_rfl) (by kernel_rfl)
def mW (n:Nat):Entry:=⟨184,pcT (.pair .str (.pair .str .unit)) (.one (.int .i64)) (fun xs=>iE n xs.1 xs.2.1),none,none⟩
theorem Ucb (n:Nat):EntryOk Tryz.prog gl (mW n):=wa (V9 n) fun xs y h=>ma tys_ok (rG n) mixed (hint:=Fo n) (n:=n) Tryz.func184 (ya (D5 n)) (la (φ:=(fun y=>some (Out.ret (Ya (.one (.int .i64)) y)))) (by kernel_rfl) (sgb n xs.1 xs.2.1 _) h)
def lq (n:Nat):List Entry:=mW n::oq n
theorem qG (n:Nat):AllOk Tryz.prog gl (lq n):=.cons (Ucb n) (rG n)
end
end Go.Proofs.YtdohilmgblkppaaGreatDoor.AM
