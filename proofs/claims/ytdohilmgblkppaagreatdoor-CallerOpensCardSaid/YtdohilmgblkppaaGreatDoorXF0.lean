/- Typed functions that tell what the Go functions of this seat answer, and proofs of it, by program (gen.py). -/
import Derived.Test.YtdohilmgblkppaaGreatDoorXT
import Derived.Test.YtdohilmgblkppaaGreatDoorXB
import Derived.Test.YtdohilmgblkppaaGreatDoorXL
import Derived.Test.YtdohilmgblkppaaGreatDoorXM
import Derived.Test.YtdohilmgblkppaaGreatDoorXN
set_option linter.all false
set_option linter.unusedVariables false
set_option linter.unusedSimpArgs false
set_option maxRecDepth 1000000
set_option maxHeartbeats 0
namespace Go.Proofs.YtdohilmgblkppaaGreatDoor.AM
open Go Go.RowKit
noncomputable section
abbrev K0:CTy:=(.pair (.int .i64) (.pair (.int .i64) (.pair (.int .i64) (.pair (.pair .str (.pair .bool .unit)) (.pair (.int .i64) (.pair .str (.pair .bool (.pair (.pair .str (.pair .str .unit)) (.pair (.sl (.pair .str (.pair .str .unit))) (.pair (.sl .str) (.pair (.int .i64) (.pair .bool .unit))))))))))))
abbrev K1:CTy:=(.pair K0 .unit)
abbrev K2:CTy:=(.pair (.int .i64) (.pair .str (.pair .bool (.pair (.pair .str (.pair .str .unit)) (.pair (.int .i64) .unit)))))
abbrev K3:CTy:=(.pair (.int .i64) (.pair (.int .i64) (.pair (.int .i64) (.pair (.pair .str (.pair .bool .unit)) (.pair K2 .unit)))))
abbrev K4:CTy:=(.pair K0 (.pair (.sl K3) .unit))
abbrev K5:CTy:=(.pair K4 .unit)
abbrev K6:CTy:=(.pair (.sl (.pair .str (.pair .str .unit))) (.pair (.pair .str (.pair .str .unit)) .unit))
abbrev K7:CTy:=(.pair .str (.pair .str (.pair (.int .i64) (.pair (.int .i64) .unit))))
abbrev K8:CTy:=(.pair (.pair .str (.pair .str .unit)) (.pair .bool (.pair (.int .i64) .unit)))
abbrev K9:CTy:=(.pair (.pair .str (.pair .str .unit)) (.pair .bool (.pair .str .unit)))
abbrev K10:CTy:=(.pair K2 (.pair .bool .unit))
abbrev K11:CTy:=(.pair K2 .unit)
abbrev K12:CTy:=(.pair K2 (.pair (.int .i64) .unit))
abbrev K13:CTy:=(.pair K0 (.pair K2 .unit))
abbrev K14:CTy:=(.pair K0 (.pair (.int .i64) (.pair .str .unit)))
abbrev K15:CTy:=(.pair K0 (.pair (.int .i64) (.pair .str (.pair (.int .i64) .unit))))
abbrev K16:CTy:=(.pair K0 (.pair (.pair .str (.pair .bool .unit)) .unit))
abbrev K17:CTy:=(.pair (.sl (.pair .str (.pair .str .unit))) (.pair (.sl (.pair .str (.pair .str .unit))) .unit))
abbrev K18:CTy:=(.pair K0 (.pair K0 .unit))
abbrev K19:CTy:=(.pair K0 (.pair (.int .i64) .unit))
abbrev K20:CTy:=(.pair (.pair .str (.pair .str .unit)) (.pair .bool (.pair .bool .unit)))
abbrev K21:CTy:=(.pair K0 (.pair .bool .unit))
abbrev K22:CTy:=(.pair K0 (.pair K3 .unit))
abbrev K23:CTy:=(.pair K4 (.pair (.int .i64) .unit))
abbrev U0:Type:=(BA×(BA×Unit))
abbrev T1:Type:=(Int×(BA×(Bool×(U0×(Int×Unit)))))
abbrev U1:Type:=(Int×Int×Int×BA×Bool×Int×BA×Bool×BA×BA×(Sq U0)×(Sq BA)×Int×Bool)
abbrev U2:Type:=(Int×Int×Int×BA×Bool×Int×BA×Bool×BA×BA×Int×Bool×(Sq U0)×(Sq BA)×Unit)
abbrev U3:Type:=(Int×Int×Int×BA×Bool×Int×BA×Bool×BA×BA×Int×Bool×Int×(Sq U0)×(Sq BA)×Unit)
abbrev U4:Type:=(Int×Int×Int×Int×Int×BA×Bool×Int×BA×Bool×BA×BA×(Sq U0)×(Sq BA)×Int×Bool)
abbrev U5:Type:=(Int×Int×Int×Int×BA×Bool×Int×BA×Bool×BA×BA×(Sq U0)×(Sq BA)×Int×Bool)
abbrev U7:Type:=(Int×BA×BA×Int×BA×Bool×BA×BA×Int×Int×BA×Bool×BA×BA×Int)
abbrev U8:Type:=(Int×Int×BA×Bool×BA×BA×Int)
abbrev U9:Type:=(BA×(Bool×Unit))
abbrev T0:Type:=(Int×(Int×(Int×(U9×(Int×(BA×(Bool×(U0×((Sq U0)×((Sq BA)×(Int×(Bool×Unit))))))))))))
abbrev T2:Type:=(Int×(Int×(Int×(U9×(T1×Unit)))))
abbrev U6:Type:=(T0×((Sq T2)×Unit))
abbrev U10:Type:=(Int×Int×Int×BA×Bool×Int×BA×Bool×BA×BA×Int×Bool×Int×BA×Int×(Sq U0)×(Sq BA)×Unit)
abbrev U11:Type:=(Int×Int×Int×Int×BA×Bool×Int×BA×Bool×BA×BA×(Sq U0)×(Sq BA)×Int×Bool×(Sq T2))
abbrev U12:Type:=(BA×Int×Int×BA×Bool×BA×BA×Int)
abbrev U13:Type:=(Int×Int×Int×BA×Bool×Int×BA×Bool×BA×BA×Int×Bool×(Sq U0)×(Sq BA))
abbrev U14:Type:=(T0×Int×BA×Unit)
abbrev U15:Type:=(Int×BA×Int×BA×Bool×BA×BA×Int×Int×BA×Bool×BA×BA×Int)
abbrev U16:Type:=(BA×Int×Int×BA×Bool×BA×BA×Int×Int×BA×Bool×BA×BA×Int)
abbrev U17:Type:=(Bool×Int×BA×Bool×BA×BA×Int×Int×BA×Bool×BA×BA×Int)
abbrev U18:Type:=(Int×BA×Bool×BA×BA×Int×Int×BA×Bool×BA×BA×Int)
abbrev U19:Type:=((Sq Int)×Unit)
abbrev U20:Type:=(BA×Int×Int×Int×BA×Bool×BA×BA×Int)
def bkb (n:Nat):List Entry:=[]
theorem pdb (n:Nat):AllOk Tryz.prog gl (bkb n):=.nil
def Hc (n:Nat) {R:Type} (l1:(Sq BA)) (n0 i:Int) (kn:(Sq BA)→Int→Int→Option R) (ko:(Int)→Option R) (kr:Unit→Option R) (kp:Int→Option R):Option R:=if (decide (i<(l1.n:Int)))=true then if (decide (n0<(1048576:Int)))=true then if 0≤i∧i<(l1.n:Int) then kn l1 (IntKind.wrap .i64 (n0+((l1.at' (Int.toNat i)).size:Int))) (IntKind.wrap .i64 (i+(1:Int))) else none else ko n0 else ko n0
def Va (n:Nat):Nat→(Sq BA)→Int→Int→Option (Lx (Int) Unit)
 | 0,_,_,_=>none
 | m+1,l1,n0,i=>Hc n l1 n0 i (Va n m) (fun a=>some (.out a)) (fun a=>some (.ret a)) (fun p=>some (.pan p))
theorem QJ (n m:Nat) {S:Type}:∀ l1 n0 i (φ:_→Option S),(Va n (m+1) l1 n0 i).bind φ=Hc n l1 n0 i (fun l1 n0 i=>(Va n m l1 n0 i).bind φ) (fun a=>φ (.out a)) (fun a=>φ (.ret a)) (fun p=>φ (.pan p)):=by
  intros;first | (simp only [Va,Hc,ja,aa,iB,bB,oL,oX,nB,Option.bind_some]) | rfl
def fi:List Sl:=.dat (.sl .str)::.top::.top::.dat (.int .i64)::.dat (.int .i64)::tp 20 []
def ei:List RS:=[]
def kw:List Sl:=.top::.top::.top::.dat (.int .i64)::tp 21 []
def jw:List RS:=[]
def Xb (K:XE→List AV→oa→Option Out):Lx (Int) Unit→Option Out:=fun x=>onL x (fun a=>tc kw jw (a,()) () (K (.exit 0))) (fun _=>none) (fun _=>none)
def gj (n:Nat) {R:Type} (l:(Sq BA)) (k:Int→Option R):Option R:=(Va n n l (l.n:Int) (0:Int)).bind fun x_1=>onL x_1 (fun a_2=>k a_2) (fun _=>none) (fun _=>none)
def jh (n:Nat) (l:(Sq BA)):Option Int:=gj n l some
theorem OS (n:Nat) {S:Type}:∀ l (φ:_→Option S),(jh n l).bind φ=gj n l φ:=by
  intros;unfold jh gj;first | (simp only [ja,aa,iB,bB,oL,oX,nB,Option.bind_some]) | rfl
def Pf (n:Nat):Hint Out:={ live:=fun c=>(cond (Nat.beq c 0) [(0,some (.sl .str)),(3,none),(4,none)] []),run:=fun c=>(cond (Nat.beq c 0) (some (Zg fi ei fun σ ρ K=>(Va n n σ.1 σ.2.1 σ.2.2.1).bind (Xb K))) none),xm:=fun c q=>(cond (Nat.beq c 0&&Nat.beq (q.getD 1000000) 0&&q.isSome) (some [(3,none)]) none) }
def Of (n:Nat) (K:XE→List AV→oa→Option Out) (m:Nat) (l1:(Sq BA)) (n0:Int) (i:Int):Option Out:=Nc tys (ia Out (bkb n)) (Pf n) n (wa [1,1,0,1,0,0] (fa Tryz.f57)) 0 fi ei K m (l1,(n0,(i,()))) ()
theorem er (n:Nat) (K:XE→List AV→oa→Option Out):∀ (m:Nat) l1 n0 i,Of n K m l1 n0 i=(Va n m l1 n0 i).bind (Xb K)
  | 0,_,_,_=>by kernel_rfl
  | m+1,l1,n0,i=>by
    have h1:Of n K (m+1) l1 n0 i=Hc n l1 n0 i (Of n K m) (fun a=>Xb K (.out a)) (fun a=>Xb K (.ret a)) (fun p=>Xb K (.pan p)):=by kernel_rfl
    have h2:Of n K m=fun l1 n0 i=>(Va n m l1 n0 i).bind (Xb K):=by
      repeat (refine funext fun _=>?_)
      exact er n K m _ _ _
    rw [h1,h2];exact (QJ n m _ _ _ (Xb K)).symm
theorem nG (n:Nat):Bc tys (ia Out (bkb n)) (Pf n) n (wa [1,1,0,1,0,0] (fa Tryz.f57)) 0:=Ea (sp:=fi) (rp:=ei) (by kernel_rfl) fun K σ ρ=>er n K n σ.1 σ.2.1 σ.2.2.1
theorem RJ (n:Nat):qa tys (ia Out (bkb n)) (Pf n) n (fa Tryz.f57) 0:=⟨trivial,⟨trivial,⟨⟨trivial,⟨nG n,⟨⟨trivial,⟨trivial,trivial⟩⟩,⟨trivial,trivial⟩⟩⟩⟩,⟨trivial,trivial⟩⟩⟩⟩
theorem WL (n:Nat):Enters Tryz.prog 57:=enters_of (c:=fa Tryz.f57) Tryz.func57 (by kernel_rfl) (by kernel_rfl)
def Qw (n:Nat):Entry:=⟨57,pcT (.pair (.sl .str) .unit) (.one (.int .i64)) (fun xs=>jh n xs.1),none,none⟩
theorem LO (n:Nat):EntryOk Tryz.prog gl (Qw n):=za (WL n) fun xs y h=>na tys_ok (pdb n) mixed (hint:=Pf n) (n:=n) Tryz.func57 (Aa (RJ n)) (la (φ:=(fun y=>some (Out.ret (qb (.one (.int .i64)) y)))) (by kernel_rfl) (OS n xs.1 _) h)
def Bf (n:Nat):List Entry:=Qw n::bkb n
theorem qp (n:Nat):AllOk Tryz.prog gl (Bf n):=.cons (LO n) (pdb n)
def jb (n:Nat) {R:Type} (n0 i c1 c2 c3:Int) (c4:BA) (c5:Bool) (c6:Int) (c7:BA) (c8:Bool) (c9 c10:BA) (c11:(Sq U0)) (c12:(Sq BA)) (c13:Int) (c14:Bool) (kn:Int→Int→Int→Int→Int→BA→Bool→Int→BA→Bool→BA→BA→(Sq U0)→(Sq BA)→Int→Bool→Option R) (ko:(Int)→Option R) (kr:Unit→Option R) (kp:Int→Option R):Option R:=if (decide (i<(c11.n:Int)))=true then if (decide (n0<(1048576:Int)))=true then if 0≤i∧i<(c11.n:Int) then if 0≤i∧i<(c11.n:Int) then kn (IntKind.wrap .i64 ((IntKind.wrap .i64 ((IntKind.wrap .i64 (n0+(1:Int)))+((((c11.at' (Int.toNat i))).1).size:Int)))+(((((c11.at' (Int.toNat i))).2).1).size:Int))) (IntKind.wrap .i64 (i+(1:Int))) c1 c2 c3 c4 c5 c6 c7 c8 c9 c10 c11 c12 c13 c14 else none else none else ko n0 else ko n0
def Ha (n:Nat):Nat→Int→Int→Int→Int→Int→BA→Bool→Int→BA→Bool→BA→BA→(Sq U0)→(Sq BA)→Int→Bool→Option (Lx (Int) Unit)
 | 0,_,_,_,_,_,_,_,_,_,_,_,_,_,_,_,_=>none
 | m+1,n0,i,c1,c2,c3,c4,c5,c6,c7,c8,c9,c10,c11,c12,c13,c14=>jb n n0 i c1 c2 c3 c4 c5 c6 c7 c8 c9 c10 c11 c12 c13 c14 (Ha n m) (fun a=>some (.out a)) (fun a=>some (.ret a)) (fun p=>some (.pan p))
theorem vC (n m:Nat) {S:Type}:∀ n0 i c1 c2 c3 c4 c5 c6 c7 c8 c9 c10 c11 c12 c13 c14 (φ:_→Option S),(Ha n (m+1) n0 i c1 c2 c3 c4 c5 c6 c7 c8 c9 c10 c11 c12 c13 c14).bind φ=jb n n0 i c1 c2 c3 c4 c5 c6 c7 c8 c9 c10 c11 c12 c13 c14 (fun n0 i c1 c2 c3 c4 c5 c6 c7 c8 c9 c10 c11 c12 c13 c14=>(Ha n m n0 i c1 c2 c3 c4 c5 c6 c7 c8 c9 c10 c11 c12 c13 c14).bind φ) (fun a=>φ (.out a)) (fun a=>φ (.ret a)) (fun p=>φ (.pan p)):=by
  intros;first | (simp only [Ha,jb,ja,aa,iB,bB,oL,oX,nB,Option.bind_some]) | rfl
def Fg:List Sl:=.top::.ptr 0 0 0::.top::.dat (.int .i64)::.dat (.int .i64)::tp 52 []
def Eg:List RS:=[.box 29 14 true [.dat (.int .i64),.dat (.int .i64),.dat (.int .i64),.dat .str,.dat .bool,.dat (.int .i64),.dat .str,.dat .bool,.dat .str,.dat .str,.dat (.sl (.pair .str (.pair .str .unit))),.dat (.sl .str),.dat (.int .i64),.dat .bool]]
def Ps:List Sl:=.top::.top::.top::.dat (.int .i64)::tp 53 []
def Ns:List RS:=[]
def rb (K:XE→List AV→oa→Option Out):Lx (Int) Unit→Option Out:=fun x=>onL x (fun a=>tc Ps Ns (a,()) () (K (.exit 0))) (fun _=>none) (fun _=>none)
def ch (n:Nat) {R:Type} (c:T0) (k:Int→Option R):Option R:=(jh n c.2.2.2.2.2.2.2.2.2.1).bind fun v=>(Ha n n (IntKind.wrap .i64 ((IntKind.wrap .i64 ((IntKind.wrap .i64 ((IntKind.wrap .i64 ((c.2.2.2.2.2.1.size:Int)+(c.2.2.2.1.1.size:Int)))+v))+(c.2.2.2.2.2.2.2.1.1.size:Int)))+(c.2.2.2.2.2.2.2.1.2.1.size:Int))) (0:Int) c.1 c.2.1 c.2.2.1 c.2.2.2.1.1 c.2.2.2.1.2.1 c.2.2.2.2.1 c.2.2.2.2.2.1 c.2.2.2.2.2.2.1 c.2.2.2.2.2.2.2.1.1 c.2.2.2.2.2.2.2.1.2.1 c.2.2.2.2.2.2.2.2.1 c.2.2.2.2.2.2.2.2.2.1 c.2.2.2.2.2.2.2.2.2.2.1 c.2.2.2.2.2.2.2.2.2.2.2.1).bind fun x_1=>onL x_1 (fun a_2=>k a_2) (fun _=>none) (fun _=>none)
def xe (n:Nat) (c:T0):Option Int:=ch n c some
theorem PL (n:Nat) {S:Type}:∀ c (φ:_→Option S),(xe n c).bind φ=ch n c φ:=by
  intros;unfold xe ch;first | (simp only [ja,aa,iB,bB,oL,oX,nB,Option.bind_some]) | rfl
def be (n:Nat):Hint Out:={ live:=fun c=>(cond (Nat.beq c 0) (lv [1,3,4]) []),run:=fun c=>(cond (Nat.beq c 0) (some (Zg Fg Eg fun σ ρ K=>(Ha n n σ.1 σ.2.1 ρ.1.1 ρ.1.2.1 ρ.1.2.2.1 ρ.1.2.2.2.1 ρ.1.2.2.2.2.1 ρ.1.2.2.2.2.2.1 ρ.1.2.2.2.2.2.2.1 ρ.1.2.2.2.2.2.2.2.1 ρ.1.2.2.2.2.2.2.2.2.1 ρ.1.2.2.2.2.2.2.2.2.2.1 ρ.1.2.2.2.2.2.2.2.2.2.2.1 ρ.1.2.2.2.2.2.2.2.2.2.2.2.1 ρ.1.2.2.2.2.2.2.2.2.2.2.2.2.1 ρ.1.2.2.2.2.2.2.2.2.2.2.2.2.2.1).bind (rb K))) none),xm:=fun c q=>(cond (Nat.beq c 0&&Nat.beq (q.getD 1000000) 0&&q.isSome) (some [(3,none)]) none) }
def ae (n:Nat) (K:XE→List AV→oa→Option Out) (m:Nat) (n0:Int) (i:Int) (c1:Int) (c2:Int) (c3:Int) (c4:BA) (c5:Bool) (c6:Int) (c7:BA) (c8:Bool) (c9:BA) (c10:BA) (c11:(Sq U0)) (c12:(Sq BA)) (c13:Int) (c14:Bool):Option Out:=Nc tys (ia Out (Bf n)) (be n) n (wa [1,1,0,1,0,0] (fa Tryz.f28)) 0 Fg Eg K m (n0,(i,())) ((c1,(c2,(c3,(c4,(c5,(c6,(c7,(c8,(c9,(c10,(c11,(c12,(c13,(c14,())))))))))))))),())
theorem im (n:Nat) (K:XE→List AV→oa→Option Out):∀ (m:Nat) n0 i c1 c2 c3 c4 c5 c6 c7 c8 c9 c10 c11 c12 c13 c14,ae n K m n0 i c1 c2 c3 c4 c5 c6 c7 c8 c9 c10 c11 c12 c13 c14=(Ha n m n0 i c1 c2 c3 c4 c5 c6 c7 c8 c9 c10 c11 c12 c13 c14).bind (rb K)
  | 0,_,_,_,_,_,_,_,_,_,_,_,_,_,_,_,_=>by kernel_rfl
  | m+1,n0,i,c1,c2,c3,c4,c5,c6,c7,c8,c9,c10,c11,c12,c13,c14=>by
    have h1:ae n K (m+1) n0 i c1 c2 c3 c4 c5 c6 c7 c8 c9 c10 c11 c12 c13 c14=jb n n0 i c1 c2 c3 c4 c5 c6 c7 c8 c9 c10 c11 c12 c13 c14 (ae n K m) (fun a=>rb K (.out a)) (fun a=>rb K (.ret a)) (fun p=>rb K (.pan p)):=by kernel_rfl
    have h2:ae n K m=fun n0 i c1 c2 c3 c4 c5 c6 c7 c8 c9 c10 c11 c12 c13 c14=>(Ha n m n0 i c1 c2 c3 c4 c5 c6 c7 c8 c9 c10 c11 c12 c13 c14).bind (rb K):=by
      repeat (refine funext fun _=>?_)
      exact im n K m _ _ _ _ _ _ _ _ _ _ _ _ _ _ _ _
    rw [h1,h2];exact (vC n m _ _ _ _ _ _ _ _ _ _ _ _ _ _ _ _ (rb K)).symm
theorem CA (n:Nat):Bc tys (ia Out (Bf n)) (be n) n (wa [1,1,0,1,0,0] (fa Tryz.f28)) 0:=Ea (sp:=Fg) (rp:=Eg) (by kernel_rfl) fun K σ ρ=>im n K n σ.1 σ.2.1 ρ.1.1 ρ.1.2.1 ρ.1.2.2.1 ρ.1.2.2.2.1 ρ.1.2.2.2.2.1 ρ.1.2.2.2.2.2.1 ρ.1.2.2.2.2.2.2.1 ρ.1.2.2.2.2.2.2.2.1 ρ.1.2.2.2.2.2.2.2.2.1 ρ.1.2.2.2.2.2.2.2.2.2.1 ρ.1.2.2.2.2.2.2.2.2.2.2.1 ρ.1.2.2.2.2.2.2.2.2.2.2.2.1 ρ.1.2.2.2.2.2.2.2.2.2.2.2.2.1 ρ.1.2.2.2.2.2.2.2.2.2.2.2.2.2.1
theorem wC (n:Nat):qa tys (ia Out (Bf n)) (be n) n (fa Tryz.f28) 0:=⟨trivial,⟨trivial,⟨⟨trivial,⟨CA n,⟨⟨trivial,⟨trivial,trivial⟩⟩,⟨trivial,trivial⟩⟩⟩⟩,⟨trivial,trivial⟩⟩⟩⟩
theorem lG (n:Nat):Enters Tryz.prog 28:=enters_of (c:=fa Tryz.f28) Tryz.func28 (by kernel_rfl) (by kernel_rfl)
def ar (n:Nat):Entry:=⟨28,pcT K1 (.one (.int .i64)) (fun xs=>xe n xs.1),none,none⟩
theorem MJ (n:Nat):EntryOk Tryz.prog gl (ar n):=za (lG n) fun xs y h=>na tys_ok (qp n) mixed (hint:=be n) (n:=n) Tryz.func28 (Aa (wC n)) (la (φ:=(fun y=>some (Out.ret (qb (.one (.int .i64)) y)))) (by kernel_rfl) (PL n xs.1 _) h)
def Ld (n:Nat):List Entry:=ar n::Bf n
theorem ul (n:Nat):AllOk Tryz.prog gl (Ld n):=.cons (MJ n) (qp n)
def sf (n:Nat) {R:Type} (n0 i p1 p2 p3:Int) (p4:BA) (p5:Bool) (p6:Int) (p7:BA) (p8:Bool) (p9 p10:BA) (p11:(Sq U0)) (p12:(Sq BA)) (p13:Int) (p14:Bool) (p15:(Sq T2)) (kn:Int→Int→Int→Int→Int→BA→Bool→Int→BA→Bool→BA→BA→(Sq U0)→(Sq BA)→Int→Bool→(Sq T2)→Option R) (ko:U11→Option R) (kr:Unit→Option R) (kp:Int→Option R):Option R:=if (decide (i<(p15.n:Int)))=true then if (decide (n0<(1048576:Int)))=true then if 0≤i∧i<(p15.n:Int) then if 0≤i∧i<(p15.n:Int) then if 0≤i∧i<(p15.n:Int) then if 0≤i∧i<(p15.n:Int) then kn (IntKind.wrap .i64 ((IntKind.wrap .i64 ((IntKind.wrap .i64 ((IntKind.wrap .i64 ((IntKind.wrap .i64 (n0+(1:Int)))+((((((((p15.at' (Int.toNat i))).2).2).2).1).1).size:Int)))+((((((((((p15.at' (Int.toNat i))).2).2).2).2).1).2).1).size:Int)))+(((((((((((((p15.at' (Int.toNat i))).2).2).2).2).1).2).2).2).1).1).size:Int)))+((((((((((((((p15.at' (Int.toNat i))).2).2).2).2).1).2).2).2).1).2).1).size:Int))) (IntKind.wrap .i64 (i+(1:Int))) p1 p2 p3 p4 p5 p6 p7 p8 p9 p10 p11 p12 p13 p14 p15 else none else none else none else none else ko (n0,p1,p2,p3,p4,p5,p6,p7,p8,p9,p10,p11,p12,p13,p14,p15)
 else ko (n0,p1,p2,p3,p4,p5,p6,p7,p8,p9,p10,p11,p12,p13,p14,p15)
def Yb (n:Nat):Nat→Int→Int→Int→Int→Int→BA→Bool→Int→BA→Bool→BA→BA→(Sq U0)→(Sq BA)→Int→Bool→(Sq T2)→Option (Lx U11 Unit)
 | 0,_,_,_,_,_,_,_,_,_,_,_,_,_,_,_,_,_=>none
 | m+1,n0,i,p1,p2,p3,p4,p5,p6,p7,p8,p9,p10,p11,p12,p13,p14,p15=>sf n n0 i p1 p2 p3 p4 p5 p6 p7 p8 p9 p10 p11 p12 p13 p14 p15 (Yb n m) (fun a=>some (.out a)) (fun a=>some (.ret a)) (fun p=>some (.pan p))
theorem AY (n m:Nat) {S:Type}:∀ n0 i p1 p2 p3 p4 p5 p6 p7 p8 p9 p10 p11 p12 p13 p14 p15 (φ:_→Option S),(Yb n (m+1) n0 i p1 p2 p3 p4 p5 p6 p7 p8 p9 p10 p11 p12 p13 p14 p15).bind φ=sf n n0 i p1 p2 p3 p4 p5 p6 p7 p8 p9 p10 p11 p12 p13 p14 p15 (fun n0 i p1 p2 p3 p4 p5 p6 p7 p8 p9 p10 p11 p12 p13 p14 p15=>(Yb n m n0 i p1 p2 p3 p4 p5 p6 p7 p8 p9 p10 p11 p12 p13 p14 p15).bind φ) (fun a=>φ (.out a)) (fun a=>φ (.ret a)) (fun p=>φ (.pan p)):=by
  intros;first | (simp only [Yb,sf,ja,aa,iB,bB,oL,oX,nB,Option.bind_some]) | rfl
def Rs:List Sl:=.top::.ptr 0 0 0::.top::.dat (.int .i64)::.dat (.int .i64)::tp 62 []
def Qs:List RS:=[.box 32 15 true [.dat (.int .i64),.dat (.int .i64),.dat (.int .i64),.dat .str,.dat .bool,.dat (.int .i64),.dat .str,.dat .bool,.dat .str,.dat .str,.dat (.sl (.pair .str (.pair .str .unit))),.dat (.sl .str),.dat (.int .i64),.dat .bool,.dat (.sl K3)]]
def aK:List Sl:=.top::.ptr 0 0 0::.top::.dat (.int .i64)::tp 63 []
def ZJ:List RS:=[.box 32 15 true [.dat (.int .i64),.dat (.int .i64),.dat (.int .i64),.dat .str,.dat .bool,.dat (.int .i64),.dat .str,.dat .bool,.dat .str,.dat .str,.dat (.sl (.pair .str (.pair .str .unit))),.dat (.sl .str),.dat (.int .i64),.dat .bool,.dat (.sl K3)]]
def tf (K:XE→List AV→oa→Option Out):Lx U11 Unit→Option Out:=fun x=>onL x (fun a=>tc aK ZJ (a.1,()) ((a.2.1,(a.2.2.1,(a.2.2.2.1,(a.2.2.2.2.1,(a.2.2.2.2.2.1,(a.2.2.2.2.2.2.1,(a.2.2.2.2.2.2.2.1,(a.2.2.2.2.2.2.2.2.1,(a.2.2.2.2.2.2.2.2.2.1,(a.2.2.2.2.2.2.2.2.2.2.1,(a.2.2.2.2.2.2.2.2.2.2.2.1,(a.2.2.2.2.2.2.2.2.2.2.2.2.1,(a.2.2.2.2.2.2.2.2.2.2.2.2.2.1,(a.2.2.2.2.2.2.2.2.2.2.2.2.2.2.1,(a.2.2.2.2.2.2.2.2.2.2.2.2.2.2.2,()))))))))))))))),()) (K (.exit 0))) (fun _=>none) (fun _=>none)
def MB (n:Nat) {R:Type} (p:U6) (k:Bool→Option R):Option R:=(xe n p.1).bind fun v=>(Yb n n v (0:Int) p.1.1 p.1.2.1 p.1.2.2.1 p.1.2.2.2.1.1 p.1.2.2.2.1.2.1 p.1.2.2.2.2.1 p.1.2.2.2.2.2.1 p.1.2.2.2.2.2.2.1 p.1.2.2.2.2.2.2.2.1.1 p.1.2.2.2.2.2.2.2.1.2.1 p.1.2.2.2.2.2.2.2.2.1 p.1.2.2.2.2.2.2.2.2.2.1 p.1.2.2.2.2.2.2.2.2.2.2.1 p.1.2.2.2.2.2.2.2.2.2.2.2.1 p.2.1).bind fun x_1=>onL x_1 (fun a_2=>if (decide (a_2.1>(20000:Int)))=false then k (decide ((a_2.2.2.2.2.2.2.2.2.2.2.2.2.2.2.2.n:Int)>(100:Int))) else k true) (fun _=>none) (fun _=>none)
def mw (n:Nat) (p:U6):Option Bool:=MB n p some
theorem rcb (n:Nat) {S:Type}:∀ p (φ:_→Option S),(mw n p).bind φ=MB n p φ:=by
  intros;unfold mw MB;first | (simp only [ja,aa,iB,bB,oL,oX,nB,Option.bind_some]) | rfl
def zn (n:Nat):Hint Out:={ live:=fun c=>(cond (Nat.beq c 0) (lv [1,3,4]) []),run:=fun c=>(cond (Nat.beq c 0) (some (Zg Rs Qs fun σ ρ K=>(Yb n n σ.1 σ.2.1 ρ.1.1 ρ.1.2.1 ρ.1.2.2.1 ρ.1.2.2.2.1 ρ.1.2.2.2.2.1 ρ.1.2.2.2.2.2.1 ρ.1.2.2.2.2.2.2.1 ρ.1.2.2.2.2.2.2.2.1 ρ.1.2.2.2.2.2.2.2.2.1 ρ.1.2.2.2.2.2.2.2.2.2.1 ρ.1.2.2.2.2.2.2.2.2.2.2.1 ρ.1.2.2.2.2.2.2.2.2.2.2.2.1 ρ.1.2.2.2.2.2.2.2.2.2.2.2.2.1 ρ.1.2.2.2.2.2.2.2.2.2.2.2.2.2.1 ρ.1.2.2.2.2.2.2.2.2.2.2.2.2.2.2.1).bind (tf K))) none),xm:=fun c q=>(cond (Nat.beq c 0&&Nat.beq (q.getD 1000000) 0&&q.isSome) (some [(1,none),(3,none)]) none) }
def yn (n:Nat) (K:XE→List AV→oa→Option Out) (m:Nat) (n0:Int) (i:Int) (p1:Int) (p2:Int) (p3:Int) (p4:BA) (p5:Bool) (p6:Int) (p7:BA) (p8:Bool) (p9:BA) (p10:BA) (p11:(Sq U0)) (p12:(Sq BA)) (p13:Int) (p14:Bool) (p15:(Sq T2)):Option Out:=Nc tys (ia Out (Ld n)) (zn n) n (wa [1,1,0,1,0,0] (fa Tryz.f15)) 0 Rs Qs K m (n0,(i,())) ((p1,(p2,(p3,(p4,(p5,(p6,(p7,(p8,(p9,(p10,(p11,(p12,(p13,(p14,(p15,()))))))))))))))),())
theorem YJ (n:Nat) (K:XE→List AV→oa→Option Out):∀ (m:Nat) n0 i p1 p2 p3 p4 p5 p6 p7 p8 p9 p10 p11 p12 p13 p14 p15,yn n K m n0 i p1 p2 p3 p4 p5 p6 p7 p8 p9 p10 p11 p12 p13 p14 p15=(Yb n m n0 i p1 p2 p3 p4 p5 p6 p7 p8 p9 p10 p11 p12 p13 p14 p15).bind (tf K)
  | 0,_,_,_,_,_,_,_,_,_,_,_,_,_,_,_,_,_=>by kernel_rfl
  | m+1,n0,i,p1,p2,p3,p4,p5,p6,p7,p8,p9,p10,p11,p12,p13,p14,p15=>by
    have h1:yn n K (m+1) n0 i p1 p2 p3 p4 p5 p6 p7 p8 p9 p10 p11 p12 p13 p14 p15=sf n n0 i p1 p2 p3 p4 p5 p6 p7 p8 p9 p10 p11 p12 p13 p14 p15 (yn n K m) (fun a=>tf K (.out a)) (fun a=>tf K (.ret a)) (fun p=>tf K (.pan p)):=by kernel_rfl
    have h2:yn n K m=fun n0 i p1 p2 p3 p4 p5 p6 p7 p8 p9 p10 p11 p12 p13 p14 p15=>(Yb n m n0 i p1 p2 p3 p4 p5 p6 p7 p8 p9 p10 p11 p12 p13 p14 p15).bind (tf K):=by
      repeat (refine funext fun _=>?_)
      exact YJ n K m _ _ _ _ _ _ _ _ _ _ _ _ _ _ _ _ _
    rw [h1,h2];exact (AY n m _ _ _ _ _ _ _ _ _ _ _ _ _ _ _ _ _ (tf K)).symm
theorem PU (n:Nat):Bc tys (ia Out (Ld n)) (zn n) n (wa [1,1,0,1,0,0] (fa Tryz.f15)) 0:=Ea (sp:=Rs) (rp:=Qs) (by kernel_rfl) fun K σ ρ=>YJ n K n σ.1 σ.2.1 ρ.1.1 ρ.1.2.1 ρ.1.2.2.1 ρ.1.2.2.2.1 ρ.1.2.2.2.2.1 ρ.1.2.2.2.2.2.1 ρ.1.2.2.2.2.2.2.1 ρ.1.2.2.2.2.2.2.2.1 ρ.1.2.2.2.2.2.2.2.2.1 ρ.1.2.2.2.2.2.2.2.2.2.1 ρ.1.2.2.2.2.2.2.2.2.2.2.1 ρ.1.2.2.2.2.2.2.2.2.2.2.2.1 ρ.1.2.2.2.2.2.2.2.2.2.2.2.2.1 ρ.1.2.2.2.2.2.2.2.2.2.2.2.2.2.1 ρ.1.2.2.2.2.2.2.2.2.2.2.2.2.2.2.1
theorem BY (n:Nat):qa tys (ia Out (Ld n)) (zn n) n (fa Tryz.f15) 0:=⟨trivial,⟨trivial,⟨⟨trivial,⟨PU n,⟨⟨trivial,⟨trivial,trivial⟩⟩,⟨trivial,trivial⟩⟩⟩⟩,⟨trivial,trivial⟩⟩⟩⟩
theorem J4 (n:Nat):Enters Tryz.prog 15:=enters_of (c:=fa Tryz.f15) Tryz.func15 (by kernel_rfl) (by kernel_rfl)
def PS (n:Nat):Entry:=⟨15,pcT K5 (.one .bool) (fun xs=>mw n xs.1),none,none⟩
theorem n8 (n:Nat):EntryOk Tryz.prog gl (PS n):=za (J4 n) fun xs y h=>na tys_ok (ul n) mixed (hint:=zn n) (n:=n) Tryz.func15 (Aa (BY n)) (la (φ:=(fun y=>some (Out.ret (qb (.one .bool) y)))) (by kernel_rfl) (rcb n xs.1 _) h)
def vG (n:Nat):List Entry:=PS n::Ld n
theorem SD (n:Nat):AllOk Tryz.prog gl (vG n):=.cons (n8 n) (ul n)
def fP (n:Nat) {R:Type} (n0 most:Int) (k:Bool→Option R):Option R:=if (decide (n0≥(0:Int)))=true then k (decide (n0≤most)) else k false
def NH (n:Nat) (n0 most:Int):Option Bool:=fP n n0 most some
theorem sgb (n:Nat) {S:Type}:∀ n0 most (φ:_→Option S),(NH n n0 most).bind φ=fP n n0 most φ:=by
  intros;unfold NH fP;first | (simp only [ja,aa,iB,bB,oL,oX,nB,Option.bind_some]) | rfl
def XQ (n:Nat):Hint Out:={ live:=fun c=>[],run:=fun c=>none,xm:=fun c q=>none }
theorem M6 (n:Nat):qa tys (ia Out (vG n)) (XQ n) n (fa Tryz.f29) 0:=ma (fun _=>rfl) _ _ (by kernel_rfl)
theorem sbb (n:Nat):Enters Tryz.prog 29:=enters_of (c:=fa Tryz.f29) Tryz.func29 (by kernel_rfl) (by kernel_rfl)
def A1 (n:Nat):Entry:=⟨29,pcT (.pair (.int .i64) (.pair (.int .i64) .unit)) (.one .bool) (fun xs=>NH n xs.1 xs.2.1),none,none⟩
theorem keb (n:Nat):EntryOk Tryz.prog gl (A1 n):=za (sbb n) fun xs y h=>na tys_ok (SD n) mixed (hint:=XQ n) (n:=n) Tryz.func29 (Aa (M6 n)) (la (φ:=(fun y=>some (Out.ret (qb (.one .bool) y)))) (by kernel_rfl) (sgb n xs.1 xs.2.1 _) h)
def WQ (n:Nat):List Entry:=A1 n::vG n
theorem OM (n:Nat):AllOk Tryz.prog gl (WQ n):=.cons (keb n) (SD n)
def jI (n:Nat) {R:Type} (s:BA) (k:Bool→Option R):Option R:=if (decide ((s.size:Int)≥(2:Int)))=true then if 0≤(IntKind.wrap .i64 ((s.size:Int) - (2:Int)))∧(IntKind.wrap .i64 ((s.size:Int) - (2:Int)))<(s.size:Int) then if ((bt s (IntKind.wrap .i64 ((s.size:Int) - (2:Int))))==(13:Int))=true then if 0≤(IntKind.wrap .i64 ((s.size:Int) - (1:Int)))∧(IntKind.wrap .i64 ((s.size:Int) - (1:Int)))<(s.size:Int) then k ((bt s (IntKind.wrap .i64 ((s.size:Int) - (1:Int))))==(10:Int)) else none else k false else none else k false
def VK (n:Nat) (s:BA):Option Bool:=jI n s some
theorem meb (n:Nat) {S:Type}:∀ s (φ:_→Option S),(VK n s).bind φ=jI n s φ:=by
  intros;unfold VK jI;first | (simp only [ja,aa,iB,bB,oL,oX,nB,Option.bind_some]) | rfl
def RM (n:Nat):Hint Out:={ live:=fun c=>[],run:=fun c=>none,xm:=fun c q=>none }
theorem I1 (n:Nat):qa tys (ia Out (WQ n)) (RM n) n (fa Tryz.f58) 0:=ma (fun _=>rfl) _ _ (by kernel_rfl)
theorem T6 (n:Nat):Enters Tryz.prog 58:=enters_of (c:=fa Tryz.f58) Tryz.func58 (by kernel_rfl) (by kernel_rfl)
def xV (n:Nat):Entry:=⟨58,pcT (.pair .str .unit) (.one .bool) (fun xs=>VK n xs.1),none,none⟩
theorem xbb (n:Nat):EntryOk Tryz.prog gl (xV n):=za (T6 n) fun xs y h=>na tys_ok (OM n) mixed (hint:=RM n) (n:=n) Tryz.func58 (Aa (I1 n)) (la (φ:=(fun y=>some (Out.ret (qb (.one .bool) y)))) (by kernel_rfl) (meb n xs.1 _) h)
def Mt (n:Nat):List Entry:=xV n::WQ n
theorem kI (n:Nat):AllOk Tryz.prog gl (Mt n):=.cons (xbb n) (OM n)
def og (n:Nat) {R:Type} (i:Int) (f1:BA) (f2:Bool) (kn:Int→BA→Bool→Option R) (ko:(Unit)→Option R) (kr:(Bool)→Option R) (kp:Int→Option R):Option R:=if (decide (i≤(f1.size:Int)))=true then if 0≤i∧i≤(f1.size:Int) then (VK n (f1.extract (Int.toNat (0:Int)) (Int.toNat i))).bind fun v=>if v=true then kr false else kn (IntKind.wrap .i64 (i+(1:Int))) f1 f2 else none else ko ()
def ac (n:Nat):Nat→Int→BA→Bool→Option (Lx (Unit) (Bool))
 | 0,_,_,_=>none
 | m+1,i,f1,f2=>og n i f1 f2 (ac n m) (fun a=>some (.out a)) (fun a=>some (.ret a)) (fun p=>some (.pan p))
theorem eU (n m:Nat) {S:Type}:∀ i f1 f2 (φ:_→Option S),(ac n (m+1) i f1 f2).bind φ=og n i f1 f2 (fun i f1 f2=>(ac n m i f1 f2).bind φ) (fun a=>φ (.out a)) (fun a=>φ (.ret a)) (fun p=>φ (.pan p)):=by
  intros;first | (simp only [ac,og,ja,aa,iB,bB,oL,oX,nB,Option.bind_some]) | rfl
def Eo:List Sl:=.top::.ptr 0 0 0::.top::.dat (.int .i64)::tp 26 []
def Co:List RS:=[.box 23 2 true [.dat .str,.dat .bool]]
def xE:List Sl:=tp 30 []
def wE:List RS:=[]
def zE:List Sl:=.top::.top::.dat .bool::tp 27 []
def yE:List RS:=[]
def Td (K:XE→List AV→oa→Option Out):Lx (Unit) (Bool)→Option Out:=fun x=>onL x (fun a=>tc xE wE () () (K (.exit 0))) (fun a=>tc zE yE (a,()) () (K .ret)) (fun _=>none)
def yv (n:Nat) {R:Type} (f:U9) (k:Bool→Option R):Option R:=if f.2.1=true then if (f.1.toList==(⟨#[]⟩:BA).toList)=false then k (f.1.toList==(⟨#[13]⟩:BA).toList) else k true else if (decide ((f.1.size:Int)>(511:Int)))=true then k false else (ac n n (2:Int) f.1 f.2.1).bind fun x_1=>onL x_1 (fun a_2=>k true) (fun a_3=>k a_3) (fun _=>none)
def Lt (n:Nat) (f:U9):Option Bool:=yv n f some
theorem R6 (n:Nat) {S:Type}:∀ f (φ:_→Option S),(Lt n f).bind φ=yv n f φ:=by
  intros;unfold Lt yv;first | (simp only [ja,aa,iB,bB,oL,oX,nB,Option.bind_some]) | rfl
def uk (n:Nat):Hint Out:={ live:=fun c=>(cond (Nat.beq c 0) [(1,none),(3,none)] []),run:=fun c=>(cond (Nat.beq c 0) (some (Zg Eo Co fun σ ρ K=>(ac n n σ.1 ρ.1.1 ρ.1.2.1).bind (Td K))) none),xm:=fun c q=>(cond (Nat.beq c 0&&Nat.beq (q.getD 1000000) 0&&q.isSome) (some []) (cond (Nat.beq c 1&&q.isNone) (some [(2,none)]) none)) }
def tk (n:Nat) (K:XE→List AV→oa→Option Out) (m:Nat) (i:Int) (f1:BA) (f2:Bool):Option Out:=Nc tys (ia Out (Mt n)) (uk n) n (wa [1,1,1,0,1,0,0] (fa Tryz.f30)) 0 Eo Co K m (i,()) ((f1,(f2,())),())
theorem iD (n:Nat) (K:XE→List AV→oa→Option Out):∀ (m:Nat) i f1 f2,tk n K m i f1 f2=(ac n m i f1 f2).bind (Td K)
  | 0,_,_,_=>by kernel_rfl
  | m+1,i,f1,f2=>by
    have h1:tk n K (m+1) i f1 f2=og n i f1 f2 (tk n K m) (fun a=>Td K (.out a)) (fun a=>Td K (.ret a)) (fun p=>Td K (.pan p)):=by kernel_rfl
    have h2:tk n K m=fun i f1 f2=>(ac n m i f1 f2).bind (Td K):=by
      repeat (refine funext fun _=>?_)
      exact iD n K m _ _ _
    rw [h1,h2];exact (eU n m _ _ _ (Td K)).symm
theorem cR (n:Nat):Bc tys (ia Out (Mt n)) (uk n) n (wa [1,1,1,0,1,0,0] (fa Tryz.f30)) 0:=Ea (sp:=Eo) (rp:=Co) (by kernel_rfl) fun K σ ρ=>iD n K n σ.1 ρ.1.1 ρ.1.2.1
theorem fU (n:Nat):qa tys (ia Out (Mt n)) (uk n) n (fa Tryz.f30) 0:=⟨trivial,⟨⟨trivial,⟨⟨trivial,trivial⟩,trivial⟩⟩,⟨⟨trivial,⟨⟨trivial,trivial⟩,trivial⟩⟩,⟨⟨trivial,⟨cR n,⟨⟨trivial,⟨trivial,trivial⟩⟩,⟨⟨trivial,⟨⟨trivial,trivial⟩,trivial⟩⟩,trivial⟩⟩⟩⟩,⟨trivial,trivial⟩⟩⟩⟩⟩
theorem CX (n:Nat):Enters Tryz.prog 30:=enters_of (c:=fa Tryz.f30) Tryz.func30 (by kernel_rfl) (by kernel_rfl)
def PM (n:Nat):Entry:=⟨30,pcT (.pair (.pair .str (.pair .bool .unit)) .unit) (.one .bool) (fun xs=>Lt n xs.1),none,none⟩
theorem G1 (n:Nat):EntryOk Tryz.prog gl (PM n):=za (CX n) fun xs y h=>na tys_ok (kI n) mixed (hint:=uk n) (n:=n) Tryz.func30 (Aa (fU n)) (la (φ:=(fun y=>some (Out.ret (qb (.one .bool) y)))) (by kernel_rfl) (R6 n xs.1 _) h)
def cl (n:Nat):List Entry:=PM n::Mt n
theorem jz (n:Nat):AllOk Tryz.prog gl (cl n):=.cons (G1 n) (kI n)
def Dj (n:Nat) {R:Type} (s1:BA) (by01 from0 i:Int) (l:(Sq BA)) (kn:BA→Int→Int→Int→(Sq BA)→Option R) (ko:((Sq BA))→Option R) (kr:Unit→Option R) (kp:Int→Option R):Option R:=if (decide (i≤(s1.size:Int)))=true then if (i==(s1.size:Int))=false then if 0≤i∧i<(s1.size:Int) then if ((bt s1 i)==by01)=true then if 0≤i∧i≤(s1.size:Int) then if 0≤from0∧from0≤i then if wb (l.n+1) 16=true then kn s1 by01 (IntKind.wrap .i64 (i+(1:Int))) (IntKind.wrap .i64 (i+(1:Int))) (⟨(l.n+1),fun q=>if q<l.n then l.at' q else (fun q=>List.getD (α:=BA) [(s1.extract (Int.toNat from0) (Int.toNat i))] q (ta .str)) (q - l.n)⟩:Sq BA) else none else none else none else kn s1 by01 from0 (IntKind.wrap .i64 (i+(1:Int))) l else none else if 0≤i∧i≤(s1.size:Int) then if 0≤from0∧from0≤i then if wb (l.n+1) 16=true then kn s1 by01 (IntKind.wrap .i64 (i+(1:Int))) (IntKind.wrap .i64 (i+(1:Int))) (⟨(l.n+1),fun q=>if q<l.n then l.at' q else (fun q=>List.getD (α:=BA) [(s1.extract (Int.toNat from0) (Int.toNat i))] q (ta .str)) (q - l.n)⟩:Sq BA) else none else none else none else ko l
def ed (n:Nat):Nat→BA→Int→Int→Int→(Sq BA)→Option (Lx ((Sq BA)) Unit)
 | 0,_,_,_,_,_=>none
 | m+1,s1,by01,from0,i,l=>Dj n s1 by01 from0 i l (ed n m) (fun a=>some (.out a)) (fun a=>some (.ret a)) (fun p=>some (.pan p))
theorem vX (n m:Nat) {S:Type}:∀ s1 by01 from0 i l (φ:_→Option S),(ed n (m+1) s1 by01 from0 i l).bind φ=Dj n s1 by01 from0 i l (fun s1 by01 from0 i l=>(ed n m s1 by01 from0 i l).bind φ) (fun a=>φ (.out a)) (fun a=>φ (.ret a)) (fun p=>φ (.pan p)):=by
  intros;first | (simp only [ed,Dj,ja,aa,iB,bB,oL,oX,nB,Option.bind_some]) | rfl
def Nr:List Sl:=.dat .str::.dat (.int .u8)::.top::.top::.top::.row 0::.dat (.int .i64)::.dat (.int .i64)::tp 27 []
def Mr:List RS:=[.row 9 1 .str true false]
def VH:List Sl:=tp 5 (.row 0::tp 29 [])
def UH:List RS:=[.row 9 1 .str true false]
def Ye (K:XE→List AV→oa→Option Out):Lx ((Sq BA)) Unit→Option Out:=fun x=>onL x (fun a=>tc VH UH () (a,()) (K (.exit 0))) (fun _=>none) (fun _=>none)
def lB (n:Nat) {R:Type} (s:BA) (by0:Int) (k:(Sq BA)→Option R):Option R:=(ed n n s by0 (0:Int) (0:Int) (⟨0,fun _=>ta .str⟩:Sq BA)).bind fun x_1=>onL x_1 (fun a_2=>k a_2) (fun _=>none) (fun _=>none)
def Pm (n:Nat) (s:BA) (by0:Int):Option (Sq BA):=lB n s by0 some
theorem ubb (n:Nat) {S:Type}:∀ s by0 (φ:_→Option S),(Pm n s by0).bind φ=lB n s by0 φ:=by
  intros;unfold Pm lB;first | (simp only [ja,aa,iB,bB,oL,oX,nB,Option.bind_some]) | rfl
def Rm (n:Nat):Hint Out:={ live:=fun c=>(cond (Nat.beq c 0) [(0,none),(1,none),(5,some (.sl .str)),(6,none),(7,none)] []),run:=fun c=>(cond (Nat.beq c 0) (some (Zg Nr Mr fun σ ρ K=>(ed n n σ.1 σ.2.1 σ.2.2.1 σ.2.2.2.1 ρ.1).bind (Ye K))) none),xm:=fun c q=>(cond (Nat.beq c 0&&Nat.beq (q.getD 1000000) 0&&q.isSome) (some [(5,some (.sl .str))]) none) }
def Qm (n:Nat) (K:XE→List AV→oa→Option Out) (m:Nat) (s1:BA) (by01:Int) (from0:Int) (i:Int) (l:(Sq BA)):Option Out:=Nc tys (ia Out (cl n)) (Rm n) n (wa [1,1,1,0,1,0,0] (fa Tryz.f60)) 0 Nr Mr K m (s1,(by01,(from0,(i,())))) (l,())
theorem TH (n:Nat) (K:XE→List AV→oa→Option Out):∀ (m:Nat) s1 by01 from0 i l,Qm n K m s1 by01 from0 i l=(ed n m s1 by01 from0 i l).bind (Ye K)
  | 0,_,_,_,_,_=>by kernel_rfl
  | m+1,s1,by01,from0,i,l=>by
    have h1:Qm n K (m+1) s1 by01 from0 i l=Dj n s1 by01 from0 i l (Qm n K m) (fun a=>Ye K (.out a)) (fun a=>Ye K (.ret a)) (fun p=>Ye K (.pan p)):=by kernel_rfl
    have h2:Qm n K m=fun s1 by01 from0 i l=>(ed n m s1 by01 from0 i l).bind (Ye K):=by
      repeat (refine funext fun _=>?_)
      exact TH n K m _ _ _ _ _
    rw [h1,h2];exact (vX n m _ _ _ _ _ (Ye K)).symm
theorem bU (n:Nat):Bc tys (ia Out (cl n)) (Rm n) n (wa [1,1,1,0,1,0,0] (fa Tryz.f60)) 0:=Ea (sp:=Nr) (rp:=Mr) (by kernel_rfl) fun K σ ρ=>TH n K n σ.1 σ.2.1 σ.2.2.1 σ.2.2.2.1 ρ.1
theorem xX (n:Nat):qa tys (ia Out (cl n)) (Rm n) n (fa Tryz.f60) 0:=⟨trivial,⟨trivial,⟨trivial,⟨⟨trivial,⟨bU n,⟨⟨trivial,⟨trivial,trivial⟩⟩,⟨⟨trivial,⟨⟨trivial,trivial⟩,trivial⟩⟩,trivial⟩⟩⟩⟩,⟨trivial,trivial⟩⟩⟩⟩⟩
theorem C1 (n:Nat):Enters Tryz.prog 60:=enters_of (c:=fa Tryz.f60) Tryz.func60 (by kernel_rfl) (by kernel_rfl)
def ZQ (n:Nat):Entry:=⟨60,pcT (.pair .str (.pair (.int .u8) .unit)) (.one (.sl .str)) (fun xs=>Pm n xs.1 xs.2.1),none,none⟩
theorem O6 (n:Nat):EntryOk Tryz.prog gl (ZQ n):=za (C1 n) fun xs y h=>na tys_ok (jz n) mixed (hint:=Rm n) (n:=n) Tryz.func60 (Aa (xX n)) (la (φ:=(fun y=>some (Out.ret (qb (.one (.sl .str)) y)))) (by kernel_rfl) (ubb n xs.1 xs.2.1 _) h)
def Ao (n:Nat):List Entry:=ZQ n::cl n
theorem eD (n:Nat):AllOk Tryz.prog gl (Ao n):=.cons (O6 n) (jz n)
def ng (n:Nat) {R:Type} (s1:BA) (n0 i:Int) (kn:BA→Int→Int→Option R) (ko:(Int)→Option R) (kr:(Int×Bool)→Option R) (kp:Int→Option R):Option R:=if (decide (i<(s1.size:Int)))=true then if 0≤i∧i<(s1.size:Int) then if (decide ((bt s1 i)<(48:Int)))=false then if 0≤i∧i<(s1.size:Int) then if (decide ((bt s1 i)>(57:Int)))=true then kr ((0:Int),false) else if 0≤i∧i<(s1.size:Int) then kn s1 (IntKind.wrap .i64 ((IntKind.wrap .i64 ((10:Int)*n0))+(IntKind.wrap .i64 (IntKind.wrap .u8 ((bt s1 i) - (48:Int)))))) (IntKind.wrap .i64 (i+(1:Int))) else none else none else kr ((0:Int),false) else none else ko n0
def Sb (n:Nat):Nat→BA→Int→Int→Option (Lx (Int) (Int×Bool))
 | 0,_,_,_=>none
 | m+1,s1,n0,i=>ng n s1 n0 i (Sb n m) (fun a=>some (.out a)) (fun a=>some (.ret a)) (fun p=>some (.pan p))
theorem yX (n m:Nat) {S:Type}:∀ s1 n0 i (φ:_→Option S),(Sb n (m+1) s1 n0 i).bind φ=ng n s1 n0 i (fun s1 n0 i=>(Sb n m s1 n0 i).bind φ) (fun a=>φ (.out a)) (fun a=>φ (.ret a)) (fun p=>φ (.pan p)):=by
  intros;first | (simp only [Sb,ng,ja,aa,iB,bB,oL,oX,nB,Option.bind_some]) | rfl
def Qr:List Sl:=.dat .str::.top::.top::.top::.dat (.int .i64)::.dat (.int .i64)::tp 42 []
def Pr:List RS:=[]
def YH:List Sl:=tp 4 (.dat (.int .i64)::tp 43 [])
def XH:List RS:=[]
def aI:List Sl:=.top::.top::.dat (.int .i64)::.dat .bool::tp 44 []
def ZH:List RS:=[]
def Ze (K:XE→List AV→oa→Option Out):Lx (Int) (Int×Bool)→Option Out:=fun x=>onL x (fun a=>tc YH XH (a,()) () (K (.exit 0))) (fun a=>tc aI ZH (a.1,(a.2,())) () (K .ret)) (fun _=>none)
def oB (n:Nat) {R:Type} (s:BA) (k:(Int×Bool×Unit)→Option R):Option R:=if (s.toList==(⟨#[]⟩:BA).toList)=false then if (decide ((s.size:Int)>(16:Int)))=false then if (decide ((s.size:Int)>(1:Int)))=true then if 0≤(0:Int)∧(0:Int)<(s.size:Int) then if ((bt s (0:Int))==(48:Int))=true then k ((0:Int),(false,())) else (Sb n n s (0:Int) (0:Int)).bind fun x_1=>onL x_1 (fun a_2=>k (a_2,(true,()))) (fun a_3=>k (a_3.1,(a_3.2,()))) (fun _=>none) else none else (Sb n n s (0:Int) (0:Int)).bind fun x_4=>onL x_4 (fun a_5=>k (a_5,(true,()))) (fun a_6=>k (a_6.1,(a_6.2,()))) (fun _=>none) else k ((0:Int),(false,())) else k ((0:Int),(false,()))
def mB (n:Nat) (s:BA):Option (Int×Bool×Unit):=oB n s some
theorem vbb (n:Nat) {S:Type}:∀ s (φ:_→Option S),(mB n s).bind φ=oB n s φ:=by
  intros;unfold mB oB;first | (simp only [ja,aa,iB,bB,oL,oX,nB,Option.bind_some]) | rfl
def Tm (n:Nat):Hint Out:={ live:=fun c=>(cond (Nat.beq c 0) (lv [0,4,5]) []),run:=fun c=>(cond (Nat.beq c 0) (some (Zg Qr Pr fun σ ρ K=>(Sb n n σ.1 σ.2.1 σ.2.2.1).bind (Ze K))) none),xm:=fun c q=>(cond (Nat.beq c 0&&Nat.beq (q.getD 1000000) 0&&q.isSome) (some [(4,none)]) (cond (Nat.beq c 1&&q.isNone) (some [(2,none),(3,none)]) none)) }
def Sm (n:Nat) (K:XE→List AV→oa→Option Out) (m:Nat) (s1:BA) (n0:Int) (i:Int):Option Out:=Nc tys (ia Out (Ao n)) (Tm n) n (wa [1,1,1,0,1,0,0] (fa Tryz.f85)) 0 Qr Pr K m (s1,(n0,(i,()))) ()
theorem WH (n:Nat) (K:XE→List AV→oa→Option Out):∀ (m:Nat) s1 n0 i,Sm n K m s1 n0 i=(Sb n m s1 n0 i).bind (Ze K)
  | 0,_,_,_=>by kernel_rfl
  | m+1,s1,n0,i=>by
    have h1:Sm n K (m+1) s1 n0 i=ng n s1 n0 i (Sm n K m) (fun a=>Ze K (.out a)) (fun a=>Ze K (.ret a)) (fun p=>Ze K (.pan p)):=by kernel_rfl
    have h2:Sm n K m=fun s1 n0 i=>(Sb n m s1 n0 i).bind (Ze K):=by
      repeat (refine funext fun _=>?_)
      exact WH n K m _ _ _
    rw [h1,h2];exact (yX n m _ _ _ (Ze K)).symm
theorem cU (n:Nat):Bc tys (ia Out (Ao n)) (Tm n) n (wa [1,1,1,0,1,0,0] (fa Tryz.f85)) 0:=Ea (sp:=Qr) (rp:=Pr) (by kernel_rfl) fun K σ ρ=>WH n K n σ.1 σ.2.1 σ.2.2.1
theorem zX (n:Nat):qa tys (ia Out (Ao n)) (Tm n) n (fa Tryz.f85) 0:=⟨trivial,⟨⟨trivial,⟨⟨trivial,trivial⟩,trivial⟩⟩,⟨trivial,⟨⟨trivial,⟨cU n,⟨⟨trivial,⟨trivial,trivial⟩⟩,⟨⟨⟨trivial,⟨⟨trivial,trivial⟩,trivial⟩⟩,trivial⟩,trivial⟩⟩⟩⟩,⟨trivial,trivial⟩⟩⟩⟩⟩
theorem D1 (n:Nat):Enters Tryz.prog 85:=enters_of (c:=fa Tryz.f85) Tryz.func85 (by kernel_rfl) (by kernel_rfl)
def aR (n:Nat):Entry:=⟨85,pcT (.pair .str .unit) (.many (.pair (.int .i64) (.pair .bool .unit))) (fun xs=>mB n xs.1),none,none⟩
theorem P6 (n:Nat):EntryOk Tryz.prog gl (aR n):=za (D1 n) fun xs y h=>na tys_ok (eD n) mixed (hint:=Tm n) (n:=n) Tryz.func85 (Aa (zX n)) (la (φ:=(fun y=>some (Out.ret (qb (.many (.pair (.int .i64) (.pair .bool .unit))) y)))) (by kernel_rfl) (vbb n xs.1 _) h)
def Bo (n:Nat):List Entry:=aR n::Ao n
theorem fD (n:Nat):AllOk Tryz.prog gl (Bo n):=.cons (P6 n) (eD n)
def Pg (n:Nat) {R:Type} (l:(Sq BA)) (i:Int) (kn:(Sq BA)→Int→Option R) (ko:((Sq BA))→Option R) (kr:(Bool)→Option R) (kp:Int→Option R):Option R:=if (decide (i<(l.n:Int)))=true then if 0≤i∧i<(l.n:Int) then (mB n (l.at' (Int.toNat i))).bind fun v1=>if (!v1.2.1)=false then if (decide (v1.1>(255:Int)))=true then kr false else kn l (IntKind.wrap .i64 (i+(1:Int))) else kr false else none else ko l
def Tb (n:Nat):Nat→(Sq BA)→Int→Option (Lx ((Sq BA)) (Bool))
 | 0,_,_=>none
 | m+1,l,i=>Pg n l i (Tb n m) (fun a=>some (.out a)) (fun a=>some (.ret a)) (fun p=>some (.pan p))
theorem BR (n m:Nat) {S:Type}:∀ l i (φ:_→Option S),(Tb n (m+1) l i).bind φ=Pg n l i (fun l i=>(Tb n m l i).bind φ) (fun a=>φ (.out a)) (fun a=>φ (.ret a)) (fun p=>φ (.pan p)):=by
  intros;first | (simp only [Tb,Pg,ja,aa,iB,bB,oL,oX,nB,Option.bind_some]) | rfl
def Ml:List Sl:=.top::.top::.top::.dat (.sl .str)::.dat (.int .i64)::tp 47 []
def Ll:List RS:=[]
def gC:List Sl:=.top::.top::.top::.dat (.sl .str)::tp 48 []
def fC:List RS:=[]
def jC:List Sl:=.top::.top::.dat .bool::tp 49 []
def iC:List RS:=[]
def ld (K:XE→List AV→oa→Option Out):Lx ((Sq BA)) (Bool)→Option Out:=fun x=>onL x (fun a=>tc gC fC (a,()) () (K (.exit 0))) (fun a=>tc jC iC (a,()) () (K .ret)) (fun _=>none)
def fq (n:Nat) {R:Type} (s:BA) (k:Bool→Option R):Option R:=if (decide ((s.size:Int)<(2:Int)))=false then if 0≤(0:Int)∧(0:Int)<(s.size:Int) then if ((bt s (0:Int)) !=(91:Int))=false then if 0≤(IntKind.wrap .i64 ((s.size:Int) - (1:Int)))∧(IntKind.wrap .i64 ((s.size:Int) - (1:Int)))<(s.size:Int) then if ((bt s (IntKind.wrap .i64 ((s.size:Int) - (1:Int)))) !=(93:Int))=true then k false else if 0≤(IntKind.wrap .i64 ((s.size:Int) - (1:Int)))∧(IntKind.wrap .i64 ((s.size:Int) - (1:Int)))≤(s.size:Int) then if 0≤(1:Int)∧(1:Int)≤(IntKind.wrap .i64 ((s.size:Int) - (1:Int))) then (Pm n (s.extract (Int.toNat (1:Int)) (Int.toNat (IntKind.wrap .i64 ((s.size:Int) - (1:Int))))) (46:Int)).bind fun v=>(Tb n n v (0:Int)).bind fun x_1=>onL x_1 (fun a_2=>k ((a_2.n:Int)==(4:Int))) (fun a_3=>k a_3) (fun _=>none) else none else none else none else k false else none else k false
def Fn (n:Nat) (s:BA):Option Bool:=fq n s some
theorem Y1 (n:Nat) {S:Type}:∀ s (φ:_→Option S),(Fn n s).bind φ=fq n s φ:=by
  intros;unfold Fn fq;first | (simp only [ja,aa,iB,bB,oL,oX,nB,Option.bind_some]) | rfl
def Si (n:Nat):Hint Out:={ live:=fun c=>(cond (Nat.beq c 0) [(3,some (.sl .str)),(4,none)] []),run:=fun c=>(cond (Nat.beq c 0) (some (Zg Ml Ll fun σ ρ K=>(Tb n n σ.1 σ.2.1).bind (ld K))) none),xm:=fun c q=>(cond (Nat.beq c 0&&Nat.beq (q.getD 1000000) 0&&q.isSome) (some [(3,some (.sl .str))]) (cond (Nat.beq c 1&&q.isNone) (some [(2,none)]) none)) }
def Ri (n:Nat) (K:XE→List AV→oa→Option Out) (m:Nat) (l:(Sq BA)) (i:Int):Option Out:=Nc tys (ia Out (Bo n)) (Si n) n (wa [1,1,1,0,1,0,0] (fa Tryz.f59)) 0 Ml Ll K m (l,(i,())) ()
theorem Hz (n:Nat) (K:XE→List AV→oa→Option Out):∀ (m:Nat) l i,Ri n K m l i=(Tb n m l i).bind (ld K)
  | 0,_,_=>by kernel_rfl
  | m+1,l,i=>by
    have h1:Ri n K (m+1) l i=Pg n l i (Ri n K m) (fun a=>ld K (.out a)) (fun a=>ld K (.ret a)) (fun p=>ld K (.pan p)):=by kernel_rfl
    have h2:Ri n K m=fun l i=>(Tb n m l i).bind (ld K):=by
      repeat (refine funext fun _=>?_)
      exact Hz n K m _ _
    rw [h1,h2];exact (BR n m _ _ (ld K)).symm
theorem dO (n:Nat):Bc tys (ia Out (Bo n)) (Si n) n (wa [1,1,1,0,1,0,0] (fa Tryz.f59)) 0:=Ea (sp:=Ml) (rp:=Ll) (by kernel_rfl) fun K σ ρ=>Hz n K n σ.1 σ.2.1
theorem DR (n:Nat):qa tys (ia Out (Bo n)) (Si n) n (fa Tryz.f59) 0:=⟨trivial,⟨⟨trivial,⟨⟨trivial,trivial⟩,trivial⟩⟩,⟨trivial,⟨⟨trivial,⟨dO n,⟨⟨trivial,⟨trivial,trivial⟩⟩,⟨⟨trivial,⟨trivial,⟨⟨trivial,trivial⟩,trivial⟩⟩⟩,trivial⟩⟩⟩⟩,⟨trivial,trivial⟩⟩⟩⟩⟩
theorem rU (n:Nat):Enters Tryz.prog 59:=enters_of (c:=fa Tryz.f59) Tryz.func59 (by kernel_rfl) (by kernel_rfl)
def rI (n:Nat):Entry:=⟨59,pcT (.pair .str .unit) (.one .bool) (fun xs=>Fn n xs.1),none,none⟩
theorem KX (n:Nat):EntryOk Tryz.prog gl (rI n):=za (rU n) fun xs y h=>na tys_ok (fD n) mixed (hint:=Si n) (n:=n) Tryz.func59 (Aa (DR n)) (la (φ:=(fun y=>some (Out.ret (qb (.one .bool) y)))) (by kernel_rfl) (Y1 n xs.1 _) h)
def Hv (n:Nat):List Entry:=rI n::Bo n
theorem Jw (n:Nat):AllOk Tryz.prog gl (Hv n):=.cons (KX n) (fD n)
def xB (n:Nat) {R:Type} (c:Int) (k:Bool→Option R):Option R:=if (decide (c≥(48:Int)))=true then k (decide (c≤(57:Int))) else k false
def Jk (n:Nat) (c:Int):Option Bool:=xB n c some
theorem Fbb (n:Nat) {S:Type}:∀ c (φ:_→Option S),(Jk n c).bind φ=xB n c φ:=by
  intros;unfold Jk xB;first | (simp only [ja,aa,iB,bB,oL,oX,nB,Option.bind_some]) | rfl
def II (n:Nat):Hint Out:={ live:=fun c=>[],run:=fun c=>none,xm:=fun c q=>none }
theorem PX (n:Nat):qa tys (ia Out (Hv n)) (II n) n (fa Tryz.f61) 0:=ma (fun _=>rfl) _ _ (by kernel_rfl)
theorem D2 (n:Nat):Enters Tryz.prog 61:=enters_of (c:=fa Tryz.f61) Tryz.func61 (by kernel_rfl) (by kernel_rfl)
def HR (n:Nat):Entry:=⟨61,pcT (.pair (.int .u8) .unit) (.one .bool) (fun xs=>Jk n xs.1),none,none⟩
theorem o7 (n:Nat):EntryOk Tryz.prog gl (HR n):=za (D2 n) fun xs y h=>na tys_ok (Jw n) mixed (hint:=II n) (n:=n) Tryz.func61 (Aa (PX n)) (la (φ:=(fun y=>some (Out.ret (qb (.one .bool) y)))) (by kernel_rfl) (Fbb n xs.1 _) h)
def Wh (n:Nat):List Entry:=HR n::Hv n
theorem BD (n:Nat):AllOk Tryz.prog gl (Wh n):=.cons (o7 n) (Jw n)
def yi (n:Nat) {R:Type} (l1:(Sq BA)) (i1:Int) (w:BA) (k0:Int) (kn:(Sq BA)→Int→BA→Int→Option R) (ko:((Sq BA)×Int)→Option R) (kr:(Bool)→Option R) (kp:Int→Option R):Option R:=if (decide (k0<(w.size:Int)))=true then if 0≤k0∧k0<(w.size:Int) then if (decide ((bt w k0)≥(97:Int)))=true then if 0≤k0∧k0<(w.size:Int) then if (!(decide ((bt w k0)≤(122:Int))))=true then if 0≤k0∧k0<(w.size:Int) then (Jk n (bt w k0)).bind fun v2=>if (!v2)=true then if 0≤k0∧k0<(w.size:Int) then if ((bt w k0) !=(45:Int))=true then kr false else kn l1 i1 w (IntKind.wrap .i64 (k0+(1:Int))) else none else kn l1 i1 w (IntKind.wrap .i64 (k0+(1:Int))) else none else kn l1 i1 w (IntKind.wrap .i64 (k0+(1:Int))) else none else if 0≤k0∧k0<(w.size:Int) then (Jk n (bt w k0)).bind fun v3=>if (!v3)=true then if 0≤k0∧k0<(w.size:Int) then if ((bt w k0) !=(45:Int))=true then kr false else kn l1 i1 w (IntKind.wrap .i64 (k0+(1:Int))) else none else kn l1 i1 w (IntKind.wrap .i64 (k0+(1:Int))) else none else none else ko (l1,i1)
def wc (n:Nat):Nat→(Sq BA)→Int→BA→Int→Option (Lx ((Sq BA)×Int) (Bool))
 | 0,_,_,_,_=>none
 | m+1,l1,i1,w,k0=>yi n l1 i1 w k0 (wc n m) (fun a=>some (.out a)) (fun a=>some (.ret a)) (fun p=>some (.pan p))
theorem pU (n m:Nat) {S:Type}:∀ l1 i1 w k0 (φ:_→Option S),(wc n (m+1) l1 i1 w k0).bind φ=yi n l1 i1 w k0 (fun l1 i1 w k0=>(wc n m l1 i1 w k0).bind φ) (fun a=>φ (.out a)) (fun a=>φ (.ret a)) (fun p=>φ (.pan p)):=by
  intros;first | (simp only [wc,yi,ja,aa,iB,bB,oL,oX,nB,Option.bind_some]) | rfl
def No:List Sl:=.top::.top::.top::.dat (.sl .str)::.dat (.int .i64)::.dat .str::.dat (.int .i64)::tp 68 []
def Mo:List RS:=[]
def zF:List Sl:=.top::.top::.top::.dat (.sl .str)::.dat (.int .i64)::tp 70 []
def yF:List RS:=[]
def BF:List Sl:=.top::.top::.dat .bool::tp 72 []
def AF:List RS:=[]
def Xd (K:XE→List AV→oa→Option Out):Lx ((Sq BA)×Int) (Bool)→Option Out:=fun x=>onL x (fun a=>tc zF yF (a.1,(a.2,())) () (K (.exit 2))) (fun a=>tc BF AF (a,()) () (K .ret)) (fun _=>none)
def xi (n:Nat) {R:Type} (l:(Sq BA)) (i:Int) (kn:(Sq BA)→Int→Option R) (ko:(Unit)→Option R) (kr:(Bool)→Option R) (kp:Int→Option R):Option R:=if (decide (i<(l.n:Int)))=true then if 0≤i∧i<(l.n:Int) then if (decide (((l.at' (Int.toNat i)).size:Int)<(1:Int)))=false then if (decide (((l.at' (Int.toNat i)).size:Int)>(63:Int)))=false then if 0≤(0:Int)∧(0:Int)<((l.at' (Int.toNat i)).size:Int) then if ((bt (l.at' (Int.toNat i)) (0:Int))==(45:Int))=false then if 0≤(IntKind.wrap .i64 (((l.at' (Int.toNat i)).size:Int) - (1:Int)))∧(IntKind.wrap .i64 (((l.at' (Int.toNat i)).size:Int) - (1:Int)))<((l.at' (Int.toNat i)).size:Int) then if ((bt (l.at' (Int.toNat i)) (IntKind.wrap .i64 (((l.at' (Int.toNat i)).size:Int) - (1:Int))))==(45:Int))=true then kr false else (wc n n l i (l.at' (Int.toNat i)) (0:Int)).bind fun x_1=>onL x_1 (fun a_2=>kn a_2.1 (IntKind.wrap .i64 (a_2.2+(1:Int)))) (fun a_3=>kr a_3) (fun _=>none) else none else kr false else none else kr false else kr false else none else ko ()
def vc (n:Nat):Nat→(Sq BA)→Int→Option (Lx (Unit) (Bool))
 | 0,_,_=>none
 | m+1,l,i=>xi n l i (vc n m) (fun a=>some (.out a)) (fun a=>some (.ret a)) (fun p=>some (.pan p))
theorem oU (n m:Nat) {S:Type}:∀ l i (φ:_→Option S),(vc n (m+1) l i).bind φ=xi n l i (fun l i=>(vc n m l i).bind φ) (fun a=>φ (.out a)) (fun a=>φ (.ret a)) (fun p=>φ (.pan p)):=by
  intros;first | (simp only [vc,xi,ja,aa,iB,bB,oL,oX,nB,Option.bind_some]) | rfl
def Lo:List Sl:=.top::.top::.top::.dat (.sl .str)::.dat (.int .i64)::tp 70 []
def Ko:List RS:=[]
def vF:List Sl:=tp 75 []
def uF:List RS:=[]
def xF:List Sl:=.top::.top::.dat .bool::tp 72 []
def wF:List RS:=[]
def Wd (K:XE→List AV→oa→Option Out):Lx (Unit) (Bool)→Option Out:=fun x=>onL x (fun a=>tc vF uF () () (K (.exit 0))) (fun a=>tc xF wF (a,()) () (K .ret)) (fun _=>none)
def Gv (n:Nat) {R:Type} (s:BA) (k:Bool→Option R):Option R:=if (decide ((s.size:Int)>(255:Int)))=true then k false else (Fn n s).bind fun v=>if v=true then k true else (Pm n s (46:Int)).bind fun v1=>(vc n n v1 (0:Int)).bind fun x_1=>onL x_1 (fun a_2=>k true) (fun a_3=>k a_3) (fun _=>none)
def Qi (n:Nat) (s:BA):Option Bool:=Gv n s some
theorem b7 (n:Nat) {S:Type}:∀ s (φ:_→Option S),(Qi n s).bind φ=Gv n s φ:=by
  intros;unfold Qi Gv;first | (simp only [ja,aa,iB,bB,oL,oX,nB,Option.bind_some]) | rfl
def Df (n:Nat):Hint Out:={ live:=fun c=>(cond (Nat.beq c 0) [(3,some (.sl .str)),(4,none)] (cond (Nat.beq c 2) [(3,some (.sl .str)),(4,none),(5,none),(6,none)] [])),run:=fun c=>(cond (Nat.beq c 0) (some (Zg Lo Ko fun σ ρ K=>(vc n n σ.1 σ.2.1).bind (Wd K))) (cond (Nat.beq c 2) (some (Zg No Mo fun σ ρ K=>(wc n n σ.1 σ.2.1 σ.2.2.1 σ.2.2.2.1).bind (Xd K))) none)),xm:=fun c q=>(cond (Nat.beq c 0&&Nat.beq (q.getD 1000000) 0&&q.isSome) (some []) (cond (Nat.beq c 2&&Nat.beq (q.getD 1000000) 2&&q.isSome) (some [(3,some (.sl .str)),(4,none)]) (cond (Nat.beq c 3&&q.isNone) (some [(2,none)]) (cond (Nat.beq c 1&&q.isNone) (some [(2,none)]) none)))) }
def Hk (n:Nat) (K:XE→List AV→oa→Option Out) (m:Nat) (l1:(Sq BA)) (i1:Int) (w:BA) (k0:Int):Option Out:=Nc tys (ia Out (Wh n)) (Df n) n (wa [1,1,1,1,0,1,0,0,1,0,0,1,1,1,0,0] (fa Tryz.f31)) 2 No Mo K m (l1,(i1,(w,(k0,())))) ()
theorem xD (n:Nat) (K:XE→List AV→oa→Option Out):∀ (m:Nat) l1 i1 w k0,Hk n K m l1 i1 w k0=(wc n m l1 i1 w k0).bind (Xd K)
  | 0,_,_,_,_=>by kernel_rfl
  | m+1,l1,i1,w,k0=>by
    have h1:Hk n K (m+1) l1 i1 w k0=yi n l1 i1 w k0 (Hk n K m) (fun a=>Xd K (.out a)) (fun a=>Xd K (.ret a)) (fun p=>Xd K (.pan p)):=by kernel_rfl
    have h2:Hk n K m=fun l1 i1 w k0=>(wc n m l1 i1 w k0).bind (Xd K):=by
      repeat (refine funext fun _=>?_)
      exact xD n K m _ _ _ _
    rw [h1,h2];exact (pU n m _ _ _ _ (Xd K)).symm
theorem AR (n:Nat):Bc tys (ia Out (Wh n)) (Df n) n (wa [1,1,1,1,0,1,0,0,1,0,0,1,1,1,0,0] (fa Tryz.f31)) 2:=Ea (sp:=No) (rp:=Mo) (by kernel_rfl) fun K σ ρ=>xD n K n σ.1 σ.2.1 σ.2.2.1 σ.2.2.2.1
def Gk (n:Nat) (K:XE→List AV→oa→Option Out) (m:Nat) (l:(Sq BA)) (i:Int):Option Out:=Nc tys (ia Out (Wh n)) (Df n) n (wa [1,1,1,1,0,1,0,0] (fa Tryz.f31)) 0 Lo Ko K m (l,(i,())) ()
theorem wD (n:Nat) (K:XE→List AV→oa→Option Out):∀ (m:Nat) l i,Gk n K m l i=(vc n m l i).bind (Wd K)
  | 0,_,_=>by kernel_rfl
  | m+1,l,i=>by
    have h1:Gk n K (m+1) l i=xi n l i (Gk n K m) (fun a=>Wd K (.out a)) (fun a=>Wd K (.ret a)) (fun p=>Wd K (.pan p)):=by kernel_rfl
    have h2:Gk n K m=fun l i=>(vc n m l i).bind (Wd K):=by
      repeat (refine funext fun _=>?_)
      exact wD n K m _ _
    rw [h1,h2];exact (oU n m _ _ (Wd K)).symm
theorem zR (n:Nat):Bc tys (ia Out (Wh n)) (Df n) n (wa [1,1,1,1,0,1,0,0] (fa Tryz.f31)) 0:=Ea (sp:=Lo) (rp:=Ko) (by kernel_rfl) fun K σ ρ=>wD n K n σ.1 σ.2.1
theorem qU (n:Nat):qa tys (ia Out (Wh n)) (Df n) n (fa Tryz.f31) 0:=⟨trivial,⟨⟨trivial,⟨⟨trivial,trivial⟩,trivial⟩⟩,⟨⟨trivial,⟨⟨trivial,trivial⟩,trivial⟩⟩,⟨trivial,⟨⟨trivial,⟨zR n,⟨⟨trivial,⟨trivial,trivial⟩⟩,⟨⟨trivial,⟨⟨trivial,⟨⟨trivial,trivial⟩,trivial⟩⟩,⟨trivial,⟨AR n,⟨⟨trivial,⟨trivial,trivial⟩⟩,⟨⟨trivial,⟨⟨trivial,trivial⟩,trivial⟩⟩,trivial⟩⟩⟩⟩⟩⟩,trivial⟩⟩⟩⟩,⟨trivial,trivial⟩⟩⟩⟩⟩⟩
theorem JX (n:Nat):Enters Tryz.prog 31:=enters_of (c:=fa Tryz.f31) Tryz.func31 (by kernel_rfl) (by kernel_rfl)
def XM (n:Nat):Entry:=⟨31,pcT (.pair .str .unit) (.one .bool) (fun xs=>Qi n xs.1),none,none⟩
theorem X1 (n:Nat):EntryOk Tryz.prog gl (XM n):=za (JX n) fun xs y h=>na tys_ok (BD n) mixed (hint:=Df n) (n:=n) Tryz.func31 (Aa (qU n)) (la (φ:=(fun y=>some (Out.ret (qb (.one .bool) y)))) (by kernel_rfl) (b7 n xs.1 _) h)
def Fz (n:Nat):List Entry:=XM n::Wh n
theorem Gz (n:Nat):AllOk Tryz.prog gl (Fz n):=.cons (X1 n) (BD n)
def sB (n:Nat) {R:Type} (state:Int) (k:Bool→Option R):Option R:=if (state==(2:Int))=false then if (state==(3:Int))=false then k (state==(4:Int)) else k true else k true
def rB (n:Nat) (state:Int):Option Bool:=sB n state some
theorem Abb (n:Nat) {S:Type}:∀ state (φ:_→Option S),(rB n state).bind φ=sB n state φ:=by
  intros;unfold rB sB;first | (simp only [ja,aa,iB,bB,oL,oX,nB,Option.bind_some]) | rfl
def pI (n:Nat):Hint Out:={ live:=fun c=>[],run:=fun c=>none,xm:=fun c q=>none }
theorem HX (n:Nat):qa tys (ia Out (Fz n)) (pI n) n (fa Tryz.f32) 0:=ma (fun _=>rfl) _ _ (by kernel_rfl)
theorem R1 (n:Nat):Enters Tryz.prog 32:=enters_of (c:=fa Tryz.f32) Tryz.func32 (by kernel_rfl) (by kernel_rfl)
def xR (n:Nat):Entry:=⟨32,pcT (.pair (.int .i64) .unit) (.one .bool) (fun xs=>rB n xs.1),none,none⟩
theorem Z6 (n:Nat):EntryOk Tryz.prog gl (xR n):=za (R1 n) fun xs y h=>na tys_ok (Gz n) mixed (hint:=pI n) (n:=n) Tryz.func32 (Aa (HX n)) (la (φ:=(fun y=>some (Out.ret (qb (.one .bool) y)))) (by kernel_rfl) (Abb n xs.1 _) h)
def tF (n:Nat):List Entry:=xR n::Fz n
theorem vD (n:Nat):AllOk Tryz.prog gl (tF n):=.cons (Z6 n) (Gz n)
def Kv (n:Nat) {R:Type} (c:Int) (k:Bool→Option R):Option R:=if (decide (c≥(97:Int)))=true then if (decide (c≤(122:Int)))=false then if (decide (c≥(65:Int)))=true then k (decide (c≤(90:Int))) else k false else k true else if (decide (c≥(65:Int)))=true then k (decide (c≤(90:Int))) else k false
def bu (n:Nat) (c:Int):Option Bool:=Kv n c some
theorem r7 (n:Nat) {S:Type}:∀ c (φ:_→Option S),(bu n c).bind φ=Kv n c φ:=by
  intros;unfold bu Kv;first | (simp only [ja,aa,iB,bB,oL,oX,nB,Option.bind_some]) | rfl
def DD (n:Nat):Hint Out:={ live:=fun c=>[],run:=fun c=>none,xm:=fun c q=>none }
theorem wU (n:Nat):qa tys (ia Out (tF n)) (DD n) n (fa Tryz.f115) 0:=ma (fun _=>rfl) _ _ (by kernel_rfl)
theorem SX (n:Nat):Enters Tryz.prog 115:=enters_of (c:=fa Tryz.f115) Tryz.func115 (by kernel_rfl) (by kernel_rfl)
def cN (n:Nat):Entry:=⟨115,pcT (.pair (.int .u8) .unit) (.one .bool) (fun xs=>bu n xs.1),none,none⟩
theorem G2 (n:Nat):EntryOk Tryz.prog gl (cN n):=za (SX n) fun xs y h=>na tys_ok (vD n) mixed (hint:=DD n) (n:=n) Tryz.func115 (Aa (wU n)) (la (φ:=(fun y=>some (Out.ret (qb (.one .bool) y)))) (by kernel_rfl) (r7 n xs.1 _) h)
def el (n:Nat):List Entry:=cN n::tF n
theorem Nz (n:Nat):AllOk Tryz.prog gl (el n):=.cons (G2 n) (vD n)
def Hn (n:Nat) {R:Type} (c1:Int) (s:BA) (i:Int) (kn:Int→BA→Int→Option R) (ko:(Unit)→Option R) (kr:(Bool)→Option R) (kp:Int→Option R):Option R:=if (decide (i<(s.size:Int)))=true then if 0≤i∧i<(s.size:Int) then if ((bt s i)==c1)=true then kr true else kn c1 s (IntKind.wrap .i64 (i+(1:Int))) else none else ko ()
def se (n:Nat):Nat→Int→BA→Int→Option (Lx (Unit) (Bool))
 | 0,_,_,_=>none
 | m+1,c1,s,i=>Hn n c1 s i (se n m) (fun a=>some (.out a)) (fun a=>some (.ret a)) (fun p=>some (.pan p))
theorem O2 (n m:Nat) {S:Type}:∀ c1 s i (φ:_→Option S),(se n (m+1) c1 s i).bind φ=Hn n c1 s i (fun c1 s i=>(se n m c1 s i).bind φ) (fun a=>φ (.out a)) (fun a=>φ (.ret a)) (fun p=>φ (.pan p)):=by
  intros;first | (simp only [se,Hn,ja,aa,iB,bB,oL,oX,nB,Option.bind_some]) | rfl
def Ov:List Sl:=.dat (.int .u8)::.top::.top::.dat .str::.dat (.int .i64)::tp 11 []
def Nv:List RS:=[]
def gL:List Sl:=tp 16 []
def fL:List RS:=[]
def jL:List Sl:=.top::.top::.dat .bool::tp 13 []
def iL:List RS:=[]
def sg (K:XE→List AV→oa→Option Out):Lx (Unit) (Bool)→Option Out:=fun x=>onL x (fun a=>tc gL fL () () (K (.exit 0))) (fun a=>tc jL iL (a,()) () (K .ret)) (fun _=>none)
def dJ (n:Nat) {R:Type} (c:Int) (k:Bool→Option R):Option R:=(se n n c (⟨#[33,35,36,37,38,39,42,43,45,47,61,63,94,95,96,123,124,125,126]⟩:BA) (0:Int)).bind fun x_1=>onL x_1 (fun a_2=>k false) (fun a_3=>k a_3) (fun _=>none)
def eL (n:Nat) (c:Int):Option Bool:=dJ n c some
theorem teb (n:Nat) {S:Type}:∀ c (φ:_→Option S),(eL n c).bind φ=dJ n c φ:=by
  intros;unfold eL dJ;first | (simp only [ja,aa,iB,bB,oL,oX,nB,Option.bind_some]) | rfl
def Cq (n:Nat):Hint Out:={ live:=fun c=>(cond (Nat.beq c 0) (lv [0,3,4]) []),run:=fun c=>(cond (Nat.beq c 0) (some (Zg Ov Nv fun σ ρ K=>(se n n σ.1 σ.2.1 σ.2.2.1).bind (sg K))) none),xm:=fun c q=>(cond (Nat.beq c 0&&Nat.beq (q.getD 1000000) 0&&q.isSome) (some []) (cond (Nat.beq c 1&&q.isNone) (some [(2,none)]) none)) }
def Bq (n:Nat) (K:XE→List AV→oa→Option Out) (m:Nat) (c1:Int) (s:BA) (i:Int):Option Out:=Nc tys (ia Out (el n)) (Cq n) n (wa [1,1,0,1,0,0] (fa Tryz.f116)) 0 Ov Nv K m (c1,(s,(i,()))) ()
theorem eN (n:Nat) (K:XE→List AV→oa→Option Out):∀ (m:Nat) c1 s i,Bq n K m c1 s i=(se n m c1 s i).bind (sg K)
  | 0,_,_,_=>by kernel_rfl
  | m+1,c1,s,i=>by
    have h1:Bq n K (m+1) c1 s i=Hn n c1 s i (Bq n K m) (fun a=>sg K (.out a)) (fun a=>sg K (.ret a)) (fun p=>sg K (.pan p)):=by kernel_rfl
    have h2:Bq n K m=fun c1 s i=>(se n m c1 s i).bind (sg K):=by
      repeat (refine funext fun _=>?_)
      exact eN n K m _ _ _
    rw [h1,h2];exact (O2 n m _ _ _ (sg K)).symm
theorem YX (n:Nat):Bc tys (ia Out (el n)) (Cq n) n (wa [1,1,0,1,0,0] (fa Tryz.f116)) 0:=Ea (sp:=Ov) (rp:=Nv) (by kernel_rfl) fun K σ ρ=>eN n K n σ.1 σ.2.1 σ.2.2.1
theorem P2 (n:Nat):qa tys (ia Out (el n)) (Cq n) n (fa Tryz.f116) 0:=⟨trivial,⟨trivial,⟨⟨trivial,⟨YX n,⟨⟨trivial,⟨trivial,trivial⟩⟩,⟨⟨trivial,⟨⟨trivial,trivial⟩,trivial⟩⟩,trivial⟩⟩⟩⟩,⟨trivial,trivial⟩⟩⟩⟩
theorem x7 (n:Nat):Enters Tryz.prog 116:=enters_of (c:=fa Tryz.f116) Tryz.func116 (by kernel_rfl) (by kernel_rfl)
def EV (n:Nat):Entry:=⟨116,pcT (.pair (.int .u8) .unit) (.one .bool) (fun xs=>eL n xs.1),none,none⟩
theorem Jbb (n:Nat):EntryOk Tryz.prog gl (EV n):=za (x7 n) fun xs y h=>na tys_ok (Nz n) mixed (hint:=Cq n) (n:=n) Tryz.func116 (Aa (P2 n)) (la (φ:=(fun y=>some (Out.ret (qb (.one .bool) y)))) (by kernel_rfl) (teb n xs.1 _) h)
def Jj (n:Nat):List Entry:=EV n::el n
theorem eJ (n:Nat):AllOk Tryz.prog gl (Jj n):=.cons (Jbb n) (Nz n)
def Ij (n:Nat) {R:Type} (l1:(Sq BA)) (i1 k0:Int) (kn:(Sq BA)→Int→Int→Option R) (ko:((Sq BA)×Int)→Option R) (kr:(Bool)→Option R) (kp:Int→Option R):Option R:=if 0≤i1∧i1<(l1.n:Int) then if (decide (k0<((l1.at' (Int.toNat i1)).size:Int)))=true then if 0≤i1∧i1<(l1.n:Int) then if 0≤k0∧k0<((l1.at' (Int.toNat i1)).size:Int) then (bu n (bt (l1.at' (Int.toNat i1)) k0)).bind fun v1=>if (!v1)=true then if 0≤i1∧i1<(l1.n:Int) then if 0≤k0∧k0<((l1.at' (Int.toNat i1)).size:Int) then (Jk n (bt (l1.at' (Int.toNat i1)) k0)).bind fun v2=>if (!v2)=true then if 0≤i1∧i1<(l1.n:Int) then if 0≤k0∧k0<((l1.at' (Int.toNat i1)).size:Int) then (eL n (bt (l1.at' (Int.toNat i1)) k0)).bind fun v3=>if (!v3)=true then kr false else kn l1 i1 (IntKind.wrap .i64 (k0+(1:Int))) else none else none else kn l1 i1 (IntKind.wrap .i64 (k0+(1:Int))) else none else none else kn l1 i1 (IntKind.wrap .i64 (k0+(1:Int))) else none else none else ko (l1,i1) else none
def ud (n:Nat):Nat→(Sq BA)→Int→Int→Option (Lx ((Sq BA)×Int) (Bool))
 | 0,_,_,_=>none
 | m+1,l1,i1,k0=>Ij n l1 i1 k0 (ud n m) (fun a=>some (.out a)) (fun a=>some (.ret a)) (fun p=>some (.pan p))
theorem UX (n m:Nat) {S:Type}:∀ l1 i1 k0 (φ:_→Option S),(ud n (m+1) l1 i1 k0).bind φ=Ij n l1 i1 k0 (fun l1 i1 k0=>(ud n m l1 i1 k0).bind φ) (fun a=>φ (.out a)) (fun a=>φ (.ret a)) (fun p=>φ (.pan p)):=by
  intros;first | (simp only [ud,Ij,ja,aa,iB,bB,oL,oX,nB,Option.bind_some]) | rfl
def Bs:List Sl:=.top::.top::.top::.dat (.sl .str)::.dat (.int .i64)::.dat (.int .i64)::tp 50 []
def As:List RS:=[]
def XI:List Sl:=.top::.top::.top::.dat (.sl .str)::.dat (.int .i64)::tp 51 []
def WI:List RS:=[]
def ZI:List Sl:=.top::.top::.dat .bool::tp 53 []
def YI:List RS:=[]
def ef (K:XE→List AV→oa→Option Out):Lx ((Sq BA)×Int) (Bool)→Option Out:=fun x=>onL x (fun a=>tc XI WI (a.1,(a.2,())) () (K (.exit 2))) (fun a=>tc ZI YI (a,()) () (K .ret)) (fun _=>none)
def Hj (n:Nat) {R:Type} (l:(Sq BA)) (i:Int) (kn:(Sq BA)→Int→Option R) (ko:(Unit)→Option R) (kr:(Bool)→Option R) (kp:Int→Option R):Option R:=if (decide (i<(l.n:Int)))=true then if 0≤i∧i<(l.n:Int) then if ((l.at' (Int.toNat i)).toList==(⟨#[]⟩:BA).toList)=true then kr false else (ud n n l i (0:Int)).bind fun x_1=>onL x_1 (fun a_2=>kn a_2.1 (IntKind.wrap .i64 (a_2.2+(1:Int)))) (fun a_3=>kr a_3) (fun _=>none) else none else ko ()
def td (n:Nat):Nat→(Sq BA)→Int→Option (Lx (Unit) (Bool))
 | 0,_,_=>none
 | m+1,l,i=>Hj n l i (td n m) (fun a=>some (.out a)) (fun a=>some (.ret a)) (fun p=>some (.pan p))
theorem TX (n m:Nat) {S:Type}:∀ l i (φ:_→Option S),(td n (m+1) l i).bind φ=Hj n l i (fun l i=>(td n m l i).bind φ) (fun a=>φ (.out a)) (fun a=>φ (.ret a)) (fun p=>φ (.pan p)):=by
  intros;first | (simp only [td,Hj,ja,aa,iB,bB,oL,oX,nB,Option.bind_some]) | rfl
def ws:List Sl:=.top::.top::.top::.dat (.sl .str)::.dat (.int .i64)::tp 51 []
def ss:List RS:=[]
def SI:List Sl:=tp 56 []
def RI:List RS:=[]
def UI:List Sl:=.top::.top::.dat .bool::tp 53 []
def TI:List RS:=[]
def df (K:XE→List AV→oa→Option Out):Lx (Unit) (Bool)→Option Out:=fun x=>onL x (fun a=>tc SI RI () () (K (.exit 0))) (fun a=>tc UI TI (a,()) () (K .ret)) (fun _=>none)
def zB (n:Nat) {R:Type} (s:BA) (k:Bool→Option R):Option R:=(Pm n s (46:Int)).bind fun v=>(td n n v (0:Int)).bind fun x_1=>onL x_1 (fun a_2=>k true) (fun a_3=>k a_3) (fun _=>none)
def Aq (n:Nat) (s:BA):Option Bool:=zB n s some
theorem Hbb (n:Nat) {S:Type}:∀ s (φ:_→Option S),(Aq n s).bind φ=zB n s φ:=by
  intros;unfold Aq zB;first | (simp only [ja,aa,iB,bB,oL,oX,nB,Option.bind_some]) | rfl
def Xg (n:Nat):Hint Out:={ live:=fun c=>(cond (Nat.beq c 0) [(3,some (.sl .str)),(4,none)] (cond (Nat.beq c 2) [(3,some (.sl .str)),(4,none),(5,none)] [])),run:=fun c=>(cond (Nat.beq c 0) (some (Zg ws ss fun σ ρ K=>(td n n σ.1 σ.2.1).bind (df K))) (cond (Nat.beq c 2) (some (Zg Bs As fun σ ρ K=>(ud n n σ.1 σ.2.1 σ.2.2.1).bind (ef K))) none)),xm:=fun c q=>(cond (Nat.beq c 0&&Nat.beq (q.getD 1000000) 0&&q.isSome) (some []) (cond (Nat.beq c 2&&Nat.beq (q.getD 1000000) 2&&q.isSome) (some [(3,some (.sl .str)),(4,none)]) (cond (Nat.beq c 3&&q.isNone) (some [(2,none)]) (cond (Nat.beq c 1&&q.isNone) (some [(2,none)]) none)))) }
def ln (n:Nat) (K:XE→List AV→oa→Option Out) (m:Nat) (l1:(Sq BA)) (i1:Int) (k0:Int):Option Out:=Nc tys (ia Out (Jj n)) (Xg n) n (wa [1,1,0,1,0,0,1,0,0,1,1,0,0] (fa Tryz.f86)) 2 Bs As K m (l1,(i1,(k0,()))) ()
theorem VI (n:Nat) (K:XE→List AV→oa→Option Out):∀ (m:Nat) l1 i1 k0,ln n K m l1 i1 k0=(ud n m l1 i1 k0).bind (ef K)
  | 0,_,_,_=>by kernel_rfl
  | m+1,l1,i1,k0=>by
    have h1:ln n K (m+1) l1 i1 k0=Ij n l1 i1 k0 (ln n K m) (fun a=>ef K (.out a)) (fun a=>ef K (.ret a)) (fun p=>ef K (.pan p)):=by kernel_rfl
    have h2:ln n K m=fun l1 i1 k0=>(ud n m l1 i1 k0).bind (ef K):=by
      repeat (refine funext fun _=>?_)
      exact VI n K m _ _ _
    rw [h1,h2];exact (UX n m _ _ _ (ef K)).symm
theorem zU (n:Nat):Bc tys (ia Out (Jj n)) (Xg n) n (wa [1,1,0,1,0,0,1,0,0,1,1,0,0] (fa Tryz.f86)) 2:=Ea (sp:=Bs) (rp:=As) (by kernel_rfl) fun K σ ρ=>VI n K n σ.1 σ.2.1 σ.2.2.1
def en (n:Nat) (K:XE→List AV→oa→Option Out) (m:Nat) (l:(Sq BA)) (i:Int):Option Out:=Nc tys (ia Out (Jj n)) (Xg n) n (wa [1,1,0,1,0,0] (fa Tryz.f86)) 0 ws ss K m (l,(i,())) ()
theorem QI (n:Nat) (K:XE→List AV→oa→Option Out):∀ (m:Nat) l i,en n K m l i=(td n m l i).bind (df K)
  | 0,_,_=>by kernel_rfl
  | m+1,l,i=>by
    have h1:en n K (m+1) l i=Hj n l i (en n K m) (fun a=>df K (.out a)) (fun a=>df K (.ret a)) (fun p=>df K (.pan p)):=by kernel_rfl
    have h2:en n K m=fun l i=>(td n m l i).bind (df K):=by
      repeat (refine funext fun _=>?_)
      exact QI n K m _ _
    rw [h1,h2];exact (TX n m _ _ (df K)).symm
theorem yU (n:Nat):Bc tys (ia Out (Jj n)) (Xg n) n (wa [1,1,0,1,0,0] (fa Tryz.f86)) 0:=Ea (sp:=ws) (rp:=ss) (by kernel_rfl) fun K σ ρ=>QI n K n σ.1 σ.2.1
theorem VX (n:Nat):qa tys (ia Out (Jj n)) (Xg n) n (fa Tryz.f86) 0:=⟨trivial,⟨trivial,⟨⟨trivial,⟨yU n,⟨⟨trivial,⟨trivial,trivial⟩⟩,⟨⟨⟨trivial,⟨⟨trivial,trivial⟩,trivial⟩⟩,⟨trivial,⟨zU n,⟨⟨trivial,⟨trivial,trivial⟩⟩,⟨⟨trivial,⟨⟨trivial,trivial⟩,trivial⟩⟩,trivial⟩⟩⟩⟩⟩,trivial⟩⟩⟩⟩,⟨trivial,trivial⟩⟩⟩⟩
theorem M2 (n:Nat):Enters Tryz.prog 86:=enters_of (c:=fa Tryz.f86) Tryz.func86 (by kernel_rfl) (by kernel_rfl)
def OR (n:Nat):Entry:=⟨86,pcT (.pair .str .unit) (.one .bool) (fun xs=>Aq n xs.1),none,none⟩
theorem u7 (n:Nat):EntryOk Tryz.prog gl (OR n):=za (M2 n) fun xs y h=>na tys_ok (eJ n) mixed (hint:=Xg n) (n:=n) Tryz.func86 (Aa (VX n)) (la (φ:=(fun y=>some (Out.ret (qb (.one .bool) y)))) (by kernel_rfl) (Hbb n xs.1 _) h)
def Ro (n:Nat):List Entry:=OR n::Jj n
theorem ED (n:Nat):AllOk Tryz.prog gl (Ro n):=.cons (u7 n) (eJ n)
def lc (n:Nat) {R:Type} (s1:BA) (i:Int) (b:(Sq Int)) (kn:BA→Int→(Sq Int)→Option R) (ko:(Unit)→Option R) (kr:(BA×Int×Bool)→Option R) (kp:Int→Option R):Option R:=if (decide (i<(s1.size:Int)))=true then if 0≤i∧i<(s1.size:Int) then if ((bt s1 i)==(34:Int))=true then kr ((uC b.n b.at'),(IntKind.wrap .i64 (i+(1:Int))),true) else if ((bt s1 i)==(92:Int))=true then if (decide ((IntKind.wrap .i64 (i+(1:Int)))≥(s1.size:Int)))=true then ko () else if 0≤(IntKind.wrap .i64 (i+(1:Int)))∧(IntKind.wrap .i64 (i+(1:Int)))<(s1.size:Int) then if (decide ((bt s1 (IntKind.wrap .i64 (i+(1:Int))))<(32:Int)))=false then if (decide ((bt s1 (IntKind.wrap .i64 (i+(1:Int))))>(126:Int)))=true then ko () else if wb (b.n+1) 1=true then kn s1 (IntKind.wrap .i64 ((IntKind.wrap .i64 (i+(1:Int)))+(1:Int))) (⟨(b.n+1),fun q=>if q<b.n then b.at' q else (fun q=>List.getD (α:=Int) [(bt s1 (IntKind.wrap .i64 (i+(1:Int))))] q (ta (.int .u8))) (q - b.n)⟩:Sq Int) else none else ko () else none else if (decide ((bt s1 i)<(32:Int)))=false then if (decide ((bt s1 i)>(126:Int)))=true then ko () else if wb (b.n+1) 1=true then kn s1 (IntKind.wrap .i64 (i+(1:Int))) (⟨(b.n+1),fun q=>if q<b.n then b.at' q else (fun q=>List.getD (α:=Int) [(bt s1 i)] q (ta (.int .u8))) (q - b.n)⟩:Sq Int) else none else
 ko () else none else ko ()
def Ma (n:Nat):Nat→BA→Int→(Sq Int)→Option (Lx (Unit) (BA×Int×Bool))
 | 0,_,_,_=>none
 | m+1,s1,i,b=>lc n s1 i b (Ma n m) (fun a=>some (.out a)) (fun a=>some (.ret a)) (fun p=>some (.pan p))
theorem QX (n m:Nat) {S:Type}:∀ s1 i b (φ:_→Option S),(Ma n (m+1) s1 i b).bind φ=lc n s1 i b (fun s1 i b=>(Ma n m s1 i b).bind φ) (fun a=>φ (.out a)) (fun a=>φ (.ret a)) (fun p=>φ (.pan p)):=by
  intros;first | (simp only [Ma,lc,ja,aa,iB,bB,oL,oX,nB,Option.bind_some]) | rfl
def ks:List Sl:=.dat .str::tp 4 (.row 0::.dat (.int .i64)::tp 37 [])
def js:List RS:=[.row 5 1 (.int .u8) true false]
def LI:List Sl:=tp 44 []
def KI:List RS:=[]
def NI:List Sl:=.top::.top::.dat .str::.dat (.int .i64)::.dat .bool::tp 39 []
def MI:List RS:=[]
def cf (K:XE→List AV→oa→Option Out):Lx (Unit) (BA×Int×Bool)→Option Out:=fun x=>onL x (fun a=>tc LI KI () () (K (.exit 0))) (fun a=>tc NI MI (a.1,(a.2.1,(a.2.2,()))) () (K .ret)) (fun _=>none)
def yB (n:Nat) {R:Type} (s:BA) (k:(BA×Int×Bool×Unit)→Option R):Option R:=(Ma n n s (1:Int) (⟨0,fun _=>ta (.int .u8)⟩:Sq Int)).bind fun x_1=>onL x_1 (fun a_2=>k ((⟨#[]⟩:BA),((0:Int),(false,())))) (fun a_3=>k (a_3.1,(a_3.2.1,(a_3.2.2,())))) (fun _=>none)
def yq (n:Nat) (s:BA):Option (BA×Int×Bool×Unit):=yB n s some
theorem Gbb (n:Nat) {S:Type}:∀ s (φ:_→Option S),(yq n s).bind φ=yB n s φ:=by
  intros;unfold yq yB;first | (simp only [ja,aa,iB,bB,oL,oX,nB,Option.bind_some]) | rfl
def dn (n:Nat):Hint Out:={ live:=fun c=>(cond (Nat.beq c 0) [(0,none),(5,some (.sl (.int .u8))),(6,none)] []),run:=fun c=>(cond (Nat.beq c 0) (some (Zg ks js fun σ ρ K=>(Ma n n σ.1 σ.2.1 ρ.1).bind (cf K))) none),xm:=fun c q=>(cond (Nat.beq c 0&&Nat.beq (q.getD 1000000) 0&&q.isSome) (some []) (cond (Nat.beq c 1&&Nat.beq (q.getD 1000000) 0&&q.isSome) (some []) (cond (Nat.beq c 1&&q.isNone) (some (lv [2,3,4])) none))) }
def bn (n:Nat) (K:XE→List AV→oa→Option Out) (m:Nat) (s1:BA) (i:Int) (b:(Sq Int)):Option Out:=Nc tys (ia Out (Ro n)) (dn n) n (wa [1,1,0,1,0,0] (fa Tryz.f87)) 0 ks js K m (s1,(i,())) (b,())
theorem JI (n:Nat) (K:XE→List AV→oa→Option Out):∀ (m:Nat) s1 i b,bn n K m s1 i b=(Ma n m s1 i b).bind (cf K)
  | 0,_,_,_=>by kernel_rfl
  | m+1,s1,i,b=>by
    have h1:bn n K (m+1) s1 i b=lc n s1 i b (bn n K m) (fun a=>cf K (.out a)) (fun a=>cf K (.ret a)) (fun p=>cf K (.pan p)):=by kernel_rfl
    have h2:bn n K m=fun s1 i b=>(Ma n m s1 i b).bind (cf K):=by
      repeat (refine funext fun _=>?_)
      exact JI n K m _ _ _
    rw [h1,h2];exact (QX n m _ _ _ (cf K)).symm
theorem vU (n:Nat):Bc tys (ia Out (Ro n)) (dn n) n (wa [1,1,0,1,0,0] (fa Tryz.f87)) 0:=Ea (sp:=ks) (rp:=js) (by kernel_rfl) fun K σ ρ=>JI n K n σ.1 σ.2.1 ρ.1
theorem RX (n:Nat):qa tys (ia Out (Ro n)) (dn n) n (fa Tryz.f87) 0:=⟨trivial,⟨trivial,⟨⟨trivial,⟨vU n,⟨⟨trivial,⟨trivial,trivial⟩⟩,⟨⟨trivial,⟨⟨trivial,⟨⟨trivial,trivial⟩,trivial⟩⟩,⟨⟨trivial,⟨⟨trivial,⟨⟨trivial,⟨trivial,trivial⟩⟩,trivial⟩⟩,trivial⟩⟩,⟨⟨trivial,⟨trivial,trivial⟩⟩,trivial⟩⟩⟩⟩,trivial⟩⟩⟩⟩,⟨trivial,trivial⟩⟩⟩⟩
theorem F2 (n:Nat):Enters Tryz.prog 87:=enters_of (c:=fa Tryz.f87) Tryz.func87 (by kernel_rfl) (by kernel_rfl)
def IR (n:Nat):Entry:=⟨87,pcT (.pair .str .unit) (.many (.pair .str (.pair (.int .i64) (.pair .bool .unit)))) (fun xs=>yq n xs.1),none,none⟩
theorem q7 (n:Nat):EntryOk Tryz.prog gl (IR n):=za (F2 n) fun xs y h=>na tys_ok (ED n) mixed (hint:=dn n) (n:=n) Tryz.func87 (Aa (RX n)) (la (φ:=(fun y=>some (Out.ret (qb (.many (.pair .str (.pair (.int .i64) (.pair .bool .unit)))) y)))) (by kernel_rfl) (Gbb n xs.1 _) h)
def Qo (n:Nat):List Entry:=IR n::Ro n
theorem CD (n:Nat):AllOk Tryz.prog gl (Qo n):=.cons (q7 n) (ED n)
def rg (n:Nat) {R:Type} (s1 q:BA) (i:Int) (kn:BA→BA→Int→Option R) (ko:(BA)→Option R) (kr:Unit→Option R) (kp:Int→Option R):Option R:=if (decide (i<(s1.size:Int)))=true then if 0≤i∧i<(s1.size:Int) then if ((bt s1 i)==(34:Int))=false then if 0≤i∧i<(s1.size:Int) then if ((bt s1 i)==(92:Int))=true then if Ag q (⟨#[92]⟩:BA)=true then if 0≤(IntKind.wrap .i64 (i+(1:Int)))∧(IntKind.wrap .i64 (i+(1:Int)))≤(s1.size:Int) then if 0≤i∧i≤(IntKind.wrap .i64 (i+(1:Int))) then if Ag (q++(⟨#[92]⟩:BA)) (s1.extract (Int.toNat i) (Int.toNat (IntKind.wrap .i64 (i+(1:Int)))))=true then kn s1 ((q++(⟨#[92]⟩:BA))++(s1.extract (Int.toNat i) (Int.toNat (IntKind.wrap .i64 (i+(1:Int)))))) (IntKind.wrap .i64 (i+(1:Int))) else none else none else none else none else if 0≤(IntKind.wrap .i64 (i+(1:Int)))∧(IntKind.wrap .i64 (i+(1:Int)))≤(s1.size:Int) then if 0≤i∧i≤(IntKind.wrap .i64 (i+(1:Int))) then if Ag q (s1.extract (Int.toNat i) (Int.toNat (IntKind.wrap .i64 (i+(1:Int)))))=true then kn s1 (q++(s1.extract (Int.toNat i) (Int.toNat (IntKind.wrap .i64 (i+(1:Int)))))) (IntKind.wrap .i64 (i+(1:Int))) else none else none else none else none else if Ag q (⟨#[92]⟩:BA)=true then if 0≤(IntKind.wrap .i64 (i+(1:Int)))∧(IntKind.wrap .i64 (i+(1:Int)))≤(s1.size:Int) then
 if 0≤i∧i≤(IntKind.wrap .i64 (i+(1:Int))) then if Ag (q++(⟨#[92]⟩:BA)) (s1.extract (Int.toNat i) (Int.toNat (IntKind.wrap .i64 (i+(1:Int)))))=true then kn s1 ((q++(⟨#[92]⟩:BA))++(s1.extract (Int.toNat i) (Int.toNat (IntKind.wrap .i64 (i+(1:Int)))))) (IntKind.wrap .i64 (i+(1:Int))) else none else none else none else none else none else ko q
def mc (n:Nat):Nat→BA→BA→Int→Option (Lx (BA) Unit)
 | 0,_,_,_=>none
 | m+1,s1,q,i=>rg n s1 q i (mc n m) (fun a=>some (.out a)) (fun a=>some (.ret a)) (fun p=>some (.pan p))
theorem WX (n m:Nat) {S:Type}:∀ s1 q i (φ:_→Option S),(mc n (m+1) s1 q i).bind φ=rg n s1 q i (fun s1 q i=>(mc n m s1 q i).bind φ) (fun a=>φ (.out a)) (fun a=>φ (.ret a)) (fun p=>φ (.pan p)):=by
  intros;first | (simp only [mc,rg,ja,aa,iB,bB,oL,oX,nB,Option.bind_some]) | rfl
def Ds:List Sl:=.dat .str::.top::.top::.dat .str::.dat (.int .i64)::tp 27 []
def Cs:List RS:=[]
def cJ:List Sl:=.top::.top::.top::.dat .str::tp 28 []
def bJ:List RS:=[]
def ff (K:XE→List AV→oa→Option Out):Lx (BA) Unit→Option Out:=fun x=>onL x (fun a=>tc cJ bJ (a,()) () (K (.exit 0))) (fun _=>none) (fun _=>none)
def AB (n:Nat) {R:Type} (s:BA) (k:BA→Option R):Option R:=(mc n n s (⟨#[34]⟩:BA) (0:Int)).bind fun x_1=>onL x_1 (fun a_2=>if Ag a_2 (⟨#[34]⟩:BA)=true then k (a_2++(⟨#[34]⟩:BA)) else none) (fun _=>none) (fun _=>none)
def Mv (n:Nat) (s:BA):Option BA:=AB n s some
theorem Ibb (n:Nat) {S:Type}:∀ s (φ:_→Option S),(Mv n s).bind φ=AB n s φ:=by
  intros;unfold Mv AB;first | (simp only [ja,aa,iB,bB,oL,oX,nB,Option.bind_some]) | rfl
def rn (n:Nat):Hint Out:={ live:=fun c=>(cond (Nat.beq c 0) (lv [0,3,4]) []),run:=fun c=>(cond (Nat.beq c 0) (some (Zg Ds Cs fun σ ρ K=>(mc n n σ.1 σ.2.1 σ.2.2.1).bind (ff K))) none),xm:=fun c q=>(cond (Nat.beq c 0&&Nat.beq (q.getD 1000000) 0&&q.isSome) (some [(3,none)]) none) }
def qn (n:Nat) (K:XE→List AV→oa→Option Out) (m:Nat) (s1:BA) (q:BA) (i:Int):Option Out:=Nc tys (ia Out (Qo n)) (rn n) n (wa [1,1,0,1,0,0] (fa Tryz.f88)) 0 Ds Cs K m (s1,(q,(i,()))) ()
theorem aJ (n:Nat) (K:XE→List AV→oa→Option Out):∀ (m:Nat) s1 q i,qn n K m s1 q i=(mc n m s1 q i).bind (ff K)
  | 0,_,_,_=>by kernel_rfl
  | m+1,s1,q,i=>by
    have h1:qn n K (m+1) s1 q i=rg n s1 q i (qn n K m) (fun a=>ff K (.out a)) (fun a=>ff K (.ret a)) (fun p=>ff K (.pan p)):=by kernel_rfl
    have h2:qn n K m=fun s1 q i=>(mc n m s1 q i).bind (ff K):=by
      repeat (refine funext fun _=>?_)
      exact aJ n K m _ _ _
    rw [h1,h2];exact (WX n m _ _ _ (ff K)).symm
theorem AU (n:Nat):Bc tys (ia Out (Qo n)) (rn n) n (wa [1,1,0,1,0,0] (fa Tryz.f88)) 0:=Ea (sp:=Ds) (rp:=Cs) (by kernel_rfl) fun K σ ρ=>aJ n K n σ.1 σ.2.1 σ.2.2.1
theorem XX (n:Nat):qa tys (ia Out (Qo n)) (rn n) n (fa Tryz.f88) 0:=⟨trivial,⟨trivial,⟨⟨trivial,⟨AU n,⟨⟨trivial,⟨trivial,trivial⟩⟩,⟨⟨⟨trivial,⟨trivial,trivial⟩⟩,trivial⟩,trivial⟩⟩⟩⟩,⟨trivial,trivial⟩⟩⟩⟩
theorem N2 (n:Nat):Enters Tryz.prog 88:=enters_of (c:=fa Tryz.f88) Tryz.func88 (by kernel_rfl) (by kernel_rfl)
def PR (n:Nat):Entry:=⟨88,pcT (.pair .str .unit) (.one .str) (fun xs=>Mv n xs.1),none,none⟩
theorem w7 (n:Nat):EntryOk Tryz.prog gl (PR n):=za (N2 n) fun xs y h=>na tys_ok (CD n) mixed (hint:=rn n) (n:=n) Tryz.func88 (Aa (XX n)) (la (φ:=(fun y=>some (Out.ret (qb (.one .str) y)))) (by kernel_rfl) (Ibb n xs.1 _) h)
def OF (n:Nat):List Entry:=PR n::Qo n
theorem FD (n:Nat):AllOk Tryz.prog gl (OF n):=.cons (w7 n) (CD n)
def uB (n:Nat) {R:Type} (s:BA) (k:Bool→Option R):Option R:=if (decide ((s.size:Int)<(1:Int)))=false then if (decide ((s.size:Int)>(64:Int)))=true then k false else if 0≤(0:Int)∧(0:Int)<(s.size:Int) then if ((bt s (0:Int)) !=(34:Int))=true then (Aq n s).bind fun v=>k v else (yq n s).bind fun v1=>if v1.2.2.1=true then if (v1.2.1==(s.size:Int))=true then (Aq n v1.1).bind fun v2=>if (!v2)=true then (Mv n v1.1).bind fun v3=>k (v3.toList==s.toList) else k false else k false else k false else none else k false
def tB (n:Nat) (s:BA):Option Bool:=uB n s some
theorem Bbb (n:Nat) {S:Type}:∀ s (φ:_→Option S),(tB n s).bind φ=uB n s φ:=by
  intros;unfold tB uB;first | (simp only [ja,aa,iB,bB,oL,oX,nB,Option.bind_some]) | rfl
def sI (n:Nat):Hint Out:={ live:=fun c=>[],run:=fun c=>none,xm:=fun c q=>none }
theorem LX (n:Nat):qa tys (ia Out (OF n)) (sI n) n (fa Tryz.f62) 0:=ma (fun _=>rfl) _ _ (by kernel_rfl)
theorem Z1 (n:Nat):Enters Tryz.prog 62:=enters_of (c:=fa Tryz.f62) Tryz.func62 (by kernel_rfl) (by kernel_rfl)
def ER (n:Nat):Entry:=⟨62,pcT (.pair .str .unit) (.one .bool) (fun xs=>tB n xs.1),none,none⟩
theorem d7 (n:Nat):EntryOk Tryz.prog gl (ER n):=za (Z1 n) fun xs y h=>na tys_ok (FD n) mixed (hint:=sI n) (n:=n) Tryz.func62 (Aa (LX n)) (la (φ:=(fun y=>some (Out.ret (qb (.one .bool) y)))) (by kernel_rfl) (Bbb n xs.1 _) h)
def CF (n:Nat):List Entry:=ER n::OF n
theorem yD (n:Nat):AllOk Tryz.prog gl (CF n):=.cons (d7 n) (FD n)
def iP (n:Nat) {R:Type} (m0:U0) (k:Bool→Option R):Option R:=(tB n m0.1).bind fun v=>if v=true then (Qi n m0.2.1).bind fun v1=>k v1 else k false
def ne (n:Nat) (m0:U0):Option Bool:=iP n m0 some
theorem ugb (n:Nat) {S:Type}:∀ m0 (φ:_→Option S),(ne n m0).bind φ=iP n m0 φ:=by
  intros;unfold ne iP;first | (simp only [ja,aa,iB,bB,oL,oX,nB,Option.bind_some]) | rfl
def FR (n:Nat):Hint Out:={ live:=fun c=>[],run:=fun c=>none,xm:=fun c q=>none }
theorem i7 (n:Nat):qa tys (ia Out (CF n)) (FR n) n (fa Tryz.f33) 0:=ma (fun _=>rfl) _ _ (by kernel_rfl)
theorem Cbb (n:Nat):Enters Tryz.prog 33:=enters_of (c:=fa Tryz.f33) Tryz.func33 (by kernel_rfl) (by kernel_rfl)
def y2 (n:Nat):Entry:=⟨33,pcT (.pair (.pair .str (.pair .str .unit)) .unit) (.one .bool) (fun xs=>ne n xs.1),none,none⟩
theorem peb (n:Nat):EntryOk Tryz.prog gl (y2 n):=za (Cbb n) fun xs y h=>na tys_ok (yD n) mixed (hint:=FR n) (n:=n) Tryz.func33 (Aa (i7 n)) (la (φ:=(fun y=>some (Out.ret (qb (.one .bool) y)))) (by kernel_rfl) (ugb n xs.1 _) h)
def Iz (n:Nat):List Entry:=y2 n::CF n
theorem YM (n:Nat):AllOk Tryz.prog gl (Iz n):=.cons (peb n) (yD n)
def Ue (n:Nat) {R:Type} (l1:(Sq U0)) (i:Int) (m01 m02:BA) (kn:(Sq U0)→Int→BA→BA→Option R) (ko:(Unit)→Option R) (kr:(Int)→Option R) (kp:Int→Option R):Option R:=if (decide (i<(l1.n:Int)))=true then if 0≤i∧i<(l1.n:Int) then if (((((l1.at' (Int.toNat i))).1).toList==m01.toList)&&((((((l1.at' (Int.toNat i))).2).1).toList==m02.toList)&&true))=true then kr i else kn l1 (IntKind.wrap .i64 (i+(1:Int))) m01 m02 else none else ko ()
def Ab (n:Nat):Nat→(Sq U0)→Int→BA→BA→Option (Lx (Unit) (Int))
 | 0,_,_,_,_=>none
 | m+1,l1,i,m01,m02=>Ue n l1 i m01 m02 (Ab n m) (fun a=>some (.out a)) (fun a=>some (.ret a)) (fun p=>some (.pan p))
theorem TQ (n m:Nat) {S:Type}:∀ l1 i m01 m02 (φ:_→Option S),(Ab n (m+1) l1 i m01 m02).bind φ=Ue n l1 i m01 m02 (fun l1 i m01 m02=>(Ab n m l1 i m01 m02).bind φ) (fun a=>φ (.out a)) (fun a=>φ (.ret a)) (fun p=>φ (.pan p)):=by
  intros;first | (simp only [Ab,Ue,ja,aa,iB,bB,oL,oX,nB,Option.bind_some]) | rfl
def Kl:List Sl:=.dat (.sl (.pair .str (.pair .str .unit)))::.top::.top::.ptr 0 0 0::.top::.dat (.int .i64)::tp 13 []
def Jl:List RS:=[.box 25 2 true [.dat .str,.dat .str]]
def cC:List Sl:=tp 19 []
def bC:List RS:=[]
def eC:List Sl:=tp 4 (.dat (.int .i64)::tp 14 [])
def dC:List RS:=[]
def Zc (K:XE→List AV→oa→Option Out):Lx (Unit) (Int)→Option Out:=fun x=>onL x (fun a=>tc cC bC () () (K (.exit 0))) (fun a=>tc eC dC (a,()) () (K .ret)) (fun _=>none)
def aq (n:Nat) {R:Type} (l:(Sq U0)) (m0:U0) (k:Int→Option R):Option R:=(Ab n n l (0:Int) m0.1 m0.2.1).bind fun x_1=>onL x_1 (fun a_2=>k (-1:Int)) (fun a_3=>k a_3) (fun _=>none)
def Bd (n:Nat) (l:(Sq U0)) (m0:U0):Option Int:=aq n l m0 some
theorem Y0 (n:Nat) {S:Type}:∀ l m0 (φ:_→Option S),(Bd n l m0).bind φ=aq n l m0 φ:=by
  intros;unfold Bd aq;first | (simp only [ja,aa,iB,bB,oL,oX,nB,Option.bind_some]) | rfl
def Oi (n:Nat):Hint Out:={ live:=fun c=>(cond (Nat.beq c 0) [(0,some (.sl (.pair .str (.pair .str .unit)))),(3,none),(5,none)] []),run:=fun c=>(cond (Nat.beq c 0) (some (Zg Kl Jl fun σ ρ K=>(Ab n n σ.1 σ.2.1 ρ.1.1 ρ.1.2.1).bind (Zc K))) none),xm:=fun c q=>(cond (Nat.beq c 0&&Nat.beq (q.getD 1000000) 0&&q.isSome) (some []) (cond (Nat.beq c 1&&q.isNone) (some [(4,none)]) none)) }
def Mi (n:Nat) (K:XE→List AV→oa→Option Out) (m:Nat) (l1:(Sq U0)) (i:Int) (m01:BA) (m02:BA):Option Out:=Nc tys (ia Out (Iz n)) (Oi n) n (wa [1,0,1,0,0] (fa Tryz.f34)) 0 Kl Jl K m (l1,(i,())) ((m01,(m02,())),())
theorem iz (n:Nat) (K:XE→List AV→oa→Option Out):∀ (m:Nat) l1 i m01 m02,Mi n K m l1 i m01 m02=(Ab n m l1 i m01 m02).bind (Zc K)
  | 0,_,_,_,_=>by kernel_rfl
  | m+1,l1,i,m01,m02=>by
    have h1:Mi n K (m+1) l1 i m01 m02=Ue n l1 i m01 m02 (Mi n K m) (fun a=>Zc K (.out a)) (fun a=>Zc K (.ret a)) (fun p=>Zc K (.pan p)):=by kernel_rfl
    have h2:Mi n K m=fun l1 i m01 m02=>(Ab n m l1 i m01 m02).bind (Zc K):=by
      repeat (refine funext fun _=>?_)
      exact iz n K m _ _ _ _
    rw [h1,h2];exact (TQ n m _ _ _ _ (Zc K)).symm
theorem TN (n:Nat):Bc tys (ia Out (Iz n)) (Oi n) n (wa [1,0,1,0,0] (fa Tryz.f34)) 0:=Ea (sp:=Kl) (rp:=Jl) (by kernel_rfl) fun K σ ρ=>iz n K n σ.1 σ.2.1 ρ.1.1 ρ.1.2.1
theorem UQ (n:Nat):qa tys (ia Out (Iz n)) (Oi n) n (fa Tryz.f34) 0:=⟨trivial,⟨⟨trivial,⟨TN n,⟨⟨trivial,⟨trivial,trivial⟩⟩,⟨⟨trivial,⟨⟨trivial,trivial⟩,trivial⟩⟩,trivial⟩⟩⟩⟩,⟨trivial,trivial⟩⟩⟩
theorem YT (n:Nat):Enters Tryz.prog 34:=enters_of (c:=fa Tryz.f34) Tryz.func34 (by kernel_rfl) (by kernel_rfl)
def JH (n:Nat):Entry:=⟨34,pcT K6 (.one (.int .i64)) (fun xs=>Bd n xs.1 xs.2.1),none,none⟩
theorem qX (n:Nat):EntryOk Tryz.prog gl (JH n):=za (YT n) fun xs y h=>na tys_ok (YM n) mixed (hint:=Oi n) (n:=n) Tryz.func34 (Aa (UQ n)) (la (φ:=(fun y=>some (Out.ret (qb (.one (.int .i64)) y)))) (by kernel_rfl) (Y0 n xs.1 xs.2.1 _) h)
def Ni (n:Nat):List Entry:=JH n::Iz n
theorem Fw (n:Nat):AllOk Tryz.prog gl (Ni n):=.cons (qX n) (YM n)
def Ej (n:Nat) {R:Type} (s1:BA) (i:Int) (kn:BA→Int→Option R) (ko:(BA)→Option R) (kr:(Bool)→Option R) (kp:Int→Option R):Option R:=if (decide (i<(s1.size:Int)))=true then if 0≤i∧i<(s1.size:Int) then if ((bt s1 i)==(13:Int))=false then if 0≤i∧i<(s1.size:Int) then if ((bt s1 i)==(10:Int))=true then kr false else kn s1 (IntKind.wrap .i64 (i+(1:Int))) else none else kr false else none else ko s1
def gd (n:Nat):Nat→BA→Int→Option (Lx (BA) (Bool))
 | 0,_,_=>none
 | m+1,s1,i=>Ej n s1 i (gd n m) (fun a=>some (.out a)) (fun a=>some (.ret a)) (fun p=>some (.pan p))
theorem AX (n m:Nat) {S:Type}:∀ s1 i (φ:_→Option S),(gd n (m+1) s1 i).bind φ=Ej n s1 i (fun s1 i=>(gd n m s1 i).bind φ) (fun a=>φ (.out a)) (fun a=>φ (.ret a)) (fun p=>φ (.pan p)):=by
  intros;first | (simp only [gd,Ej,ja,aa,iB,bB,oL,oX,nB,Option.bind_some]) | rfl
def Tr:List Sl:=.dat .str::.top::.top::.dat (.int .i64)::tp 19 []
def Sr:List RS:=[]
def dI:List Sl:=.dat .str::tp 22 []
def cI:List RS:=[]
def fI:List Sl:=.top::.top::.dat .bool::tp 20 []
def eI:List RS:=[]
def af (K:XE→List AV→oa→Option Out):Lx (BA) (Bool)→Option Out:=fun x=>onL x (fun a=>tc dI cI (a,()) () (K (.exit 0))) (fun a=>tc fI eI (a,()) () (K .ret)) (fun _=>none)
def pB (n:Nat) {R:Type} (s:BA) (k:Bool→Option R):Option R:=(gd n n s (0:Int)).bind fun x_1=>onL x_1 (fun a_2=>k (decide ((a_2.size:Int)≤(509:Int)))) (fun a_3=>k a_3) (fun _=>none)
def Um (n:Nat) (s:BA):Option Bool:=pB n s some
theorem wbb (n:Nat) {S:Type}:∀ s (φ:_→Option S),(Um n s).bind φ=pB n s φ:=by
  intros;unfold Um pB;first | (simp only [ja,aa,iB,bB,oL,oX,nB,Option.bind_some]) | rfl
def Wm (n:Nat):Hint Out:={ live:=fun c=>(cond (Nat.beq c 0) [(0,none),(3,none)] []),run:=fun c=>(cond (Nat.beq c 0) (some (Zg Tr Sr fun σ ρ K=>(gd n n σ.1 σ.2.1).bind (af K))) none),xm:=fun c q=>(cond (Nat.beq c 0&&Nat.beq (q.getD 1000000) 0&&q.isSome) (some [(0,none)]) (cond (Nat.beq c 1&&q.isNone) (some [(2,none)]) none)) }
def Vm (n:Nat) (K:XE→List AV→oa→Option Out) (m:Nat) (s1:BA) (i:Int):Option Out:=Nc tys (ia Out (Ni n)) (Wm n) n (wa [1,0,1,0,0] (fa Tryz.f35)) 0 Tr Sr K m (s1,(i,())) ()
theorem bI (n:Nat) (K:XE→List AV→oa→Option Out):∀ (m:Nat) s1 i,Vm n K m s1 i=(gd n m s1 i).bind (af K)
  | 0,_,_=>by kernel_rfl
  | m+1,s1,i=>by
    have h1:Vm n K (m+1) s1 i=Ej n s1 i (Vm n K m) (fun a=>af K (.out a)) (fun a=>af K (.ret a)) (fun p=>af K (.pan p)):=by kernel_rfl
    have h2:Vm n K m=fun s1 i=>(gd n m s1 i).bind (af K):=by
      repeat (refine funext fun _=>?_)
      exact bI n K m _ _
    rw [h1,h2];exact (AX n m _ _ (af K)).symm
theorem dU (n:Nat):Bc tys (ia Out (Ni n)) (Wm n) n (wa [1,0,1,0,0] (fa Tryz.f35)) 0:=Ea (sp:=Tr) (rp:=Sr) (by kernel_rfl) fun K σ ρ=>bI n K n σ.1 σ.2.1
theorem BX (n:Nat):qa tys (ia Out (Ni n)) (Wm n) n (fa Tryz.f35) 0:=⟨trivial,⟨⟨trivial,⟨dU n,⟨⟨trivial,⟨trivial,trivial⟩⟩,⟨⟨trivial,⟨⟨trivial,trivial⟩,trivial⟩⟩,trivial⟩⟩⟩⟩,⟨trivial,trivial⟩⟩⟩
theorem F1 (n:Nat):Enters Tryz.prog 35:=enters_of (c:=fa Tryz.f35) Tryz.func35 (by kernel_rfl) (by kernel_rfl)
def bR (n:Nat):Entry:=⟨35,pcT (.pair .str .unit) (.one .bool) (fun xs=>Um n xs.1),none,none⟩
theorem Q6 (n:Nat):EntryOk Tryz.prog gl (bR n):=za (F1 n) fun xs y h=>na tys_ok (Fw n) mixed (hint:=Wm n) (n:=n) Tryz.func35 (Aa (BX n)) (la (φ:=(fun y=>some (Out.ret (qb (.one .bool) y)))) (by kernel_rfl) (wbb n xs.1 _) h)
def Eb (n:Nat):List Entry:=bR n::Ni n
theorem gD (n:Nat):AllOk Tryz.prog gl (Eb n):=.cons (Q6 n) (Fw n)
def vk (n:Nat) {R:Type} (c1 c2 c3:Int) (c4:BA) (c5:Bool) (c6:Int) (c7:BA) (c8:Bool) (c9 c10:BA) (c11:(Sq U0)) (c12:(Sq BA)) (c13:Int) (c14:Bool) (ko:U1→Option R) (kr:(Bool)→Option R) (kp:Int→Option R):Option R:=if (decide (c1<(1:Int)))=false then if (decide (c1>(1099511627776:Int)))=false then (NH n c2 (3:Int)).bind fun v=>if (!v)=false then (NH n c3 (1099511627776:Int)).bind fun v1=>if (!v1)=false then (Lt n (c4,(c5,()))).bind fun v2=>if (!v2)=false then if (decide (c6<(0:Int)))=false then if (decide (c6>(5:Int)))=false then if (decide ((c11.n:Int)>(8:Int)))=true then kr false else ko (c1,c2,c3,c4,c5,c6,c7,c8,c9,c10,c11,c12,c13,c14) else kr false else kr false else kr false else kr false else kr false else kr false else kr false
def ri (n:Nat) (c1 c2 c3:Int) (c4:BA) (c5:Bool) (c6:Int) (c7:BA) (c8:Bool) (c9 c10:BA) (c11:(Sq U0)) (c12:(Sq BA)) (c13:Int) (c14:Bool):Option (Lx U1 (Bool)):=vk n c1 c2 c3 c4 c5 c6 c7 c8 c9 c10 c11 c12 c13 c14 (fun a=>some (.out a)) (fun a=>some (.ret a)) (fun p=>some (.pan p))
theorem UN (n:Nat) {S:Type}:∀ c1 c2 c3 c4 c5 c6 c7 c8 c9 c10 c11 c12 c13 c14 (φ:_→Option S),(ri n c1 c2 c3 c4 c5 c6 c7 c8 c9 c10 c11 c12 c13 c14).bind φ=vk n c1 c2 c3 c4 c5 c6 c7 c8 c9 c10 c11 c12 c13 c14 (fun a=>φ (.out a)) (fun a=>φ (.ret a)) (fun p=>φ (.pan p)):=by
  intros;first | (simp only [ri,vk,ja,aa,iB,bB,oL,oX,nB,Option.bind_some]) | rfl
def lz:List Sl:=.top::.ptr 0 0 0::tp 197 []
def kz:List RS:=[.box 29 14 true [.dat (.int .i64),.dat (.int .i64),.dat (.int .i64),.dat .str,.dat .bool,.dat (.int .i64),.dat .str,.dat .bool,.dat .str,.dat .str,.dat (.sl (.pair .str (.pair .str .unit))),.dat (.sl .str),.dat (.int .i64),.dat .bool]]
def BE:List Sl:=.top::.ptr 0 0 0::tp 197 []
def AE:List RS:=[.box 29 14 true [.dat (.int .i64),.dat (.int .i64),.dat (.int .i64),.dat .str,.dat .bool,.dat (.int .i64),.dat .str,.dat .bool,.dat .str,.dat .str,.dat (.sl (.pair .str (.pair .str .unit))),.dat (.sl .str),.dat (.int .i64),.dat .bool]]
def EE:List Sl:=.top::.top::.dat .bool::tp 196 []
def DE:List RS:=[]
def jD (K:XE→List AV→oa→Option Out):Lx U1 (Bool)→Option Out:=fun x=>onL x (fun a=>tc BE AE () ((a.1,(a.2.1,(a.2.2.1,(a.2.2.2.1,(a.2.2.2.2.1,(a.2.2.2.2.2.1,(a.2.2.2.2.2.2.1,(a.2.2.2.2.2.2.2.1,(a.2.2.2.2.2.2.2.2.1,(a.2.2.2.2.2.2.2.2.2.1,(a.2.2.2.2.2.2.2.2.2.2.1,(a.2.2.2.2.2.2.2.2.2.2.2.1,(a.2.2.2.2.2.2.2.2.2.2.2.2.1,(a.2.2.2.2.2.2.2.2.2.2.2.2.2,())))))))))))))),()) (K .normal)) (fun a=>tc EE DE (a,()) () (K .ret)) (fun _=>none)
def wk (n:Nat) {R:Type} (hello:Bool) (c29 c30 c31:Int) (c32:BA) (c33:Bool) (c34:Int) (c35:BA) (c36:Bool) (c37 c38:BA) (c39:(Sq U0)) (c40:(Sq BA)) (c41:Int) (c42:Bool) (ko:U1→Option R) (kr:(Bool)→Option R) (kp:Int→Option R):Option R:=if (c34==(0:Int))=true then if (!(c35.toList==(⟨#[]⟩:BA).toList))=true then kr false else ko (c29,c30,c31,c32,c33,c34,c35,c36,c37,c38,c39,c40,c41,c42) else if (c34==(5:Int))=true then if (!(c35.toList==(⟨#[]⟩:BA).toList))=true then if (!hello)=true then kr false else ko (c29,c30,c31,c32,c33,c34,c35,c36,c37,c38,c39,c40,c41,c42) else ko (c29,c30,c31,c32,c33,c34,c35,c36,c37,c38,c39,c40,c41,c42) else if (!hello)=true then kr false else ko (c29,c30,c31,c32,c33,c34,c35,c36,c37,c38,c39,c40,c41,c42)
def Ce (n:Nat) (hello:Bool) (c29 c30 c31:Int) (c32:BA) (c33:Bool) (c34:Int) (c35:BA) (c36:Bool) (c37 c38:BA) (c39:(Sq U0)) (c40:(Sq BA)) (c41:Int) (c42:Bool):Option (Lx U1 (Bool)):=wk n hello c29 c30 c31 c32 c33 c34 c35 c36 c37 c38 c39 c40 c41 c42 (fun a=>some (.out a)) (fun a=>some (.ret a)) (fun p=>some (.pan p))
theorem VN (n:Nat) {S:Type}:∀ hello c29 c30 c31 c32 c33 c34 c35 c36 c37 c38 c39 c40 c41 c42 (φ:_→Option S),(Ce n hello c29 c30 c31 c32 c33 c34 c35 c36 c37 c38 c39 c40 c41 c42).bind φ=wk n hello c29 c30 c31 c32 c33 c34 c35 c36 c37 c38 c39 c40 c41 c42 (fun a=>φ (.out a)) (fun a=>φ (.ret a)) (fun p=>φ (.pan p)):=by
  intros;first | (simp only [Ce,wk,ja,aa,iB,bB,oL,oX,nB,Option.bind_some]) | rfl
def nz:List Sl:=.top::.ptr 0 0 0::.top::.dat .bool::tp 195 []
def mz:List RS:=[.box 29 14 true [.dat (.int .i64),.dat (.int .i64),.dat (.int .i64),.dat .str,.dat .bool,.dat (.int .i64),.dat .str,.dat .bool,.dat .str,.dat .str,.dat (.sl (.pair .str (.pair .str .unit))),.dat (.sl .str),.dat (.int .i64),.dat .bool]]
def GE:List Sl:=.top::.ptr 0 0 0::tp 197 []
def FE:List RS:=[.box 29 14 true [.dat (.int .i64),.dat (.int .i64),.dat (.int .i64),.dat .str,.dat .bool,.dat (.int .i64),.dat .str,.dat .bool,.dat .str,.dat .str,.dat (.sl (.pair .str (.pair .str .unit))),.dat (.sl .str),.dat (.int .i64),.dat .bool]]
def IE:List Sl:=.top::.top::.dat .bool::tp 196 []
def HE:List RS:=[]
def kD (K:XE→List AV→oa→Option Out):Lx U1 (Bool)→Option Out:=fun x=>onL x (fun a=>tc GE FE () ((a.1,(a.2.1,(a.2.2.1,(a.2.2.2.1,(a.2.2.2.2.1,(a.2.2.2.2.2.1,(a.2.2.2.2.2.2.1,(a.2.2.2.2.2.2.2.1,(a.2.2.2.2.2.2.2.2.1,(a.2.2.2.2.2.2.2.2.2.1,(a.2.2.2.2.2.2.2.2.2.2.1,(a.2.2.2.2.2.2.2.2.2.2.2.1,(a.2.2.2.2.2.2.2.2.2.2.2.2.1,(a.2.2.2.2.2.2.2.2.2.2.2.2.2,())))))))))))))),()) (K .normal)) (fun a=>tc IE HE (a,()) () (K .ret)) (fun _=>none)
def yk (n:Nat) {R:Type} (c71 c72 c73:Int) (c74:BA) (c75:Bool) (c76:Int) (c77:BA) (c78:Bool) (c79 c80:BA) (c81:(Sq U0)) (c82:(Sq BA)) (c83:Int) (c84:Bool) (ko:U1→Option R) (kr:(Bool)→Option R) (kp:Int→Option R):Option R:=if c78=true then if (!((c79.toList==(⟨#[]⟩:BA).toList)&&((c80.toList==(⟨#[]⟩:BA).toList)&&true)))=false then if (!c78)=true then (ne n (c79,(c80,()))).bind fun v5=>if (!v5)=true then kr false else ko (c71,c72,c73,c74,c75,c76,c77,c78,c79,c80,c81,c82,c83,c84) else ko (c71,c72,c73,c74,c75,c76,c77,c78,c79,c80,c81,c82,c83,c84) else kr false else if (!c78)=true then (ne n (c79,(c80,()))).bind fun v6=>if (!v6)=true then kr false else ko (c71,c72,c73,c74,c75,c76,c77,c78,c79,c80,c81,c82,c83,c84) else ko (c71,c72,c73,c74,c75,c76,c77,c78,c79,c80,c81,c82,c83,c84)
def si (n:Nat) (c71 c72 c73:Int) (c74:BA) (c75:Bool) (c76:Int) (c77:BA) (c78:Bool) (c79 c80:BA) (c81:(Sq U0)) (c82:(Sq BA)) (c83:Int) (c84:Bool):Option (Lx U1 (Bool)):=yk n c71 c72 c73 c74 c75 c76 c77 c78 c79 c80 c81 c82 c83 c84 (fun a=>some (.out a)) (fun a=>some (.ret a)) (fun p=>some (.pan p))
theorem XN (n:Nat) {S:Type}:∀ c71 c72 c73 c74 c75 c76 c77 c78 c79 c80 c81 c82 c83 c84 (φ:_→Option S),(si n c71 c72 c73 c74 c75 c76 c77 c78 c79 c80 c81 c82 c83 c84).bind φ=yk n c71 c72 c73 c74 c75 c76 c77 c78 c79 c80 c81 c82 c83 c84 (fun a=>φ (.out a)) (fun a=>φ (.ret a)) (fun p=>φ (.pan p)):=by
  intros;first | (simp only [si,yk,ja,aa,iB,bB,oL,oX,nB,Option.bind_some]) | rfl
def rz:List Sl:=.top::.ptr 0 0 0::tp 197 []
def qz:List RS:=[.box 29 14 true [.dat (.int .i64),.dat (.int .i64),.dat (.int .i64),.dat .str,.dat .bool,.dat (.int .i64),.dat .str,.dat .bool,.dat .str,.dat .str,.dat (.sl (.pair .str (.pair .str .unit))),.dat (.sl .str),.dat (.int .i64),.dat .bool]]
def OE:List Sl:=.top::.ptr 0 0 0::tp 197 []
def NE:List RS:=[.box 29 14 true [.dat (.int .i64),.dat (.int .i64),.dat (.int .i64),.dat .str,.dat .bool,.dat (.int .i64),.dat .str,.dat .bool,.dat .str,.dat .str,.dat (.sl (.pair .str (.pair .str .unit))),.dat (.sl .str),.dat (.int .i64),.dat .bool]]
def QE:List Sl:=.top::.top::.dat .bool::tp 196 []
def PE:List RS:=[]
def mD (K:XE→List AV→oa→Option Out):Lx U1 (Bool)→Option Out:=fun x=>onL x (fun a=>tc OE NE () ((a.1,(a.2.1,(a.2.2.1,(a.2.2.2.1,(a.2.2.2.2.1,(a.2.2.2.2.2.1,(a.2.2.2.2.2.2.1,(a.2.2.2.2.2.2.2.1,(a.2.2.2.2.2.2.2.2.1,(a.2.2.2.2.2.2.2.2.2.1,(a.2.2.2.2.2.2.2.2.2.2.1,(a.2.2.2.2.2.2.2.2.2.2.2.1,(a.2.2.2.2.2.2.2.2.2.2.2.2.1,(a.2.2.2.2.2.2.2.2.2.2.2.2.2,())))))))))))))),()) (K .normal)) (fun a=>tc QE PE (a,()) () (K .ret)) (fun _=>none)
def xk (n:Nat) {R:Type} (c57 c58 c59:Int) (c60:BA) (c61:Bool) (c62:Int) (c63:BA) (c64:Bool) (c65 c66:BA) (c67:(Sq U0)) (c68:(Sq BA)) (c69:Int) (c70:Bool) (ko:U1→Option R) (kr:(Bool)→Option R) (kp:Int→Option R):Option R:=(rB n c62).bind fun v4=>if v4=true then (si n c57 c58 c59 c60 c61 c62 c63 c64 c65 c66 c67 c68 c69 c70).bind fun x_1=>onL x_1 (fun a_2=>if (!(((a_2.2.2.2.2.2.2.2.2.2.2.1.n:Int)==(0:Int))==(a_2.2.2.2.2.2.1==(2:Int))))=true then kr false else ko (a_2.1,a_2.2.1,a_2.2.2.1,a_2.2.2.2.1,a_2.2.2.2.2.1,a_2.2.2.2.2.2.1,a_2.2.2.2.2.2.2.1,a_2.2.2.2.2.2.2.2.1,a_2.2.2.2.2.2.2.2.2.1,a_2.2.2.2.2.2.2.2.2.2.1,a_2.2.2.2.2.2.2.2.2.2.2.1,a_2.2.2.2.2.2.2.2.2.2.2.2.1,a_2.2.2.2.2.2.2.2.2.2.2.2.2.1,a_2.2.2.2.2.2.2.2.2.2.2.2.2.2)) (fun a_3=>kr a_3) (fun _=>none) else if c64=false then if (!((c65.toList==(⟨#[]⟩:BA).toList)&&((c66.toList==(⟨#[]⟩:BA).toList)&&true)))=false then if (decide ((c67.n:Int)>(0:Int)))=true then kr false else ko (c57,c58,c59,c60,c61,c62,c63,c64,c65,c66,c67,c68,c69,c70) else kr false else kr false
def De (n:Nat) (c57 c58 c59:Int) (c60:BA) (c61:Bool) (c62:Int) (c63:BA) (c64:Bool) (c65 c66:BA) (c67:(Sq U0)) (c68:(Sq BA)) (c69:Int) (c70:Bool):Option (Lx U1 (Bool)):=xk n c57 c58 c59 c60 c61 c62 c63 c64 c65 c66 c67 c68 c69 c70 (fun a=>some (.out a)) (fun a=>some (.ret a)) (fun p=>some (.pan p))
theorem WN (n:Nat) {S:Type}:∀ c57 c58 c59 c60 c61 c62 c63 c64 c65 c66 c67 c68 c69 c70 (φ:_→Option S),(De n c57 c58 c59 c60 c61 c62 c63 c64 c65 c66 c67 c68 c69 c70).bind φ=xk n c57 c58 c59 c60 c61 c62 c63 c64 c65 c66 c67 c68 c69 c70 (fun a=>φ (.out a)) (fun a=>φ (.ret a)) (fun p=>φ (.pan p)):=by
  intros;first | (simp only [De,xk,ja,aa,iB,bB,oL,oX,nB,Option.bind_some]) | rfl
def pz:List Sl:=.top::.ptr 0 0 0::tp 197 []
def oz:List RS:=[.box 29 14 true [.dat (.int .i64),.dat (.int .i64),.dat (.int .i64),.dat .str,.dat .bool,.dat (.int .i64),.dat .str,.dat .bool,.dat .str,.dat .str,.dat (.sl (.pair .str (.pair .str .unit))),.dat (.sl .str),.dat (.int .i64),.dat .bool]]
def KE:List Sl:=.top::.ptr 0 0 0::tp 197 []
def JE:List RS:=[.box 29 14 true [.dat (.int .i64),.dat (.int .i64),.dat (.int .i64),.dat .str,.dat .bool,.dat (.int .i64),.dat .str,.dat .bool,.dat .str,.dat .str,.dat (.sl (.pair .str (.pair .str .unit))),.dat (.sl .str),.dat (.int .i64),.dat .bool]]
def ME:List Sl:=.top::.top::.dat .bool::tp 196 []
def LE:List RS:=[]
def lD (K:XE→List AV→oa→Option Out):Lx U1 (Bool)→Option Out:=fun x=>onL x (fun a=>tc KE JE () ((a.1,(a.2.1,(a.2.2.1,(a.2.2.2.1,(a.2.2.2.2.1,(a.2.2.2.2.2.1,(a.2.2.2.2.2.2.1,(a.2.2.2.2.2.2.2.1,(a.2.2.2.2.2.2.2.2.1,(a.2.2.2.2.2.2.2.2.2.1,(a.2.2.2.2.2.2.2.2.2.2.1,(a.2.2.2.2.2.2.2.2.2.2.2.1,(a.2.2.2.2.2.2.2.2.2.2.2.2.1,(a.2.2.2.2.2.2.2.2.2.2.2.2.2,())))))))))))))),()) (K .normal)) (fun a=>tc ME LE (a,()) () (K .ret)) (fun _=>none)
def zk (n:Nat) {R:Type} (i1 c127 c128 c129:Int) (c130:BA) (c131:Bool) (c132:Int) (c133:BA) (c134:Bool) (c135 c136:BA) (c137:(Sq U0)) (c138:(Sq BA)) (c139:Int) (c140:Bool) (ko:U5→Option R) (kr:(Bool)→Option R) (kp:Int→Option R):Option R:=if 0≤i1∧i1<(c137.n:Int) then (ne n (((c137.at' (Int.toNat i1))).1,((((c137.at' (Int.toNat i1))).2).1,()))).bind fun v7=>if (!v7)=false then if 0≤i1∧i1≤(c137.n:Int) then if 0≤i1∧i1<(c137.n:Int) then (Bd n (⟨((Int.toNat i1) - (Int.toNat (0:Int))),fun i=>c137.at' ((Int.toNat (0:Int))+i)⟩:Sq U0) (((c137.at' (Int.toNat i1))).1,((((c137.at' (Int.toNat i1))).2).1,()))).bind fun v8=>if (decide (v8≥(0:Int)))=true then kr false else ko (i1,c127,c128,c129,c130,c131,c132,c133,c134,c135,c136,c137,c138,c139,c140) else none else none else kr false else none
def ti (n:Nat) (i1 c127 c128 c129:Int) (c130:BA) (c131:Bool) (c132:Int) (c133:BA) (c134:Bool) (c135 c136:BA) (c137:(Sq U0)) (c138:(Sq BA)) (c139:Int) (c140:Bool):Option (Lx U5 (Bool)):=zk n i1 c127 c128 c129 c130 c131 c132 c133 c134 c135 c136 c137 c138 c139 c140 (fun a=>some (.out a)) (fun a=>some (.ret a)) (fun p=>some (.pan p))
theorem YN (n:Nat) {S:Type}:∀ i1 c127 c128 c129 c130 c131 c132 c133 c134 c135 c136 c137 c138 c139 c140 (φ:_→Option S),(ti n i1 c127 c128 c129 c130 c131 c132 c133 c134 c135 c136 c137 c138 c139 c140).bind φ=zk n i1 c127 c128 c129 c130 c131 c132 c133 c134 c135 c136 c137 c138 c139 c140 (fun a=>φ (.out a)) (fun a=>φ (.ret a)) (fun p=>φ (.pan p)):=by
  intros;first | (simp only [ti,zk,ja,aa,iB,bB,oL,oX,nB,Option.bind_some]) | rfl
def uz:List Sl:=.top::.ptr 0 0 0::.top::.top::.dat (.int .i64)::tp 194 []
def tz:List RS:=[.box 29 14 true [.dat (.int .i64),.dat (.int .i64),.dat (.int .i64),.dat .str,.dat .bool,.dat (.int .i64),.dat .str,.dat .bool,.dat .str,.dat .str,.dat (.sl (.pair .str (.pair .str .unit))),.dat (.sl .str),.dat (.int .i64),.dat .bool]]
def SE:List Sl:=.top::.ptr 0 0 0::.top::.top::.dat (.int .i64)::tp 194 []
def RE:List RS:=[.box 29 14 true [.dat (.int .i64),.dat (.int .i64),.dat (.int .i64),.dat .str,.dat .bool,.dat (.int .i64),.dat .str,.dat .bool,.dat .str,.dat .str,.dat (.sl (.pair .str (.pair .str .unit))),.dat (.sl .str),.dat (.int .i64),.dat .bool]]
def UE:List Sl:=.top::.top::.dat .bool::tp 196 []
def TE:List RS:=[]
def nD (K:XE→List AV→oa→Option Out):Lx U5 (Bool)→Option Out:=fun x=>onL x (fun a=>tc SE RE (a.1,()) ((a.2.1,(a.2.2.1,(a.2.2.2.1,(a.2.2.2.2.1,(a.2.2.2.2.2.1,(a.2.2.2.2.2.2.1,(a.2.2.2.2.2.2.2.1,(a.2.2.2.2.2.2.2.2.1,(a.2.2.2.2.2.2.2.2.2.1,(a.2.2.2.2.2.2.2.2.2.2.1,(a.2.2.2.2.2.2.2.2.2.2.2.1,(a.2.2.2.2.2.2.2.2.2.2.2.2.1,(a.2.2.2.2.2.2.2.2.2.2.2.2.2.1,(a.2.2.2.2.2.2.2.2.2.2.2.2.2.2,())))))))))))))),()) (K .normal)) (fun a=>tc UE TE (a,()) () (K .ret)) (fun _=>none)
def pi (n:Nat) {R:Type} (i c113 c114 c115:Int) (c116:BA) (c117:Bool) (c118:Int) (c119:BA) (c120:Bool) (c121 c122:BA) (c123:(Sq U0)) (c124:(Sq BA)) (c125:Int) (c126:Bool) (kn:Int→Int→Int→Int→BA→Bool→Int→BA→Bool→BA→BA→(Sq U0)→(Sq BA)→Int→Bool→Option R) (ko:U1→Option R) (kr:(Bool)→Option R) (kp:Int→Option R):Option R:=if (decide (i<(c123.n:Int)))=true then (ti n i c113 c114 c115 c116 c117 c118 c119 c120 c121 c122 c123 c124 c125 c126).bind fun x_1=>onL x_1 (fun a_2=>kn (IntKind.wrap .i64 (a_2.1+(1:Int))) a_2.2.1 a_2.2.2.1 a_2.2.2.2.1 a_2.2.2.2.2.1 a_2.2.2.2.2.2.1 a_2.2.2.2.2.2.2.1 a_2.2.2.2.2.2.2.2.1 a_2.2.2.2.2.2.2.2.2.1 a_2.2.2.2.2.2.2.2.2.2.1 a_2.2.2.2.2.2.2.2.2.2.2.1 a_2.2.2.2.2.2.2.2.2.2.2.2.1 a_2.2.2.2.2.2.2.2.2.2.2.2.2.1 a_2.2.2.2.2.2.2.2.2.2.2.2.2.2.1 a_2.2.2.2.2.2.2.2.2.2.2.2.2.2.2) (fun a_3=>kr a_3) (fun _=>none) else ko (c113,c114,c115,c116,c117,c118,c119,c120,c121,c122,c123,c124,c125,c126)
def Jb (n:Nat):Nat→Int→Int→Int→Int→BA→Bool→Int→BA→Bool→BA→BA→(Sq U0)→(Sq BA)→Int→Bool→Option (Lx U1 (Bool))
 | 0,_,_,_,_,_,_,_,_,_,_,_,_,_,_,_=>none
 | m+1,i,c113,c114,c115,c116,c117,c118,c119,c120,c121,c122,c123,c124,c125,c126=>pi n i c113 c114 c115 c116 c117 c118 c119 c120 c121 c122 c123 c124 c125 c126 (Jb n m) (fun a=>some (.out a)) (fun a=>some (.ret a)) (fun p=>some (.pan p))
theorem gU (n m:Nat) {S:Type}:∀ i c113 c114 c115 c116 c117 c118 c119 c120 c121 c122 c123 c124 c125 c126 (φ:_→Option S),(Jb n (m+1) i c113 c114 c115 c116 c117 c118 c119 c120 c121 c122 c123 c124 c125 c126).bind φ=pi n i c113 c114 c115 c116 c117 c118 c119 c120 c121 c122 c123 c124 c125 c126 (fun i c113 c114 c115 c116 c117 c118 c119 c120 c121 c122 c123 c124 c125 c126=>(Jb n m i c113 c114 c115 c116 c117 c118 c119 c120 c121 c122 c123 c124 c125 c126).bind φ) (fun a=>φ (.out a)) (fun a=>φ (.ret a)) (fun p=>φ (.pan p)):=by
  intros;first | (simp only [Jb,pi,ja,aa,iB,bB,oL,oX,nB,Option.bind_some]) | rfl
def Ho:List Sl:=.top::.ptr 0 0 0::.top::.top::.dat (.int .i64)::tp 194 []
def Fo:List RS:=[.box 29 14 true [.dat (.int .i64),.dat (.int .i64),.dat (.int .i64),.dat .str,.dat .bool,.dat (.int .i64),.dat .str,.dat .bool,.dat .str,.dat .str,.dat (.sl (.pair .str (.pair .str .unit))),.dat (.sl .str),.dat (.int .i64),.dat .bool]]
def kF:List Sl:=.top::.ptr 0 0 0::tp 197 []
def jF:List RS:=[.box 29 14 true [.dat (.int .i64),.dat (.int .i64),.dat (.int .i64),.dat .str,.dat .bool,.dat (.int .i64),.dat .str,.dat .bool,.dat .str,.dat .str,.dat (.sl (.pair .str (.pair .str .unit))),.dat (.sl .str),.dat (.int .i64),.dat .bool]]
def mF:List Sl:=.top::.top::.dat .bool::tp 196 []
def lF:List RS:=[]
def Ud (K:XE→List AV→oa→Option Out):Lx U1 (Bool)→Option Out:=fun x=>onL x (fun a=>tc kF jF () ((a.1,(a.2.1,(a.2.2.1,(a.2.2.2.1,(a.2.2.2.2.1,(a.2.2.2.2.2.1,(a.2.2.2.2.2.2.1,(a.2.2.2.2.2.2.2.1,(a.2.2.2.2.2.2.2.2.1,(a.2.2.2.2.2.2.2.2.2.1,(a.2.2.2.2.2.2.2.2.2.2.1,(a.2.2.2.2.2.2.2.2.2.2.2.1,(a.2.2.2.2.2.2.2.2.2.2.2.2.1,(a.2.2.2.2.2.2.2.2.2.2.2.2.2,())))))))))))))),()) (K (.exit 1))) (fun a=>tc mF lF (a,()) () (K .ret)) (fun _=>none)
def Ak (n:Nat) {R:Type} (c169 c170 c171:Int) (c172:BA) (c173:Bool) (c174:Int) (c175:BA) (c176:Bool) (c177 c178:BA) (c179:(Sq U0)) (c180:(Sq BA)) (c181:Int) (c182:Bool) (ko:U1→Option R) (kr:(Bool)→Option R) (kp:Int→Option R):Option R:=if (c174 !=(4:Int))=true then if (decide ((c180.n:Int)>(0:Int)))=false then if c182=false then if c182=true then if (decide ((c180.n:Int)>(0:Int)))=true then kr false else ko (c169,c170,c171,c172,c173,c174,c175,c176,c177,c178,c179,c180,c181,c182) else ko (c169,c170,c171,c172,c173,c174,c175,c176,c177,c178,c179,c180,c181,c182) else kr false else kr false else if c182=true then if (decide ((c180.n:Int)>(0:Int)))=true then kr false else ko (c169,c170,c171,c172,c173,c174,c175,c176,c177,c178,c179,c180,c181,c182) else ko (c169,c170,c171,c172,c173,c174,c175,c176,c177,c178,c179,c180,c181,c182)
def Ee (n:Nat) (c169 c170 c171:Int) (c172:BA) (c173:Bool) (c174:Int) (c175:BA) (c176:Bool) (c177 c178:BA) (c179:(Sq U0)) (c180:(Sq BA)) (c181:Int) (c182:Bool):Option (Lx U1 (Bool)):=Ak n c169 c170 c171 c172 c173 c174 c175 c176 c177 c178 c179 c180 c181 c182 (fun a=>some (.out a)) (fun a=>some (.ret a)) (fun p=>some (.pan p))
theorem ZN (n:Nat) {S:Type}:∀ c169 c170 c171 c172 c173 c174 c175 c176 c177 c178 c179 c180 c181 c182 (φ:_→Option S),(Ee n c169 c170 c171 c172 c173 c174 c175 c176 c177 c178 c179 c180 c181 c182).bind φ=Ak n c169 c170 c171 c172 c173 c174 c175 c176 c177 c178 c179 c180 c181 c182 (fun a=>φ (.out a)) (fun a=>φ (.ret a)) (fun p=>φ (.pan p)):=by
  intros;first | (simp only [Ee,Ak,ja,aa,iB,bB,oL,oX,nB,Option.bind_some]) | rfl
def wz:List Sl:=.top::.ptr 0 0 0::tp 197 []
def vz:List RS:=[.box 29 14 true [.dat (.int .i64),.dat (.int .i64),.dat (.int .i64),.dat .str,.dat .bool,.dat (.int .i64),.dat .str,.dat .bool,.dat .str,.dat .str,.dat (.sl (.pair .str (.pair .str .unit))),.dat (.sl .str),.dat (.int .i64),.dat .bool]]
def WE:List Sl:=.top::.ptr 0 0 0::tp 197 []
def VE:List RS:=[.box 29 14 true [.dat (.int .i64),.dat (.int .i64),.dat (.int .i64),.dat .str,.dat .bool,.dat (.int .i64),.dat .str,.dat .bool,.dat .str,.dat .str,.dat (.sl (.pair .str (.pair .str .unit))),.dat (.sl .str),.dat (.int .i64),.dat .bool]]
def ZE:List Sl:=.top::.top::.dat .bool::tp 196 []
def YE:List RS:=[]
def oD (K:XE→List AV→oa→Option Out):Lx U1 (Bool)→Option Out:=fun x=>onL x (fun a=>tc WE VE () ((a.1,(a.2.1,(a.2.2.1,(a.2.2.2.1,(a.2.2.2.2.1,(a.2.2.2.2.2.1,(a.2.2.2.2.2.2.1,(a.2.2.2.2.2.2.2.1,(a.2.2.2.2.2.2.2.2.1,(a.2.2.2.2.2.2.2.2.2.1,(a.2.2.2.2.2.2.2.2.2.2.1,(a.2.2.2.2.2.2.2.2.2.2.2.1,(a.2.2.2.2.2.2.2.2.2.2.2.2.1,(a.2.2.2.2.2.2.2.2.2.2.2.2.2,())))))))))))))),()) (K .normal)) (fun a=>tc ZE YE (a,()) () (K .ret)) (fun _=>none)
def Ck (n:Nat) {R:Type} (n02 i5 c225 c226 c227:Int) (c228:BA) (c229:Bool) (c230:Int) (c231:BA) (c232:Bool) (c233 c234:BA) (c235:(Sq U0)) (c236:(Sq BA)) (c237:Int) (c238:Bool) (ko:U4→Option R) (kr:(Bool)→Option R) (kp:Int→Option R):Option R:=if 0≤i5∧i5<(c236.n:Int) then (Um n (c236.at' (Int.toNat i5))).bind fun v9=>if (!v9)=true then kr false else ko (n02,i5,c225,c226,c227,c228,c229,c230,c231,c232,c233,c234,c235,c236,c237,c238) else none
def vi (n:Nat) (n02 i5 c225 c226 c227:Int) (c228:BA) (c229:Bool) (c230:Int) (c231:BA) (c232:Bool) (c233 c234:BA) (c235:(Sq U0)) (c236:(Sq BA)) (c237:Int) (c238:Bool):Option (Lx U4 (Bool)):=Ck n n02 i5 c225 c226 c227 c228 c229 c230 c231 c232 c233 c234 c235 c236 c237 c238 (fun a=>some (.out a)) (fun a=>some (.ret a)) (fun p=>some (.pan p))
theorem bO (n:Nat) {S:Type}:∀ n02 i5 c225 c226 c227 c228 c229 c230 c231 c232 c233 c234 c235 c236 c237 c238 (φ:_→Option S),(vi n n02 i5 c225 c226 c227 c228 c229 c230 c231 c232 c233 c234 c235 c236 c237 c238).bind φ=Ck n n02 i5 c225 c226 c227 c228 c229 c230 c231 c232 c233 c234 c235 c236 c237 c238 (fun a=>φ (.out a)) (fun a=>φ (.ret a)) (fun p=>φ (.pan p)):=by
  intros;first | (simp only [vi,Ck,ja,aa,iB,bB,oL,oX,nB,Option.bind_some]) | rfl
def Az:List Sl:=.top::.ptr 0 0 0::.top::.top::.top::.dat (.int .i64)::.dat (.int .i64)::tp 192 []
def zz:List RS:=[.box 29 14 true [.dat (.int .i64),.dat (.int .i64),.dat (.int .i64),.dat .str,.dat .bool,.dat (.int .i64),.dat .str,.dat .bool,.dat .str,.dat .str,.dat (.sl (.pair .str (.pair .str .unit))),.dat (.sl .str),.dat (.int .i64),.dat .bool]]
def fF:List Sl:=.top::.ptr 0 0 0::.top::.top::.top::.dat (.int .i64)::.dat (.int .i64)::tp 192 []
def eF:List RS:=[.box 29 14 true [.dat (.int .i64),.dat (.int .i64),.dat (.int .i64),.dat .str,.dat .bool,.dat (.int .i64),.dat .str,.dat .bool,.dat .str,.dat .str,.dat (.sl (.pair .str (.pair .str .unit))),.dat (.sl .str),.dat (.int .i64),.dat .bool]]
def iF:List Sl:=.top::.top::.dat .bool::tp 196 []
def gF:List RS:=[]
def qD (K:XE→List AV→oa→Option Out):Lx U4 (Bool)→Option Out:=fun x=>onL x (fun a=>tc fF eF (a.1,(a.2.1,())) ((a.2.2.1,(a.2.2.2.1,(a.2.2.2.2.1,(a.2.2.2.2.2.1,(a.2.2.2.2.2.2.1,(a.2.2.2.2.2.2.2.1,(a.2.2.2.2.2.2.2.2.1,(a.2.2.2.2.2.2.2.2.2.1,(a.2.2.2.2.2.2.2.2.2.2.1,(a.2.2.2.2.2.2.2.2.2.2.2.1,(a.2.2.2.2.2.2.2.2.2.2.2.2.1,(a.2.2.2.2.2.2.2.2.2.2.2.2.2.1,(a.2.2.2.2.2.2.2.2.2.2.2.2.2.2.1,(a.2.2.2.2.2.2.2.2.2.2.2.2.2.2.2,())))))))))))))),()) (K .normal)) (fun a=>tc iF gF (a,()) () (K .ret)) (fun _=>none)
def Bk (n:Nat) {R:Type} (n01 i4 c211 c212 c213:Int) (c214:BA) (c215:Bool) (c216:Int) (c217:BA) (c218:Bool) (c219 c220:BA) (c221:(Sq U0)) (c222:(Sq BA)) (c223:Int) (c224:Bool) (ko:U4→Option R) (kr:(Bool)→Option R) (kp:Int→Option R):Option R:=(vi n n01 i4 c211 c212 c213 c214 c215 c216 c217 c218 c219 c220 c221 c222 c223 c224).bind fun x_1=>onL x_1 (fun a_2=>if 0≤a_2.2.1∧a_2.2.1<(a_2.2.2.2.2.2.2.2.2.2.2.2.2.2.1.n:Int) then if (decide ((IntKind.wrap .i64 ((IntKind.wrap .i64 (a_2.1+((a_2.2.2.2.2.2.2.2.2.2.2.2.2.2.1.at' (Int.toNat a_2.2.1)).size:Int)))+(2:Int)))>(8192:Int)))=true then kr false else ko ((IntKind.wrap .i64 ((IntKind.wrap .i64 (a_2.1+((a_2.2.2.2.2.2.2.2.2.2.2.2.2.2.1.at' (Int.toNat a_2.2.1)).size:Int)))+(2:Int))),a_2.2.1,a_2.2.2.1,a_2.2.2.2.1,a_2.2.2.2.2.1,a_2.2.2.2.2.2.1,a_2.2.2.2.2.2.2.1,a_2.2.2.2.2.2.2.2.1,a_2.2.2.2.2.2.2.2.2.1,a_2.2.2.2.2.2.2.2.2.2.1,a_2.2.2.2.2.2.2.2.2.2.2.1,a_2.2.2.2.2.2.2.2.2.2.2.2.1,a_2.2.2.2.2.2.2.2.2.2.2.2.2.1,a_2.2.2.2.2.2.2.2.2.2.2.2.2.2.1,a_2.2.2.2.2.2.2.2.2.2.2.2.2.2.2.1,a_2.2.2.2.2.2.2.2.2.2.2.2.2.2.2.2) else none) (fun a_3=>kr a_3) (fun _=>none)
def ui (n:Nat) (n01 i4 c211 c212 c213:Int) (c214:BA) (c215:Bool) (c216:Int) (c217:BA) (c218:Bool) (c219 c220:BA) (c221:(Sq U0)) (c222:(Sq BA)) (c223:Int) (c224:Bool):Option (Lx U4 (Bool)):=Bk n n01 i4 c211 c212 c213 c214 c215 c216 c217 c218 c219 c220 c221 c222 c223 c224 (fun a=>some (.out a)) (fun a=>some (.ret a)) (fun p=>some (.pan p))
theorem aO (n:Nat) {S:Type}:∀ n01 i4 c211 c212 c213 c214 c215 c216 c217 c218 c219 c220 c221 c222 c223 c224 (φ:_→Option S),(ui n n01 i4 c211 c212 c213 c214 c215 c216 c217 c218 c219 c220 c221 c222 c223 c224).bind φ=Bk n n01 i4 c211 c212 c213 c214 c215 c216 c217 c218 c219 c220 c221 c222 c223 c224 (fun a=>φ (.out a)) (fun a=>φ (.ret a)) (fun p=>φ (.pan p)):=by
  intros;first | (simp only [ui,Bk,ja,aa,iB,bB,oL,oX,nB,Option.bind_some]) | rfl
def yz:List Sl:=.top::.ptr 0 0 0::.top::.top::.top::.dat (.int .i64)::.dat (.int .i64)::tp 192 []
def xz:List RS:=[.box 29 14 true [.dat (.int .i64),.dat (.int .i64),.dat (.int .i64),.dat .str,.dat .bool,.dat (.int .i64),.dat .str,.dat .bool,.dat .str,.dat .str,.dat (.sl (.pair .str (.pair .str .unit))),.dat (.sl .str),.dat (.int .i64),.dat .bool]]
def bF:List Sl:=.top::.ptr 0 0 0::.top::.top::.top::.dat (.int .i64)::.dat (.int .i64)::tp 192 []
def aF:List RS:=[.box 29 14 true [.dat (.int .i64),.dat (.int .i64),.dat (.int .i64),.dat .str,.dat .bool,.dat (.int .i64),.dat .str,.dat .bool,.dat .str,.dat .str,.dat (.sl (.pair .str (.pair .str .unit))),.dat (.sl .str),.dat (.int .i64),.dat .bool]]
def dF:List Sl:=.top::.top::.dat .bool::tp 196 []
def cF:List RS:=[]
def pD (K:XE→List AV→oa→Option Out):Lx U4 (Bool)→Option Out:=fun x=>onL x (fun a=>tc bF aF (a.1,(a.2.1,())) ((a.2.2.1,(a.2.2.2.1,(a.2.2.2.2.1,(a.2.2.2.2.2.1,(a.2.2.2.2.2.2.1,(a.2.2.2.2.2.2.2.1,(a.2.2.2.2.2.2.2.2.1,(a.2.2.2.2.2.2.2.2.2.1,(a.2.2.2.2.2.2.2.2.2.2.1,(a.2.2.2.2.2.2.2.2.2.2.2.1,(a.2.2.2.2.2.2.2.2.2.2.2.2.1,(a.2.2.2.2.2.2.2.2.2.2.2.2.2.1,(a.2.2.2.2.2.2.2.2.2.2.2.2.2.2.1,(a.2.2.2.2.2.2.2.2.2.2.2.2.2.2.2,())))))))))))))),()) (K .normal)) (fun a=>tc dF cF (a,()) () (K .ret)) (fun _=>none)
def qi (n:Nat) {R:Type} (n0 i3 c197 c198 c199:Int) (c200:BA) (c201:Bool) (c202:Int) (c203:BA) (c204:Bool) (c205 c206:BA) (c207:(Sq U0)) (c208:(Sq BA)) (c209:Int) (c210:Bool) (kn:Int→Int→Int→Int→Int→BA→Bool→Int→BA→Bool→BA→BA→(Sq U0)→(Sq BA)→Int→Bool→Option R) (ko:U5→Option R) (kr:(Bool)→Option R) (kp:Int→Option R):Option R:=if (decide (i3<(c208.n:Int)))=true then (ui n n0 i3 c197 c198 c199 c200 c201 c202 c203 c204 c205 c206 c207 c208 c209 c210).bind fun x_1=>onL x_1 (fun a_2=>kn a_2.1 (IntKind.wrap .i64 (a_2.2.1+(1:Int))) a_2.2.2.1 a_2.2.2.2.1 a_2.2.2.2.2.1 a_2.2.2.2.2.2.1 a_2.2.2.2.2.2.2.1 a_2.2.2.2.2.2.2.2.1 a_2.2.2.2.2.2.2.2.2.1 a_2.2.2.2.2.2.2.2.2.2.1 a_2.2.2.2.2.2.2.2.2.2.2.1 a_2.2.2.2.2.2.2.2.2.2.2.2.1 a_2.2.2.2.2.2.2.2.2.2.2.2.2.1 a_2.2.2.2.2.2.2.2.2.2.2.2.2.2.1 a_2.2.2.2.2.2.2.2.2.2.2.2.2.2.2.1 a_2.2.2.2.2.2.2.2.2.2.2.2.2.2.2.2) (fun a_3=>kr a_3) (fun _=>none) else ko (n0,c197,c198,c199,c200,c201,c202,c203,c204,c205,c206,c207,c208,c209,c210)
def Kb (n:Nat):Nat→Int→Int→Int→Int→Int→BA→Bool→Int→BA→Bool→BA→BA→(Sq U0)→(Sq BA)→Int→Bool→Option (Lx U5 (Bool))
 | 0,_,_,_,_,_,_,_,_,_,_,_,_,_,_,_,_=>none
 | m+1,n0,i3,c197,c198,c199,c200,c201,c202,c203,c204,c205,c206,c207,c208,c209,c210=>qi n n0 i3 c197 c198 c199 c200 c201 c202 c203 c204 c205 c206 c207 c208 c209 c210 (Kb n m) (fun a=>some (.out a)) (fun a=>some (.ret a)) (fun p=>some (.pan p))
theorem iU (n m:Nat) {S:Type}:∀ n0 i3 c197 c198 c199 c200 c201 c202 c203 c204 c205 c206 c207 c208 c209 c210 (φ:_→Option S),(Kb n (m+1) n0 i3 c197 c198 c199 c200 c201 c202 c203 c204 c205 c206 c207 c208 c209 c210).bind φ=qi n n0 i3 c197 c198 c199 c200 c201 c202 c203 c204 c205 c206 c207 c208 c209 c210 (fun n0 i3 c197 c198 c199 c200 c201 c202 c203 c204 c205 c206 c207 c208 c209 c210=>(Kb n m n0 i3 c197 c198 c199 c200 c201 c202 c203 c204 c205 c206 c207 c208 c209 c210).bind φ) (fun a=>φ (.out a)) (fun a=>φ (.ret a)) (fun p=>φ (.pan p)):=by
  intros;first | (simp only [Kb,qi,ja,aa,iB,bB,oL,oX,nB,Option.bind_some]) | rfl
def Jo:List Sl:=.top::.ptr 0 0 0::.top::.top::.top::.dat (.int .i64)::.dat (.int .i64)::tp 192 []
def Io:List RS:=[.box 29 14 true [.dat (.int .i64),.dat (.int .i64),.dat (.int .i64),.dat .str,.dat .bool,.dat (.int .i64),.dat .str,.dat .bool,.dat .str,.dat .str,.dat (.sl (.pair .str (.pair .str .unit))),.dat (.sl .str),.dat (.int .i64),.dat .bool]]
def oF:List Sl:=.top::.ptr 0 0 0::.top::.top::.top::.dat (.int .i64)::tp 193 []
def nF:List RS:=[.box 29 14 true [.dat (.int .i64),.dat (.int .i64),.dat (.int .i64),.dat .str,.dat .bool,.dat (.int .i64),.dat .str,.dat .bool,.dat .str,.dat .str,.dat (.sl (.pair .str (.pair .str .unit))),.dat (.sl .str),.dat (.int .i64),.dat .bool]]
def qF:List Sl:=.top::.top::.dat .bool::tp 196 []
def pF:List RS:=[]
def Vd (K:XE→List AV→oa→Option Out):Lx U5 (Bool)→Option Out:=fun x=>onL x (fun a=>tc oF nF (a.1,()) ((a.2.1,(a.2.2.1,(a.2.2.2.1,(a.2.2.2.2.1,(a.2.2.2.2.2.1,(a.2.2.2.2.2.2.1,(a.2.2.2.2.2.2.2.1,(a.2.2.2.2.2.2.2.2.1,(a.2.2.2.2.2.2.2.2.2.1,(a.2.2.2.2.2.2.2.2.2.2.1,(a.2.2.2.2.2.2.2.2.2.2.2.1,(a.2.2.2.2.2.2.2.2.2.2.2.2.1,(a.2.2.2.2.2.2.2.2.2.2.2.2.2.1,(a.2.2.2.2.2.2.2.2.2.2.2.2.2.2,())))))))))))))),()) (K (.exit 3))) (fun a=>tc qF pF (a,()) () (K .ret)) (fun _=>none)
def zv (n:Nat) {R:Type} (c:T0) (k:Bool→Option R):Option R:=(ri n c.1 c.2.1 c.2.2.1 c.2.2.2.1.1 c.2.2.2.1.2.1 c.2.2.2.2.1 c.2.2.2.2.2.1 c.2.2.2.2.2.2.1 c.2.2.2.2.2.2.2.1.1 c.2.2.2.2.2.2.2.1.2.1 c.2.2.2.2.2.2.2.2.1 c.2.2.2.2.2.2.2.2.2.1 c.2.2.2.2.2.2.2.2.2.2.1 c.2.2.2.2.2.2.2.2.2.2.2.1).bind fun x_1=>onL x_1 (fun a_2=>if (decide ((a_2.2.2.2.2.2.2.1.size:Int)≤(200:Int)))=true then (Qi n a_2.2.2.2.2.2.2.1).bind fun v3=>(Ce n v3 a_2.1 a_2.2.1 a_2.2.2.1 a_2.2.2.2.1 a_2.2.2.2.2.1 a_2.2.2.2.2.2.1 a_2.2.2.2.2.2.2.1 a_2.2.2.2.2.2.2.2.1 a_2.2.2.2.2.2.2.2.2.1 a_2.2.2.2.2.2.2.2.2.2.1 a_2.2.2.2.2.2.2.2.2.2.2.1 a_2.2.2.2.2.2.2.2.2.2.2.2.1 a_2.2.2.2.2.2.2.2.2.2.2.2.2.1 a_2.2.2.2.2.2.2.2.2.2.2.2.2.2).bind fun x_3=>onL x_3 (fun a_4=>(De n a_4.1 a_4.2.1 a_4.2.2.1 a_4.2.2.2.1 a_4.2.2.2.2.1 a_4.2.2.2.2.2.1 a_4.2.2.2.2.2.2.1 a_4.2.2.2.2.2.2.2.1 a_4.2.2.2.2.2.2.2.2.1 a_4.2.2.2.2.2.2.2.2.2.1 a_4.2.2.2.2.2.2.2.2.2.2.1 a_4.2.2.2.2.2.2.2.2.2.2.2.1 a_4.2.2.2.2.2.2.2.2.2.2.2.2.1 a_4.2.2.2.2.2.2.2.2.2.2.2.2.2).bind fun x_5=>onL x_5 (fun a_6=>(Jb n n (0:Int) a_6.1 a_6.2.1 a_6.2.2.1 a_6.2.2.2.1 a_6.2.2.2.2.1 a_6.2.2.2.2.2.1 a_6.2.2.2.2.2.2.1 a_6.2.2.2.2.2.2.2.1 a_6.2.2.2.2.2.2.2.2.1 a_6.2.2.2.2.2.2.2.2.2.1 a_6.2.2.2.2.2.2.2.2.2.2.1 a_6.2.2.2.2.2.2.2.2.2.2.2.1 a_6.2.2.2.2.2.2.2.2.2.2.2.2.1 a_6.2.2.2.2.2.2.2.2.2.2.2.2.2).bind fun x_7=>onL x_7 (fun a_8=>(Ee n a_8.1 a_8.2.1 a_8.2.2.1 a_8.2.2.2.1 a_8.2.2.2.2.1 a_8.2.2.2.2.2.1 a_8.2.2.2.2.2.2.1 a_8.2.2.2.2.2.2.2.1 a_8.2.2.2.2.2.2.2.2.1 a_8.2.2.2.2.2.2.2.2.2.1 a_8.2.2.2.2.2.2.2.2.2.2.1 a_8.2.2.2.2.2.2.2.2.2.2.2.1 a_8.2.2.2.2.2.2.2.2.2.2.2.2.1 a_8.2.2.2.2.2.2.2.2.2.2.2.2.2).bind fun x_9=>onL x_9
 (fun a_10=>(Kb n n (0:Int) (0:Int) a_10.1 a_10.2.1 a_10.2.2.1 a_10.2.2.2.1 a_10.2.2.2.2.1 a_10.2.2.2.2.2.1 a_10.2.2.2.2.2.2.1 a_10.2.2.2.2.2.2.2.1 a_10.2.2.2.2.2.2.2.2.1 a_10.2.2.2.2.2.2.2.2.2.1 a_10.2.2.2.2.2.2.2.2.2.2.1 a_10.2.2.2.2.2.2.2.2.2.2.2.1 a_10.2.2.2.2.2.2.2.2.2.2.2.2.1 a_10.2.2.2.2.2.2.2.2.2.2.2.2.2).bind fun x_11=>onL x_11 (fun a_12=>k (a_12.2.2.2.2.2.2.2.2.2.2.2.2.2.1==a_12.1)) (fun a_13=>k a_13) (fun _=>none)) (fun a_14=>k a_14) (fun _=>none)) (fun a_15=>k a_15) (fun _=>none)) (fun a_16=>k a_16) (fun _=>none)) (fun a_17=>k a_17) (fun _=>none) else (Ce n false a_2.1 a_2.2.1 a_2.2.2.1 a_2.2.2.2.1 a_2.2.2.2.2.1 a_2.2.2.2.2.2.1 a_2.2.2.2.2.2.2.1 a_2.2.2.2.2.2.2.2.1 a_2.2.2.2.2.2.2.2.2.1 a_2.2.2.2.2.2.2.2.2.2.1 a_2.2.2.2.2.2.2.2.2.2.2.1 a_2.2.2.2.2.2.2.2.2.2.2.2.1 a_2.2.2.2.2.2.2.2.2.2.2.2.2.1 a_2.2.2.2.2.2.2.2.2.2.2.2.2.2).bind fun x_18=>onL x_18 (fun a_19=>(De n a_19.1 a_19.2.1 a_19.2.2.1 a_19.2.2.2.1 a_19.2.2.2.2.1 a_19.2.2.2.2.2.1 a_19.2.2.2.2.2.2.1 a_19.2.2.2.2.2.2.2.1 a_19.2.2.2.2.2.2.2.2.1 a_19.2.2.2.2.2.2.2.2.2.1 a_19.2.2.2.2.2.2.2.2.2.2.1 a_19.2.2.2.2.2.2.2.2.2.2.2.1 a_19.2.2.2.2.2.2.2.2.2.2.2.2.1 a_19.2.2.2.2.2.2.2.2.2.2.2.2.2).bind fun x_20=>onL x_20 (fun a_21=>(Jb n n (0:Int) a_21.1 a_21.2.1 a_21.2.2.1 a_21.2.2.2.1 a_21.2.2.2.2.1 a_21.2.2.2.2.2.1 a_21.2.2.2.2.2.2.1 a_21.2.2.2.2.2.2.2.1 a_21.2.2.2.2.2.2.2.2.1 a_21.2.2.2.2.2.2.2.2.2.1 a_21.2.2.2.2.2.2.2.2.2.2.1 a_21.2.2.2.2.2.2.2.2.2.2.2.1 a_21.2.2.2.2.2.2.2.2.2.2.2.2.1 a_21.2.2.2.2.2.2.2.2.2.2.2.2.2).bind fun x_22=>onL x_22
 (fun a_23=>(Ee n a_23.1 a_23.2.1 a_23.2.2.1 a_23.2.2.2.1 a_23.2.2.2.2.1 a_23.2.2.2.2.2.1 a_23.2.2.2.2.2.2.1 a_23.2.2.2.2.2.2.2.1 a_23.2.2.2.2.2.2.2.2.1 a_23.2.2.2.2.2.2.2.2.2.1 a_23.2.2.2.2.2.2.2.2.2.2.1 a_23.2.2.2.2.2.2.2.2.2.2.2.1 a_23.2.2.2.2.2.2.2.2.2.2.2.2.1 a_23.2.2.2.2.2.2.2.2.2.2.2.2.2).bind fun x_24=>onL x_24 (fun a_25=>(Kb n n (0:Int) (0:Int) a_25.1 a_25.2.1 a_25.2.2.1 a_25.2.2.2.1 a_25.2.2.2.2.1 a_25.2.2.2.2.2.1 a_25.2.2.2.2.2.2.1 a_25.2.2.2.2.2.2.2.1 a_25.2.2.2.2.2.2.2.2.1 a_25.2.2.2.2.2.2.2.2.2.1 a_25.2.2.2.2.2.2.2.2.2.2.1 a_25.2.2.2.2.2.2.2.2.2.2.2.1 a_25.2.2.2.2.2.2.2.2.2.2.2.2.1 a_25.2.2.2.2.2.2.2.2.2.2.2.2.2).bind fun x_26=>onL x_26 (fun a_27=>k (a_27.2.2.2.2.2.2.2.2.2.2.2.2.2.1==a_27.1)) (fun a_28=>k a_28) (fun _=>none)) (fun a_29=>k a_29) (fun _=>none)) (fun a_30=>k a_30) (fun _=>none)) (fun a_31=>k a_31) (fun _=>none)) (fun a_32=>k a_32) (fun _=>none)) (fun a_33=>k a_33) (fun _=>none)
def Nt (n:Nat) (c:T0):Option Bool:=zv n c some
theorem V6 (n:Nat) {S:Type}:∀ c (φ:_→Option S),(Nt n c).bind φ=zv n c φ:=by
  intros;unfold Nt zv;first | (simp only [ja,aa,iB,bB,oL,oX,nB,Option.bind_some]) | rfl
def Ya (n:Nat):Hint Out:={ live:=fun c=>(cond (Nat.beq c 3) (lv [1,5,6]) (cond (Nat.beq c 1) [(1,none),(4,none)] [])),run:=fun c=>(cond (Nat.beq c 3) (some (Zg Jo Io fun σ ρ K=>(Kb n n σ.1 σ.2.1 ρ.1.1 ρ.1.2.1 ρ.1.2.2.1 ρ.1.2.2.2.1 ρ.1.2.2.2.2.1 ρ.1.2.2.2.2.2.1 ρ.1.2.2.2.2.2.2.1 ρ.1.2.2.2.2.2.2.2.1 ρ.1.2.2.2.2.2.2.2.2.1 ρ.1.2.2.2.2.2.2.2.2.2.1 ρ.1.2.2.2.2.2.2.2.2.2.2.1 ρ.1.2.2.2.2.2.2.2.2.2.2.2.1 ρ.1.2.2.2.2.2.2.2.2.2.2.2.2.1 ρ.1.2.2.2.2.2.2.2.2.2.2.2.2.2.1).bind (Vd K))) (cond (Nat.beq c 1) (some (Zg Ho Fo fun σ ρ K=>(Jb n n σ.1 ρ.1.1 ρ.1.2.1 ρ.1.2.2.1 ρ.1.2.2.2.1 ρ.1.2.2.2.2.1 ρ.1.2.2.2.2.2.1 ρ.1.2.2.2.2.2.2.1 ρ.1.2.2.2.2.2.2.2.1 ρ.1.2.2.2.2.2.2.2.2.1 ρ.1.2.2.2.2.2.2.2.2.2.1 ρ.1.2.2.2.2.2.2.2.2.2.2.1 ρ.1.2.2.2.2.2.2.2.2.2.2.2.1 ρ.1.2.2.2.2.2.2.2.2.2.2.2.2.1 ρ.1.2.2.2.2.2.2.2.2.2.2.2.2.2.1).bind (Ud K))) none)),xm:=fun c q=>(cond (Nat.beq c 3&&Nat.beq (q.getD 1000000) 3&&q.isSome) (some [(1,none),(5,none)]) (cond (Nat.beq c 4&&q.isNone) (some [(2,none)]) (cond (Nat.beq c 1&&Nat.beq (q.getD 1000000) 1&&q.isSome) (some [(1,none)]) (cond (Nat.beq c 2&&q.isNone) (some [(2,none)]) (cond (Nat.beq c 0&&q.isNone) (some [(2,none)]) none))))),jn:=fun c=>(cond (Nat.beq c 31) (some (Zg yz xz fun σ ρ K=>(ui n σ.1 σ.2.1 ρ.1.1 ρ.1.2.1 ρ.1.2.2.1 ρ.1.2.2.2.1 ρ.1.2.2.2.2.1 ρ.1.2.2.2.2.2.1 ρ.1.2.2.2.2.2.2.1 ρ.1.2.2.2.2.2.2.2.1 ρ.1.2.2.2.2.2.2.2.2.1 ρ.1.2.2.2.2.2.2.2.2.2.1 ρ.1.2.2.2.2.2.2.2.2.2.2.1 ρ.1.2.2.2.2.2.2.2.2.2.2.2.1 ρ.1.2.2.2.2.2.2.2.2.2.2.2.2.1 ρ.1.2.2.2.2.2.2.2.2.2.2.2.2.2.1).bind (pD K))) (cond (Nat.beq c 34) (some (Zg Az zz fun σ ρ K=>(vi n σ.1 σ.2.1 ρ.1.1 ρ.1.2.1 ρ.1.2.2.1 ρ.1.2.2.2.1 ρ.1.2.2.2.2.1 ρ.1.2.2.2.2.2.1 ρ.1.2.2.2.2.2.2.1 ρ.1.2.2.2.2.2.2.2.1 ρ.1.2.2.2.2.2.2.2.2.1 ρ.1.2.2.2.2.2.2.2.2.2.1 ρ.1.2.2.2.2.2.2.2.2.2.2.1 ρ.1.2.2.2.2.2.2.2.2.2.2.2.1 ρ.1.2.2.2.2.2.2.2.2.2.2.2.2.1 ρ.1.2.2.2.2.2.2.2.2.2.2.2.2.2.1).bind (qD K))) (cond (Nat.beq c 28) (some (Zg wz vz fun σ ρ K=>(Ee n ρ.1.1 ρ.1.2.1 ρ.1.2.2.1 ρ.1.2.2.2.1 ρ.1.2.2.2.2.1 ρ.1.2.2.2.2.2.1 ρ.1.2.2.2.2.2.2.1 ρ.1.2.2.2.2.2.2.2.1 ρ.1.2.2.2.2.2.2.2.2.1 ρ.1.2.2.2.2.2.2.2.2.2.1 ρ.1.2.2.2.2.2.2.2.2.2.2.1 ρ.1.2.2.2.2.2.2.2.2.2.2.2.1 ρ.1.2.2.2.2.2.2.2.2.2.2.2.2.1 ρ.1.2.2.2.2.2.2.2.2.2.2.2.2.2.1).bind (oD K))) (cond (Nat.beq c 23) (some (Zg uz tz fun σ ρ K=>(ti n σ.1 ρ.1.1 ρ.1.2.1 ρ.1.2.2.1 ρ.1.2.2.2.1 ρ.1.2.2.2.2.1 ρ.1.2.2.2.2.2.1 ρ.1.2.2.2.2.2.2.1 ρ.1.2.2.2.2.2.2.2.1 ρ.1.2.2.2.2.2.2.2.2.1 ρ.1.2.2.2.2.2.2.2.2.2.1 ρ.1.2.2.2.2.2.2.2.2.2.2.1 ρ.1.2.2.2.2.2.2.2.2.2.2.2.1 ρ.1.2.2.2.2.2.2.2.2.2.2.2.2.1 ρ.1.2.2.2.2.2.2.2.2.2.2.2.2.2.1).bind (nD K))) (cond (Nat.beq c 21) (some (Zg pz oz fun σ ρ K=>(De n ρ.1.1 ρ.1.2.1 ρ.1.2.2.1 ρ.1.2.2.2.1 ρ.1.2.2.2.2.1 ρ.1.2.2.2.2.2.1 ρ.1.2.2.2.2.2.2.1 ρ.1.2.2.2.2.2.2.2.1 ρ.1.2.2.2.2.2.2.2.2.1 ρ.1.2.2.2.2.2.2.2.2.2.1 ρ.1.2.2.2.2.2.2.2.2.2.2.1 ρ.1.2.2.2.2.2.2.2.2.2.2.2.1 ρ.1.2.2.2.2.2.2.2.2.2.2.2.2.1 ρ.1.2.2.2.2.2.2.2.2.2.2.2.2.2.1).bind (lD K))) (cond (Nat.beq c 17) (some (Zg rz qz fun σ ρ K=>(si n ρ.1.1 ρ.1.2.1 ρ.1.2.2.1 ρ.1.2.2.2.1 ρ.1.2.2.2.2.1 ρ.1.2.2.2.2.2.1 ρ.1.2.2.2.2.2.2.1 ρ.1.2.2.2.2.2.2.2.1 ρ.1.2.2.2.2.2.2.2.2.1 ρ.1.2.2.2.2.2.2.2.2.2.1 ρ.1.2.2.2.2.2.2.2.2.2.2.1 ρ.1.2.2.2.2.2.2.2.2.2.2.2.1 ρ.1.2.2.2.2.2.2.2.2.2.2.2.2.1 ρ.1.2.2.2.2.2.2.2.2.2.2.2.2.2.1).bind (mD K))) (cond (Nat.beq c 14) (some (Zg nz mz fun σ ρ K=>(Ce n σ.1 ρ.1.1 ρ.1.2.1 ρ.1.2.2.1 ρ.1.2.2.2.1 ρ.1.2.2.2.2.1 ρ.1.2.2.2.2.2.1 ρ.1.2.2.2.2.2.2.1 ρ.1.2.2.2.2.2.2.2.1 ρ.1.2.2.2.2.2.2.2.2.1 ρ.1.2.2.2.2.2.2.2.2.2.1 ρ.1.2.2.2.2.2.2.2.2.2.2.1 ρ.1.2.2.2.2.2.2.2.2.2.2.2.1 ρ.1.2.2.2.2.2.2.2.2.2.2.2.2.1 ρ.1.2.2.2.2.2.2.2.2.2.2.2.2.2.1).bind (kD K))) (cond (Nat.beq c 4) (some (Zg lz kz fun σ ρ K=>(ri n ρ.1.1 ρ.1.2.1 ρ.1.2.2.1 ρ.1.2.2.2.1 ρ.1.2.2.2.2.1 ρ.1.2.2.2.2.2.1 ρ.1.2.2.2.2.2.2.1 ρ.1.2.2.2.2.2.2.2.1 ρ.1.2.2.2.2.2.2.2.2.1 ρ.1.2.2.2.2.2.2.2.2.2.1 ρ.1.2.2.2.2.2.2.2.2.2.2.1 ρ.1.2.2.2.2.2.2.2.2.2.2.2.1 ρ.1.2.2.2.2.2.2.2.2.2.2.2.2.1 ρ.1.2.2.2.2.2.2.2.2.2.2.2.2.2.1).bind (jD K))) none)))))))),jl:=fun c=>(cond (Nat.beq c 31) (lv [1,5,6]) (cond (Nat.beq c 34) (lv [1,5,6]) (cond (Nat.beq c 28) [(1,none)] (cond (Nat.beq c 23) [(1,none),(4,none)] (cond (Nat.beq c 21) [(1,none)] (cond (Nat.beq c 17) [(1,none)] (cond (Nat.beq c 14) [(1,none),(3,none)] (cond (Nat.beq c 4) [(1,none)] [])))))))),jo:=fun c=>(cond (Nat.beq c 31) (lv [1,5,6]) (cond (Nat.beq c 34) (lv [1,5,6]) (cond (Nat.beq c 28) [(1,none)] (cond (Nat.beq c 23) [(1,none),(4,none)] (cond (Nat.beq c 21) [(1,none)] (cond (Nat.beq c 17) [(1,none)] (cond (Nat.beq c 14) [(1,none)] (cond (Nat.beq c 4) [(1,none)] [])))))))) }
theorem dR (n:Nat):LY tys (ia Out (Eb n)) (Ya n) n (wa [1,0] (fa Tryz.f16)) 0 4:=qh (sp:=lz) (rp:=kz) (by kernel_rfl) fun K σ ρ=>Eq.trans (by kernel_rfl) (UN n ρ.1.1 ρ.1.2.1 ρ.1.2.2.1 ρ.1.2.2.2.1 ρ.1.2.2.2.2.1 ρ.1.2.2.2.2.2.1 ρ.1.2.2.2.2.2.2.1 ρ.1.2.2.2.2.2.2.2.1 ρ.1.2.2.2.2.2.2.2.2.1 ρ.1.2.2.2.2.2.2.2.2.2.1 ρ.1.2.2.2.2.2.2.2.2.2.2.1 ρ.1.2.2.2.2.2.2.2.2.2.2.2.1 ρ.1.2.2.2.2.2.2.2.2.2.2.2.2.1 ρ.1.2.2.2.2.2.2.2.2.2.2.2.2.2.1 (jD K)).symm
theorem eR (n:Nat):LY tys (ia Out (Eb n)) (Ya n) n (wa [1,1,1,0] (fa Tryz.f16)) 0 14:=qh (sp:=nz) (rp:=mz) (by kernel_rfl) fun K σ ρ=>Eq.trans (by kernel_rfl) (VN n σ.1 ρ.1.1 ρ.1.2.1 ρ.1.2.2.1 ρ.1.2.2.2.1 ρ.1.2.2.2.2.1 ρ.1.2.2.2.2.2.1 ρ.1.2.2.2.2.2.2.1 ρ.1.2.2.2.2.2.2.2.1 ρ.1.2.2.2.2.2.2.2.2.1 ρ.1.2.2.2.2.2.2.2.2.2.1 ρ.1.2.2.2.2.2.2.2.2.2.2.1 ρ.1.2.2.2.2.2.2.2.2.2.2.2.1 ρ.1.2.2.2.2.2.2.2.2.2.2.2.2.1 ρ.1.2.2.2.2.2.2.2.2.2.2.2.2.2.1 (kD K)).symm
theorem gR (n:Nat):LY tys (ia Out (Eb n)) (Ya n) n (wa [1,1,1,1,0,1,0,0] (fa Tryz.f16)) 0 17:=qh (sp:=rz) (rp:=qz) (by kernel_rfl) fun K σ ρ=>Eq.trans (by kernel_rfl) (XN n ρ.1.1 ρ.1.2.1 ρ.1.2.2.1 ρ.1.2.2.2.1 ρ.1.2.2.2.2.1 ρ.1.2.2.2.2.2.1 ρ.1.2.2.2.2.2.2.1 ρ.1.2.2.2.2.2.2.2.1 ρ.1.2.2.2.2.2.2.2.2.1 ρ.1.2.2.2.2.2.2.2.2.2.1 ρ.1.2.2.2.2.2.2.2.2.2.2.1 ρ.1.2.2.2.2.2.2.2.2.2.2.2.1 ρ.1.2.2.2.2.2.2.2.2.2.2.2.2.1 ρ.1.2.2.2.2.2.2.2.2.2.2.2.2.2.1 (mD K)).symm
theorem fR (n:Nat):LY tys (ia Out (Eb n)) (Ya n) n (wa [1,1,1,1,0] (fa Tryz.f16)) 0 21:=qh (sp:=pz) (rp:=oz) (by kernel_rfl) fun K σ ρ=>Eq.trans (by kernel_rfl) (WN n ρ.1.1 ρ.1.2.1 ρ.1.2.2.1 ρ.1.2.2.2.1 ρ.1.2.2.2.2.1 ρ.1.2.2.2.2.2.1 ρ.1.2.2.2.2.2.2.1 ρ.1.2.2.2.2.2.2.2.1 ρ.1.2.2.2.2.2.2.2.2.1 ρ.1.2.2.2.2.2.2.2.2.2.1 ρ.1.2.2.2.2.2.2.2.2.2.2.1 ρ.1.2.2.2.2.2.2.2.2.2.2.2.1 ρ.1.2.2.2.2.2.2.2.2.2.2.2.2.1 ρ.1.2.2.2.2.2.2.2.2.2.2.2.2.2.1 (lD K)).symm
theorem iR (n:Nat):LY tys (ia Out (Eb n)) (Ya n) n (wa [1,1,1,1,1,0,1,0,0,1,0] (fa Tryz.f16)) 1 23:=qh (sp:=uz) (rp:=tz) (by kernel_rfl) fun K σ ρ=>Eq.trans (by kernel_rfl) (YN n σ.1 ρ.1.1 ρ.1.2.1 ρ.1.2.2.1 ρ.1.2.2.2.1 ρ.1.2.2.2.2.1 ρ.1.2.2.2.2.2.1 ρ.1.2.2.2.2.2.2.1 ρ.1.2.2.2.2.2.2.2.1 ρ.1.2.2.2.2.2.2.2.2.1 ρ.1.2.2.2.2.2.2.2.2.2.1 ρ.1.2.2.2.2.2.2.2.2.2.2.1 ρ.1.2.2.2.2.2.2.2.2.2.2.2.1 ρ.1.2.2.2.2.2.2.2.2.2.2.2.2.1 ρ.1.2.2.2.2.2.2.2.2.2.2.2.2.2.1 (nD K)).symm
def Dk (n:Nat) (K:XE→List AV→oa→Option Out) (m:Nat) (i:Int) (c113:Int) (c114:Int) (c115:Int) (c116:BA) (c117:Bool) (c118:Int) (c119:BA) (c120:Bool) (c121:BA) (c122:BA) (c123:(Sq U0)) (c124:(Sq BA)) (c125:Int) (c126:Bool):Option Out:=Nc tys (ia Out (Eb n)) (Ya n) n (wa [1,1,1,1,1,0,1,0,0] (fa Tryz.f16)) 1 Ho Fo K m (i,()) ((c113,(c114,(c115,(c116,(c117,(c118,(c119,(c120,(c121,(c122,(c123,(c124,(c125,(c126,())))))))))))))),())
theorem rD (n:Nat) (K:XE→List AV→oa→Option Out):∀ (m:Nat) i c113 c114 c115 c116 c117 c118 c119 c120 c121 c122 c123 c124 c125 c126,Dk n K m i c113 c114 c115 c116 c117 c118 c119 c120 c121 c122 c123 c124 c125 c126=(Jb n m i c113 c114 c115 c116 c117 c118 c119 c120 c121 c122 c123 c124 c125 c126).bind (Ud K)
  | 0,_,_,_,_,_,_,_,_,_,_,_,_,_,_,_=>by kernel_rfl
  | m+1,i,c113,c114,c115,c116,c117,c118,c119,c120,c121,c122,c123,c124,c125,c126=>by
    have h1:Dk n K (m+1) i c113 c114 c115 c116 c117 c118 c119 c120 c121 c122 c123 c124 c125 c126=pi n i c113 c114 c115 c116 c117 c118 c119 c120 c121 c122 c123 c124 c125 c126 (Dk n K m) (fun a=>Ud K (.out a)) (fun a=>Ud K (.ret a)) (fun p=>Ud K (.pan p)):=by kernel_rfl
    have h2:Dk n K m=fun i c113 c114 c115 c116 c117 c118 c119 c120 c121 c122 c123 c124 c125 c126=>(Jb n m i c113 c114 c115 c116 c117 c118 c119 c120 c121 c122 c123 c124 c125 c126).bind (Ud K):=by
      repeat (refine funext fun _=>?_)
      exact rD n K m _ _ _ _ _ _ _ _ _ _ _ _ _ _ _
    rw [h1,h2];exact (gU n m _ _ _ _ _ _ _ _ _ _ _ _ _ _ _ (Ud K)).symm
theorem mR (n:Nat):Bc tys (ia Out (Eb n)) (Ya n) n (wa [1,1,1,1,1,0,1,0,0] (fa Tryz.f16)) 1:=Ea (sp:=Ho) (rp:=Fo) (by kernel_rfl) fun K σ ρ=>rD n K n σ.1 ρ.1.1 ρ.1.2.1 ρ.1.2.2.1 ρ.1.2.2.2.1 ρ.1.2.2.2.2.1 ρ.1.2.2.2.2.2.1 ρ.1.2.2.2.2.2.2.1 ρ.1.2.2.2.2.2.2.2.1 ρ.1.2.2.2.2.2.2.2.2.1 ρ.1.2.2.2.2.2.2.2.2.2.1 ρ.1.2.2.2.2.2.2.2.2.2.2.1 ρ.1.2.2.2.2.2.2.2.2.2.2.2.1 ρ.1.2.2.2.2.2.2.2.2.2.2.2.2.1 ρ.1.2.2.2.2.2.2.2.2.2.2.2.2.2.1
theorem jR (n:Nat):LY tys (ia Out (Eb n)) (Ya n) n (wa [1,1,1,1,1,1,0] (fa Tryz.f16)) 0 28:=qh (sp:=wz) (rp:=vz) (by kernel_rfl) fun K σ ρ=>Eq.trans (by kernel_rfl) (ZN n ρ.1.1 ρ.1.2.1 ρ.1.2.2.1 ρ.1.2.2.2.1 ρ.1.2.2.2.2.1 ρ.1.2.2.2.2.2.1 ρ.1.2.2.2.2.2.2.1 ρ.1.2.2.2.2.2.2.2.1 ρ.1.2.2.2.2.2.2.2.2.1 ρ.1.2.2.2.2.2.2.2.2.2.1 ρ.1.2.2.2.2.2.2.2.2.2.2.1 ρ.1.2.2.2.2.2.2.2.2.2.2.2.1 ρ.1.2.2.2.2.2.2.2.2.2.2.2.2.1 ρ.1.2.2.2.2.2.2.2.2.2.2.2.2.2.1 (oD K)).symm
theorem lR (n:Nat):LY tys (ia Out (Eb n)) (Ya n) n (wa [1,1,1,1,1,1,1,1,0,1,0,0,1,0,0,0] (fa Tryz.f16)) 4 34:=qh (sp:=Az) (rp:=zz) (by kernel_rfl) fun K σ ρ=>Eq.trans (by kernel_rfl) (bO n σ.1 σ.2.1 ρ.1.1 ρ.1.2.1 ρ.1.2.2.1 ρ.1.2.2.2.1 ρ.1.2.2.2.2.1 ρ.1.2.2.2.2.2.1 ρ.1.2.2.2.2.2.2.1 ρ.1.2.2.2.2.2.2.2.1 ρ.1.2.2.2.2.2.2.2.2.1 ρ.1.2.2.2.2.2.2.2.2.2.1 ρ.1.2.2.2.2.2.2.2.2.2.2.1 ρ.1.2.2.2.2.2.2.2.2.2.2.2.1 ρ.1.2.2.2.2.2.2.2.2.2.2.2.2.1 ρ.1.2.2.2.2.2.2.2.2.2.2.2.2.2.1 (qD K)).symm
theorem kR (n:Nat):LY tys (ia Out (Eb n)) (Ya n) n (wa [1,1,1,1,1,1,1,1,0,1,0,0,1,0] (fa Tryz.f16)) 3 31:=qh (sp:=yz) (rp:=xz) (by kernel_rfl) fun K σ ρ=>Eq.trans (by kernel_rfl) (aO n σ.1 σ.2.1 ρ.1.1 ρ.1.2.1 ρ.1.2.2.1 ρ.1.2.2.2.1 ρ.1.2.2.2.2.1 ρ.1.2.2.2.2.2.1 ρ.1.2.2.2.2.2.2.1 ρ.1.2.2.2.2.2.2.2.1 ρ.1.2.2.2.2.2.2.2.2.1 ρ.1.2.2.2.2.2.2.2.2.2.1 ρ.1.2.2.2.2.2.2.2.2.2.2.1 ρ.1.2.2.2.2.2.2.2.2.2.2.2.1 ρ.1.2.2.2.2.2.2.2.2.2.2.2.2.1 ρ.1.2.2.2.2.2.2.2.2.2.2.2.2.2.1 (pD K)).symm
def Ek (n:Nat) (K:XE→List AV→oa→Option Out) (m:Nat) (n0:Int) (i3:Int) (c197:Int) (c198:Int) (c199:Int) (c200:BA) (c201:Bool) (c202:Int) (c203:BA) (c204:Bool) (c205:BA) (c206:BA) (c207:(Sq U0)) (c208:(Sq BA)) (c209:Int) (c210:Bool):Option Out:=Nc tys (ia Out (Eb n)) (Ya n) n (wa [1,1,1,1,1,1,1,1,0,1,0,0] (fa Tryz.f16)) 3 Jo Io K m (n0,(i3,())) ((c197,(c198,(c199,(c200,(c201,(c202,(c203,(c204,(c205,(c206,(c207,(c208,(c209,(c210,())))))))))))))),())
theorem sD (n:Nat) (K:XE→List AV→oa→Option Out):∀ (m:Nat) n0 i3 c197 c198 c199 c200 c201 c202 c203 c204 c205 c206 c207 c208 c209 c210,Ek n K m n0 i3 c197 c198 c199 c200 c201 c202 c203 c204 c205 c206 c207 c208 c209 c210=(Kb n m n0 i3 c197 c198 c199 c200 c201 c202 c203 c204 c205 c206 c207 c208 c209 c210).bind (Vd K)
  | 0,_,_,_,_,_,_,_,_,_,_,_,_,_,_,_,_=>by kernel_rfl
  | m+1,n0,i3,c197,c198,c199,c200,c201,c202,c203,c204,c205,c206,c207,c208,c209,c210=>by
    have h1:Ek n K (m+1) n0 i3 c197 c198 c199 c200 c201 c202 c203 c204 c205 c206 c207 c208 c209 c210=qi n n0 i3 c197 c198 c199 c200 c201 c202 c203 c204 c205 c206 c207 c208 c209 c210 (Ek n K m) (fun a=>Vd K (.out a)) (fun a=>Vd K (.ret a)) (fun p=>Vd K (.pan p)):=by kernel_rfl
    have h2:Ek n K m=fun n0 i3 c197 c198 c199 c200 c201 c202 c203 c204 c205 c206 c207 c208 c209 c210=>(Kb n m n0 i3 c197 c198 c199 c200 c201 c202 c203 c204 c205 c206 c207 c208 c209 c210).bind (Vd K):=by
      repeat (refine funext fun _=>?_)
      exact sD n K m _ _ _ _ _ _ _ _ _ _ _ _ _ _ _ _
    rw [h1,h2];exact (iU n m _ _ _ _ _ _ _ _ _ _ _ _ _ _ _ _ (Vd K)).symm
theorem nR (n:Nat):Bc tys (ia Out (Eb n)) (Ya n) n (wa [1,1,1,1,1,1,1,1,0,1,0,0] (fa Tryz.f16)) 3:=Ea (sp:=Jo) (rp:=Io) (by kernel_rfl) fun K σ ρ=>sD n K n σ.1 σ.2.1 ρ.1.1 ρ.1.2.1 ρ.1.2.2.1 ρ.1.2.2.2.1 ρ.1.2.2.2.2.1 ρ.1.2.2.2.2.2.1 ρ.1.2.2.2.2.2.2.1 ρ.1.2.2.2.2.2.2.2.1 ρ.1.2.2.2.2.2.2.2.2.1 ρ.1.2.2.2.2.2.2.2.2.2.1 ρ.1.2.2.2.2.2.2.2.2.2.2.1 ρ.1.2.2.2.2.2.2.2.2.2.2.2.1 ρ.1.2.2.2.2.2.2.2.2.2.2.2.2.1 ρ.1.2.2.2.2.2.2.2.2.2.2.2.2.2.1
theorem jU (n:Nat):qa tys (ia Out (Eb n)) (Ya n) n (fa Tryz.f16) 0:=⟨trivial,⟨⟨⟨trivial,⟨⟨trivial,trivial⟩,trivial⟩⟩,⟨trivial,⟨⟨⟨trivial,⟨trivial,⟨⟨trivial,⟨⟨trivial,trivial⟩,trivial⟩⟩,⟨trivial,⟨⟨trivial,⟨⟨trivial,trivial⟩,trivial⟩⟩,⟨trivial,⟨⟨trivial,trivial⟩,trivial⟩⟩⟩⟩⟩⟩⟩,⟨⟨⟨trivial,⟨⟨⟨⟨trivial,⟨⟨trivial,trivial⟩,trivial⟩⟩,⟨trivial,⟨⟨trivial,trivial⟩,trivial⟩⟩⟩,gR n⟩,⟨trivial,⟨⟨trivial,trivial⟩,trivial⟩⟩⟩⟩,⟨⟨trivial,⟨mR n,⟨⟨trivial,⟨trivial,trivial⟩⟩,⟨⟨⟨trivial,⟨⟨trivial,trivial⟩,trivial⟩⟩,trivial⟩,iR n⟩⟩⟩⟩,⟨⟨⟨trivial,⟨⟨trivial,trivial⟩,trivial⟩⟩,⟨trivial,⟨⟨trivial,⟨nR n,⟨⟨trivial,⟨trivial,trivial⟩⟩,⟨⟨⟨⟨⟨trivial,⟨⟨trivial,trivial⟩,trivial⟩⟩,⟨trivial,⟨trivial,⟨⟨trivial,trivial⟩,trivial⟩⟩⟩⟩,lR n⟩,trivial⟩,kR n⟩⟩⟩⟩,⟨trivial,trivial⟩⟩⟩⟩,jR n⟩⟩⟩,fR n⟩⟩,eR n⟩⟩⟩,dR n⟩⟩
theorem DX (n:Nat):Enters Tryz.prog 16:=enters_of (c:=fa Tryz.f16) Tryz.func16 (by kernel_rfl) (by kernel_rfl)
def SM (n:Nat):Entry:=⟨16,pcT K1 (.one .bool) (fun xs=>Nt n xs.1),none,none⟩
theorem J1 (n:Nat):EntryOk Tryz.prog gl (SM n):=za (DX n) fun xs y h=>na tys_ok (gD n) mixed (hint:=Ya n) (n:=n) Tryz.func16 (Aa (jU n)) (la (φ:=(fun y=>some (Out.ret (qb (.one .bool) y)))) (by kernel_rfl) (V6 n xs.1 _) h)
def Bz (n:Nat):List Entry:=SM n::Eb n
theorem Cz (n:Nat):AllOk Tryz.prog gl (Bz n):=.cons (J1 n) (gD n)
def WA (n:Nat) {R:Type} (n0 least most:Int) (k:Bool→Option R):Option R:=if (decide (n0≥least))=true then k (decide (n0≤most)) else k false
def Im (n:Nat) (n0 least most:Int):Option Bool:=WA n n0 least most some
theorem bbb (n:Nat) {S:Type}:∀ n0 least most (φ:_→Option S),(Im n n0 least most).bind φ=WA n n0 least most φ:=by
  intros;unfold Im WA;first | (simp only [ja,aa,iB,bB,oL,oX,nB,Option.bind_some]) | rfl
def pH (n:Nat):Hint Out:={ live:=fun c=>[],run:=fun c=>none,xm:=fun c q=>none }
theorem PW (n:Nat):qa tys (ia Out (Bz n)) (pH n) n (fa Tryz.f63) 0:=ma (fun _=>rfl) _ _ (by kernel_rfl)
theorem MZ (n:Nat):Enters Tryz.prog 63:=enters_of (c:=fa Tryz.f63) Tryz.func63 (by kernel_rfl) (by kernel_rfl)
def sQ (n:Nat):Entry:=⟨63,pcT (.pair (.int .i64) (.pair (.int .i64) (.pair (.int .i64) .unit))) (.one .bool) (fun xs=>Im n xs.1 xs.2.1 xs.2.2.1),none,none⟩
theorem Z5 (n:Nat):EntryOk Tryz.prog gl (sQ n):=za (MZ n) fun xs y h=>na tys_ok (Cz n) mixed (hint:=pH n) (n:=n) Tryz.func63 (Aa (PW n)) (la (φ:=(fun y=>some (Out.ret (qb (.one .bool) y)))) (by kernel_rfl) (bbb n xs.1 xs.2.1 xs.2.2.1 _) h)
def tQ (n:Nat):List Entry:=sQ n::Bz n
theorem IT (n:Nat):AllOk Tryz.prog gl (tQ n):=.cons (Z5 n) (Cz n)
def Js (n:Nat):List Entry:=⟨89,pcT (.pair .str (.pair .str .unit)) (.one .bool) (fun xs=>ft xs.1 xs.2.1),none,none⟩::tQ n
theorem ku (n:Nat):AllOk Tryz.prog gl (Js n):=.cons d6 (IT n)
def nv (n:Nat) {R:Type} (f:U9) (k:Bool→Option R):Option R:=if f.2.1=true then if (f.1.toList==(⟨#[]⟩:BA).toList)=false then k (f.1.toList==(⟨#[13]⟩:BA).toList) else k true else if (decide ((f.1.size:Int)<(512:Int)))=true then (ft f.1 (⟨#[13,10]⟩:BA)).bind fun v=>k (!v) else k false
def kt (n:Nat) (f:U9):Option Bool:=nv n f some
theorem r6 (n:Nat) {S:Type}:∀ f (φ:_→Option S),(kt n f).bind φ=nv n f φ:=by
  intros;unfold kt nv;first | (simp only [ja,aa,iB,bB,oL,oX,nB,Option.bind_some]) | rfl
def YC (n:Nat):Hint Out:={ live:=fun c=>[],run:=fun c=>none,xm:=fun c q=>none }
theorem PT (n:Nat):qa tys (ia Out (Js n)) (YC n) n (fa Tryz.f64) 0:=ma (fun _=>rfl) _ _ (by kernel_rfl)
theorem XW (n:Nat):Enters Tryz.prog 64:=enters_of (c:=fa Tryz.f64) Tryz.func64 (by kernel_rfl) (by kernel_rfl)
def KM (n:Nat):Entry:=⟨64,pcT (.pair (.pair .str (.pair .bool .unit)) .unit) (.one .bool) (fun xs=>kt n xs.1),none,none⟩
theorem YZ (n:Nat):EntryOk Tryz.prog gl (KM n):=za (XW n) fun xs y h=>na tys_ok (ku n) mixed (hint:=YC n) (n:=n) Tryz.func64 (Aa (PT n)) (la (φ:=(fun y=>some (Out.ret (qb (.one .bool) y)))) (by kernel_rfl) (r6 n xs.1 _) h)
def Ny (n:Nat):List Entry:=KM n::Js n
theorem Oy (n:Nat):AllOk Tryz.prog gl (Ny n):=.cons (YZ n) (ku n)
def nk (n:Nat) {R:Type} (s prefix0:BA) (k:Bool→Option R):Option R:=if (decide ((s.size:Int)≥(prefix0.size:Int)))=true then if 0≤(prefix0.size:Int)∧(prefix0.size:Int)≤(s.size:Int) then k ((s.extract (Int.toNat (0:Int)) (Int.toNat (prefix0.size:Int))).toList==prefix0.toList) else none else k false
def Pc (n:Nat) (s prefix0:BA):Option Bool:=nk n s prefix0 some
theorem QT (n:Nat) {S:Type}:∀ s prefix0 (φ:_→Option S),(Pc n s prefix0).bind φ=nk n s prefix0 φ:=by
  intros;unfold Pc nk;first | (simp only [ja,aa,iB,bB,oL,oX,nB,Option.bind_some]) | rfl
def rt (n:Nat):Hint Out:={ live:=fun c=>[],run:=fun c=>none,xm:=fun c q=>none }
theorem GK (n:Nat):qa tys (ia Out (Ny n)) (rt n) n (fa Tryz.f163) 0:=ma (fun _=>rfl) _ _ (by kernel_rfl)
theorem KN (n:Nat):Enters Tryz.prog 163:=enters_of (c:=fa Tryz.f163) Tryz.func163 (by kernel_rfl) (by kernel_rfl)
def Ry (n:Nat):Entry:=⟨163,pcT (.pair .str (.pair .str .unit)) (.one .bool) (fun xs=>Pc n xs.1 xs.2.1),none,none⟩
theorem CQ (n:Nat):EntryOk Tryz.prog gl (Ry n):=za (KN n) fun xs y h=>na tys_ok (Oy n) mixed (hint:=rt n) (n:=n) Tryz.func163 (Aa (GK n)) (la (φ:=(fun y=>some (Out.ret (qb (.one .bool) y)))) (by kernel_rfl) (QT n xs.1 xs.2.1 _) h)
def go (n:Nat):List Entry:=Ry n::Ny n
theorem Sp (n:Nat):AllOk Tryz.prog gl (go n):=.cons (CQ n) (Oy n)
def Ef (n:Nat) {R:Type} (s prefix0:BA) (k:Bool→Option R):Option R:=(Pc n s prefix0).bind fun v=>k v
def Lb (n:Nat) (s prefix0:BA):Option Bool:=Ef n s prefix0 some
theorem HU (n:Nat) {S:Type}:∀ s prefix0 (φ:_→Option S),(Lb n s prefix0).bind φ=Ef n s prefix0 φ:=by
  intros;unfold Lb Ef;first | (simp only [ja,aa,iB,bB,oL,oX,nB,Option.bind_some]) | rfl
def lu (n:Nat):Hint Out:={ live:=fun c=>[],run:=fun c=>none,xm:=fun c q=>none }
theorem DL (n:Nat):qa tys (ia Out (go n)) (lu n) n (fa Tryz.f140) 0:=ma (fun _=>rfl) _ _ (by kernel_rfl)
theorem rO (n:Nat):Enters Tryz.prog 140:=enters_of (c:=fa Tryz.f140) Tryz.func140 (by kernel_rfl) (by kernel_rfl)
def bA (n:Nat):Entry:=⟨140,pcT (.pair .str (.pair .str .unit)) (.one .bool) (fun xs=>Lb n xs.1 xs.2.1),none,none⟩
theorem kS (n:Nat):EntryOk Tryz.prog gl (bA n):=za (rO n) fun xs y h=>na tys_ok (Sp n) mixed (hint:=lu n) (n:=n) Tryz.func140 (Aa (DL n)) (la (φ:=(fun y=>some (Out.ret (qb (.one .bool) y)))) (by kernel_rfl) (HU n xs.1 xs.2.1 _) h)
def Xo (n:Nat):List Entry:=bA n::go n
theorem Rq (n:Nat):AllOk Tryz.prog gl (Xo n):=.cons (kS n) (Sp n)
def dk (n:Nat) {R:Type} (s:BA) (k:Bool→Option R):Option R:=(Lb n s (⟨#[91]⟩:BA)).bind fun v=>k v
def Ae (n:Nat) (s:BA):Option Bool:=dk n s some
theorem dT (n:Nat) {S:Type}:∀ s (φ:_→Option S),(Ae n s).bind φ=dk n s φ:=by
  intros;unfold Ae dk;first | (simp only [ja,aa,iB,bB,oL,oX,nB,Option.bind_some]) | rfl
def Ws (n:Nat):Hint Out:={ live:=fun c=>[],run:=fun c=>none,xm:=fun c q=>none }
theorem lK (n:Nat):qa tys (ia Out (Xo n)) (Ws n) n (fa Tryz.f118) 0:=ma (fun _=>rfl) _ _ (by kernel_rfl)
theorem wN (n:Nat):Enters Tryz.prog 118:=enters_of (c:=fa Tryz.f118) Tryz.func118 (by kernel_rfl) (by kernel_rfl)
def Px (n:Nat):Entry:=⟨118,pcT (.pair .str .unit) (.one .bool) (fun xs=>Ae n xs.1),none,none⟩
theorem Qx (n:Nat):EntryOk Tryz.prog gl (Px n):=za (wN n) fun xs y h=>na tys_ok (Rq n) mixed (hint:=Ws n) (n:=n) Tryz.func118 (Aa (lK n)) (la (φ:=(fun y=>some (Out.ret (qb (.one .bool) y)))) (by kernel_rfl) (dT n xs.1 _) h)
def Ln (n:Nat):List Entry:=Px n::Xo n
theorem Fp (n:Nat):AllOk Tryz.prog gl (Ln n):=.cons (Qx n) (Rq n)
def qk (n:Nat) {R:Type} (s suffix:BA) (k:Bool→Option R):Option R:=if (decide ((s.size:Int)≥(suffix.size:Int)))=true then if 0≤(IntKind.wrap .i64 ((s.size:Int) - (suffix.size:Int)))∧(IntKind.wrap .i64 ((s.size:Int) - (suffix.size:Int)))≤(s.size:Int) then k ((s.extract (Int.toNat (IntKind.wrap .i64 ((s.size:Int) - (suffix.size:Int)))) (Int.toNat (s.size:Int))).toList==suffix.toList) else none else k false
def Zk (n:Nat) (s suffix:BA):Option Bool:=qk n s suffix some
theorem ST (n:Nat) {S:Type}:∀ s suffix (φ:_→Option S),(Zk n s suffix).bind φ=qk n s suffix φ:=by
  intros;unfold Zk qk;first | (simp only [ja,aa,iB,bB,oL,oX,nB,Option.bind_some]) | rfl
def tt (n:Nat):Hint Out:={ live:=fun c=>[],run:=fun c=>none,xm:=fun c q=>none }
theorem IK (n:Nat):qa tys (ia Out (Ln n)) (tt n) n (fa Tryz.f141) 0:=ma (fun _=>rfl) _ _ (by kernel_rfl)
theorem LN (n:Nat):Enters Tryz.prog 141:=enters_of (c:=fa Tryz.f141) Tryz.func141 (by kernel_rfl) (by kernel_rfl)
def Sy (n:Nat):Entry:=⟨141,pcT (.pair .str (.pair .str .unit)) (.one .bool) (fun xs=>Zk n xs.1 xs.2.1),none,none⟩
theorem DQ (n:Nat):EntryOk Tryz.prog gl (Sy n):=za (LN n) fun xs y h=>na tys_ok (Fp n) mixed (hint:=tt n) (n:=n) Tryz.func141 (Aa (IK n)) (la (φ:=(fun y=>some (Out.ret (qb (.one .bool) y)))) (by kernel_rfl) (ST n xs.1 xs.2.1 _) h)
def io (n:Nat):List Entry:=Sy n::Ln n
theorem Tp (n:Nat):AllOk Tryz.prog gl (io n):=.cons (DQ n) (Fp n)
def Nk (n:Nat) {R:Type} (s suffix:BA) (k:Bool→Option R):Option R:=(Zk n s suffix).bind fun v=>k v
def Ge (n:Nat) (s suffix:BA):Option Bool:=Nk n s suffix some
theorem IU (n:Nat) {S:Type}:∀ s suffix (φ:_→Option S),(Ge n s suffix).bind φ=Nk n s suffix φ:=by
  intros;unfold Ge Nk;first | (simp only [ja,aa,iB,bB,oL,oX,nB,Option.bind_some]) | rfl
def mu (n:Nat):Hint Out:={ live:=fun c=>[],run:=fun c=>none,xm:=fun c q=>none }
theorem EL (n:Nat):qa tys (ia Out (io n)) (mu n) n (fa Tryz.f119) 0:=ma (fun _=>rfl) _ _ (by kernel_rfl)
theorem sO (n:Nat):Enters Tryz.prog 119:=enters_of (c:=fa Tryz.f119) Tryz.func119 (by kernel_rfl) (by kernel_rfl)
def cA (n:Nat):Entry:=⟨119,pcT (.pair .str (.pair .str .unit)) (.one .bool) (fun xs=>Ge n xs.1 xs.2.1),none,none⟩
theorem eA (n:Nat):EntryOk Tryz.prog gl (cA n):=za (sO n) fun xs y h=>na tys_ok (Tp n) mixed (hint:=mu n) (n:=n) Tryz.func119 (Aa (EL n)) (la (φ:=(fun y=>some (Out.ret (qb (.one .bool) y)))) (by kernel_rfl) (IU n xs.1 xs.2.1 _) h)
def dA (n:Nat):List Entry:=cA n::io n
theorem zJ (n:Nat):AllOk Tryz.prog gl (dA n):=.cons (eA n) (Tp n)
theorem EK:Tryz.prog.funcs[199]?=some Tryz.f199:=by kernel_rfl
theorem FK:EntryOk Tryz.prog gl ⟨199,Sf,some (.flat vab),none⟩:=g6 EK (by kernel_rfl) (by kernel_rfl) (by kernel_rfl) (by kernel_rfl)
def nt (n:Nat):List Entry:=⟨199,Sf,some (.flat vab),none⟩::dA n
theorem VB (n:Nat):AllOk Tryz.prog gl (nt n):=.cons FK (zJ n)
theorem Py:Tryz.prog.funcs[181]?=some Tryz.f181:=by kernel_rfl
theorem Qy:EntryOk Tryz.prog gl ⟨181,Sf,some (.flat OB),none⟩:=HQ Py (by kernel_rfl) (by kernel_rfl) (by kernel_rfl) (by kernel_rfl)
def dg (n:Nat):List Entry:=⟨181,Sf,some (.flat OB),none⟩::nt n
theorem li (n:Nat):AllOk Tryz.prog gl (dg n):=.cons Qy (VB n)
def zh (n:Nat) {R:Type} (s:BA) (c:Int) (k:Int→Option R):Option R:=k (Lib.indexByte s.data.toList (Nat.toUInt8 (Int.toNat c)))
def gg (n:Nat) (s:BA) (c:Int):Option Int:=zh n s c some
theorem TT (n:Nat) {S:Type}:∀ s c (φ:_→Option S),(gg n s c).bind φ=zh n s c φ:=by
  intros;unfold gg zh;first | (simp only [ja,aa,iB,bB,oL,oX,nB,Option.bind_some]) | rfl
def ut (n:Nat):Hint Out:={ live:=fun c=>[],run:=fun c=>none,xm:=fun c q=>none }
theorem JK (n:Nat):qa tys (ia Out (dg n)) (ut n) n (fa Tryz.f159) 0:=ma (fun _=>rfl) _ _ (by kernel_rfl)
theorem MN (n:Nat):Enters Tryz.prog 159:=enters_of (c:=fa Tryz.f159) Tryz.func159 (by kernel_rfl) (by kernel_rfl)
def Uy (n:Nat):Entry:=⟨159,pcT (.pair .str (.pair (.int .u8) .unit)) (.one (.int .i64)) (fun xs=>gg n xs.1 xs.2.1),none,none⟩
theorem EQ (n:Nat):EntryOk Tryz.prog gl (Uy n):=za (MN n) fun xs y h=>na tys_ok (li n) mixed (hint:=ut n) (n:=n) Tryz.func159 (Aa (JK n)) (la (φ:=(fun y=>some (Out.ret (qb (.one (.int .i64)) y)))) (by kernel_rfl) (TT n xs.1 xs.2.1 _) h)
def mo (n:Nat):List Entry:=Uy n::dg n
theorem Up (n:Nat):AllOk Tryz.prog gl (mo n):=.cons (EQ n) (li n)
def dB (n:Nat) {R:Type} (s substr:BA) (k:Int→Option R):Option R:=if ((substr.size:Int)==(0:Int))=false then if (substr.toList==s.toList)=true then k (0:Int) else if ((substr.size:Int)==(1:Int))=true then if 0≤(0:Int)∧(0:Int)<(substr.size:Int) then (gg n s (bt substr (0:Int))).bind fun v=>k v else none else if (decide ((substr.size:Int)≥(s.size:Int)))=true then k (-1:Int) else none else k (0:Int)
def xH (n:Nat) (s substr:BA):Option Int:=dB n s substr some
theorem kbb (n:Nat) {S:Type}:∀ s substr (φ:_→Option S),(xH n s substr).bind φ=dB n s substr φ:=by
  intros;unfold xH dB;first | (simp only [ja,aa,iB,bB,oL,oX,nB,Option.bind_some]) | rfl
def yH (n:Nat):Hint Out:={ live:=fun c=>[],run:=fun c=>none,xm:=fun c q=>none }
theorem aX (n:Nat):qa tys (ia Out (mo n)) (yH n) n (fa Tryz.f139) 0:=⟨trivial,⟨trivial,⟨⟨trivial,⟨⟨trivial,trivial⟩,⟨trivial,⟨⟨trivial,trivial⟩,⟨trivial,⟨⟨trivial,trivial⟩,⟨trivial,⟨⟨trivial,trivial⟩,trivial⟩⟩⟩⟩⟩⟩⟩⟩,⟨trivial,⟨trivial,⟨trivial,⟨trivial,⟨trivial,⟨⟨Pbb (by kernel_rfl),⟨⟨trivial,⟨trivial,trivial⟩⟩,⟨⟨trivial,⟨⟨trivial,⟨⟨trivial,⟨⟨trivial,trivial⟩,trivial⟩⟩,trivial⟩⟩,trivial⟩⟩,⟨⟨trivial,⟨⟨trivial,trivial⟩,trivial⟩⟩,⟨trivial,⟨trivial,⟨trivial,⟨⟨trivial,⟨⟨trivial,⟨⟨trivial,trivial⟩,trivial⟩⟩,⟨trivial,trivial⟩⟩⟩,⟨trivial,⟨⟨trivial,⟨⟨trivial,⟨⟨trivial,trivial⟩,trivial⟩⟩,⟨trivial,trivial⟩⟩⟩,trivial⟩⟩⟩⟩⟩⟩⟩⟩⟩⟩,⟨trivial,trivial⟩⟩⟩⟩⟩⟩⟩⟩⟩⟩
theorem x0 (n:Nat):Enters Tryz.prog 139:=enters_of (c:=fa Tryz.f139) Tryz.func139 (by kernel_rfl) (by kernel_rfl)
def FQ (n:Nat):Entry:=⟨139,pcT (.pair .str (.pair .str .unit)) (.one (.int .i64)) (fun xs=>xH n xs.1 xs.2.1),none,none⟩
theorem u6 (n:Nat):EntryOk Tryz.prog gl (FQ n):=za (x0 n) fun xs y h=>na tys_ok (Up n) mixed (hint:=yH n) (n:=n) Tryz.func139 (Aa (aX n)) (la (φ:=(fun y=>some (Out.ret (qb (.one (.int .i64)) y)))) (by kernel_rfl) (kbb n xs.1 xs.2.1 _) h)
def nE (n:Nat):List Entry:=FQ n::mo n
theorem ZC (n:Nat):AllOk Tryz.prog gl (nE n):=.cons (u6 n) (Up n)
def IB (n:Nat) {R:Type} (s substr:BA) (k:Int→Option R):Option R:=(xH n s substr).bind fun v=>k v
def Pk (n:Nat) (s substr:BA):Option Int:=IB n s substr some
theorem Xbb (n:Nat) {S:Type}:∀ s substr (φ:_→Option S),(Pk n s substr).bind φ=IB n s substr φ:=by
  intros;unfold Pk IB;first | (simp only [ja,aa,iB,bB,oL,oX,nB,Option.bind_some]) | rfl
def AJ (n:Nat):Hint Out:={ live:=fun c=>[],run:=fun c=>none,xm:=fun c q=>none }
theorem pY (n:Nat):qa tys (ia Out (nE n)) (AJ n) n (fa Tryz.f117) 0:=ma (fun _=>rfl) _ _ (by kernel_rfl)
theorem H3 (n:Nat):Enters Tryz.prog 117:=enters_of (c:=fa Tryz.f117) Tryz.func117 (by kernel_rfl) (by kernel_rfl)
def mS (n:Nat):Entry:=⟨117,pcT (.pair .str (.pair .str .unit)) (.one (.int .i64)) (fun xs=>Pk n xs.1 xs.2.1),none,none⟩
theorem nS (n:Nat):EntryOk Tryz.prog gl (mS n):=za (H3 n) fun xs y h=>na tys_ok (ZC n) mixed (hint:=AJ n) (n:=n) Tryz.func117 (Aa (pY n)) (la (φ:=(fun y=>some (Out.ret (qb (.one (.int .i64)) y)))) (by kernel_rfl) (Xbb n xs.1 xs.2.1 _) h)
def Zo (n:Nat):List Entry:=mS n::nE n
theorem MD (n:Nat):AllOk Tryz.prog gl (Zo n):=.cons (nS n) (ZC n)
def Wv (n:Nat) {R:Type} (s1 substr1:BA) (n0:Int) (kn:BA→BA→Int→Option R) (ko:Unit→Option R) (kr:(Int)→Option R) (kp:Int→Option R):Option R:=(Pk n s1 substr1).bind fun v=>if (v==(-1:Int))=true then kr n0 else if 0≤(IntKind.wrap .i64 (v+(substr1.size:Int)))∧(IntKind.wrap .i64 (v+(substr1.size:Int)))≤(s1.size:Int) then kn (s1.extract (Int.toNat (IntKind.wrap .i64 (v+(substr1.size:Int)))) (Int.toNat (s1.size:Int))) substr1 (IntKind.wrap .i64 (n0+(1:Int))) else none
def yg (n:Nat):Nat→BA→BA→Int→Option (Lx Unit (Int))
 | 0,_,_,_=>none
 | m+1,s1,substr1,n0=>Wv n s1 substr1 n0 (yg n m) (fun a=>some (.out a)) (fun a=>some (.ret a)) (fun p=>some (.pan p))
theorem nY (n m:Nat) {S:Type}:∀ s1 substr1 n0 (φ:_→Option S),(yg n (m+1) s1 substr1 n0).bind φ=Wv n s1 substr1 n0 (fun s1 substr1 n0=>(yg n m s1 substr1 n0).bind φ) (fun a=>φ (.out a)) (fun a=>φ (.ret a)) (fun p=>φ (.pan p)):=by
  intros;first | (simp only [yg,Wv,ja,aa,iB,bB,oL,oX,nB,Option.bind_some]) | rfl
def Ls:List Sl:=.dat .str::.dat .str::.top::.top::.top::.dat (.int .i64)::tp 28 []
def Ks:List RS:=[]
def yJ:List Sl:=tp 4 (.dat (.int .i64)::tp 29 [])
def xJ:List RS:=[]
def qf (K:XE→List AV→oa→Option Out):Lx Unit (Int)→Option Out:=fun x=>onL x (fun _=>none) (fun a=>tc yJ xJ (a,()) () (K .ret)) (fun _=>none)
def GB (n:Nat) {R:Type} (s substr:BA) (k:Int→Option R):Option R:=if ((substr.size:Int)==(0:Int))=true then none else if ((substr.size:Int)==(1:Int))=true then if 0≤(0:Int)∧(0:Int)<(substr.size:Int) then k ((Lib.countByte s.data.toList (Nat.toUInt8 (Int.toNat (bt substr (0:Int)))):Nat):Int) else none else (yg n n s substr (0:Int)).bind fun x_1=>onL x_1 (fun _=>none) (fun a_2=>k a_2) (fun _=>none)
def FB (n:Nat) (s substr:BA):Option Int:=GB n s substr some
theorem Wbb (n:Nat) {S:Type}:∀ s substr (φ:_→Option S),(FB n s substr).bind φ=GB n s substr φ:=by
  intros;unfold FB GB;first | (simp only [ja,aa,iB,bB,oL,oX,nB,Option.bind_some]) | rfl
def vn (n:Nat):Hint Out:={ live:=fun c=>(cond (Nat.beq c 0) (lv [0,1,5]) []),run:=fun c=>(cond (Nat.beq c 0) (some (Zg Ls Ks fun σ ρ K=>(yg n n σ.1 σ.2.1 σ.2.2.1).bind (qf K))) none),xm:=fun c q=>(cond (Nat.beq c 1&&q.isNone) (some [(4,none)]) none) }
def un (n:Nat) (K:XE→List AV→oa→Option Out) (m:Nat) (s1:BA) (substr1:BA) (n0:Int):Option Out:=Nc tys (ia Out (Zo n)) (vn n) n (wa [1,1,1,1,0,0] (fa Tryz.f184)) 0 Ls Ks K m (s1,(substr1,(n0,()))) ()
theorem wJ (n:Nat) (K:XE→List AV→oa→Option Out):∀ (m:Nat) s1 substr1 n0,un n K m s1 substr1 n0=(yg n m s1 substr1 n0).bind (qf K)
  | 0,_,_,_=>by kernel_rfl
  | m+1,s1,substr1,n0=>by
    have h1:un n K (m+1) s1 substr1 n0=Wv n s1 substr1 n0 (un n K m) (fun a=>qf K (.out a)) (fun a=>qf K (.ret a)) (fun p=>qf K (.pan p)):=by kernel_rfl
    have h2:un n K m=fun s1 substr1 n0=>(yg n m s1 substr1 n0).bind (qf K):=by
      repeat (refine funext fun _=>?_)
      exact wJ n K m _ _ _
    rw [h1,h2];exact (nY n m _ _ _ (qf K)).symm
theorem GU (n:Nat):Bc tys (ia Out (Zo n)) (vn n) n (wa [1,1,1,1,0,0] (fa Tryz.f184)) 0:=Ea (sp:=Ls) (rp:=Ks) (by kernel_rfl) fun K σ ρ=>wJ n K n σ.1 σ.2.1 σ.2.2.1
theorem oY (n:Nat):qa tys (ia Out (Zo n)) (vn n) n (fa Tryz.f184) 0:=⟨trivial,⟨⟨trivial,⟨⟨trivial,trivial⟩,trivial⟩⟩,⟨⟨trivial,⟨⟨trivial,trivial⟩,trivial⟩⟩,⟨trivial,⟨GU n,⟨trivial,⟨⟨trivial,⟨⟨trivial,trivial⟩,trivial⟩⟩,⟨trivial,trivial⟩⟩⟩⟩⟩⟩⟩⟩
theorem G3 (n:Nat):Enters Tryz.prog 184:=enters_of (c:=fa Tryz.f184) Tryz.func184 (by kernel_rfl) (by kernel_rfl)
def jS (n:Nat):Entry:=⟨184,pcT (.pair .str (.pair .str .unit)) (.one (.int .i64)) (fun xs=>FB n xs.1 xs.2.1),none,none⟩
theorem M7 (n:Nat):EntryOk Tryz.prog gl (jS n):=za (G3 n) fun xs y h=>na tys_ok (MD n) mixed (hint:=vn n) (n:=n) Tryz.func184 (Aa (oY n)) (la (φ:=(fun y=>some (Out.ret (qb (.one (.int .i64)) y)))) (by kernel_rfl) (Wbb n xs.1 xs.2.1 _) h)
def Wo (n:Nat):List Entry:=jS n::Zo n
theorem LD (n:Nat):AllOk Tryz.prog gl (Wo n):=.cons (M7 n) (MD n)
end
end Go.Proofs.YtdohilmgblkppaaGreatDoor.AM
