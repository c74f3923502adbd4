/- Typed functions that tell what the Go functions of this seat answer, and proofs of it, by program (gen.py). -/
import Derived.Test.YtdhehcnfkcibiaaGreatDoorXT
import Derived.Test.YtdhehcnfkcibiaaGreatDoorXB
import Derived.Test.YtdhehcnfkcibiaaGreatDoorXL
import Derived.Test.YtdhehcnfkcibiaaGreatDoorXM
import Derived.Test.YtdhehcnfkcibiaaGreatDoorXN
set_option linter.all false
set_option linter.unusedVariables false
set_option linter.unusedSimpArgs false
set_option maxRecDepth 1000000
set_option maxHeartbeats 0
namespace Go.Proofs.YtdhehcnfkcibiaaGreatDoor.AM
open Go Go.RowKit
noncomputable section
abbrev K0:CTy:=(.pair (.pair .str (.pair .str .unit)) (.pair (.int .i64) (.pair (.int .i64) (.pair (.int .i64) (.pair (.int .i64) .unit)))))
abbrev K1:CTy:=(.pair (.int .i64) (.pair (.int .i64) (.pair .bool (.pair (.pair .str (.pair .str .unit)) (.pair (.sl K0) (.pair .str (.pair (.int .i64) (.pair .bool (.pair .bool .unit)))))))))
abbrev K2:CTy:=(.pair K1 .unit)
abbrev K3:CTy:=(.pair (.int .i64) (.pair (.sl K1) .unit))
abbrev K4:CTy:=(.pair K3 .unit)
abbrev K5:CTy:=(.pair (.int .i64) (.pair (.int .i64) (.pair (.int .i64) (.pair (.int .i64) (.pair (.int .i64) .unit)))))
abbrev K6:CTy:=(.pair .str (.pair (.int .i64) (.pair (.int .i64) (.pair (.int .i64) (.pair K5 (.pair .bool .unit))))))
abbrev K7:CTy:=(.pair (.sl K6) (.pair .str (.pair (.int .i64) (.pair (.int .i64) (.pair (.sl (.int .i64)) (.pair (.int .i64) (.pair (.int .i64) (.pair (.flt .f64) .unit))))))))
abbrev K8:CTy:=(.pair K7 .unit)
abbrev K9:CTy:=(.pair (.int .i64) (.pair (.int .i64) (.pair (.int .i64) (.pair K1 (.pair .bool .unit)))))
abbrev K10:CTy:=(.pair K3 (.pair K7 (.pair (.sl K9) .unit)))
abbrev K11:CTy:=(.pair K10 .unit)
abbrev K12:CTy:=(.pair K5 .unit)
abbrev K13:CTy:=(.pair .str (.pair .str (.pair (.int .i64) (.pair (.int .i64) .unit))))
abbrev K14:CTy:=(.pair K0 .unit)
abbrev K15:CTy:=(.pair (.sl K0) .unit)
abbrev K16:CTy:=(.pair K6 .unit)
abbrev K17:CTy:=(.pair K1 (.pair (.sl (.int .i64)) .unit))
abbrev K18:CTy:=(.pair K3 (.pair (.int .i64) .unit))
abbrev K19:CTy:=(.pair K3 (.pair K7 (.pair (.int .i64) (.pair (.int .i64) .unit))))
abbrev K20:CTy:=(.pair K3 (.pair K7 (.pair K1 .unit)))
abbrev K21:CTy:=(.pair (.sl K1) .unit)
abbrev K22:CTy:=(.pair (.sl K6) .unit)
abbrev K23:CTy:=(.pair K1 (.pair (.int .i64) .unit))
abbrev K24:CTy:=(.pair (.sl K0) (.pair (.sl K0) .unit))
abbrev K25:CTy:=(.pair K1 (.pair K1 .unit))
abbrev K26:CTy:=(.pair (.sl K1) (.pair (.sl K1) .unit))
abbrev K27:CTy:=(.pair K3 (.pair K3 .unit))
abbrev K28:CTy:=(.pair (.sl K6) (.pair (.sl K6) .unit))
abbrev K29:CTy:=(.pair K7 (.pair K7 .unit))
abbrev K30:CTy:=(.pair K3 (.pair .bool .unit))
abbrev K31:CTy:=(.pair K3 (.pair K7 (.pair K9 .unit)))
abbrev K32:CTy:=(.pair K10 (.pair (.int .i64) .unit))
abbrev U2:Type:=(BA×(BA×Unit))
abbrev U3:Type:=(Int×(Int×(Int×(Int×Unit))))
abbrev T0:Type:=(U2×U3)
abbrev T1:Type:=(Int×(Int×(Bool×(U2×((Sq T0)×(BA×(Int×(Bool×(Bool×Unit)))))))))
abbrev T2:Type:=(BA×(Int×(Int×(Int×((Int×U3)×(Bool×Unit))))))
abbrev T3:Type:=((Sq T2)×(BA×(Int×(Int×((Sq Int)×(Int×(Int×(Nat×Unit))))))))
abbrev U0:Type:=(Sq (Int×(Int×(Int×(T1×(Bool×Unit))))))
abbrev U1:Type:=(Int×((Sq T1)×Unit))
abbrev T4:Type:=(U1×(T3×(U0×Unit)))
abbrev U4:Type:=(Int×Int×Int×Int×BA×Int×Int×Int×Int×Int×Int×Int×Int×Bool)
abbrev U5:Type:=(Int×Int×Bool×BA×BA×BA×Int×Bool×Bool×Int×(Sq T0)×Unit)
abbrev U6:Type:=(Int×Int×Bool×BA×BA×BA×Int×Bool×Bool×(Sq T0)×Unit)
abbrev U7:Type:=(Int×Int×Int×Bool×BA×BA×(Sq T0)×BA×Int×Bool×Bool)
abbrev U8:Type:=(Int×Int×Bool×BA×BA×(Sq T0)×BA×Int×Bool×Bool)
abbrev U9:Type:=((Sq Int)×Unit)
abbrev U10:Type:=(Int×Bool×Unit)
abbrev U11:Type:=(BA×Int×(Sq BA))
def Yjb (n:Nat):List Entry:=[]
theorem wcb (n:Nat):AllOk Tryz.prog gl (Yjb n):=.nil
def pg (n:Nat) {R:Type} (n0 i m01 m02:Int) (m03:Bool) (m04 m05:BA) (m06:(Sq T0)) (m07:BA) (m08:Int) (m09 m010:Bool) (kn:Int→Int→Int→Int→Bool→BA→BA→(Sq T0)→BA→Int→Bool→Bool→Option R) (ko:(Int)→Option R) (kr:Unit→Option R) (kp:Int→Option R):Option R:=if (decide (i<(m06.n:Int)))=true then if (decide (n0<(1048576:Int)))=true then if 0≤i∧i<(m06.n:Int) then if 0≤i∧i<(m06.n:Int) then kn (IntKind.wrap .i64 ((IntKind.wrap .i64 ((IntKind.wrap .i64 (n0+(1:Int)))+(((((m06.at' (Int.toNat i))).1).1).size:Int)))+((((((m06.at' (Int.toNat i))).1).2).1).size:Int))) (IntKind.wrap .i64 (i+(1:Int))) m01 m02 m03 m04 m05 m06 m07 m08 m09 m010 else none else none else ko n0 else ko n0
def ac (n:Nat):Nat→Int→Int→Int→Int→Bool→BA→BA→(Sq T0)→BA→Int→Bool→Bool→Option (Lx (Int) Unit)
 | 0,_,_,_,_,_,_,_,_,_,_,_,_=>none
 | m+1,n0,i,m01,m02,m03,m04,m05,m06,m07,m08,m09,m010=>pg n n0 i m01 m02 m03 m04 m05 m06 m07 m08 m09 m010 (ac n m) (fun a=>some (.out a)) (fun a=>some (.ret a)) (fun p=>some (.pan p))
theorem QN (n m:Nat) {S:Type}:∀ n0 i m01 m02 m03 m04 m05 m06 m07 m08 m09 m010 (φ:_→Option S),(ac n (m+1) n0 i m01 m02 m03 m04 m05 m06 m07 m08 m09 m010).bind φ=pg n n0 i m01 m02 m03 m04 m05 m06 m07 m08 m09 m010 (fun n0 i m01 m02 m03 m04 m05 m06 m07 m08 m09 m010=>(ac n m n0 i m01 m02 m03 m04 m05 m06 m07 m08 m09 m010).bind φ) (fun a=>φ (.out a)) (fun a=>φ (.ret a)) (fun p=>φ (.pan p)):=by
  intros;first | (simp only [ac,pg,fa,ba,iB,bB,oL,oX,nB,Option.bind_some]) | rfl
def Nm:List Sl:=.top::.ptr 0 0 0::.top::.dat (.int .i64)::.dat (.int .i64)::tp 45 []
def Mm:List RS:=[.box 59 10 true [.dat (.int .i64),.dat (.int .i64),.dat .bool,.dat .str,.dat .str,.dat (.sl K0),.dat .str,.dat (.int .i64),.dat .bool,.dat .bool]]
def BC:List Sl:=.top::.top::.top::.dat (.int .i64)::tp 46 []
def AC:List RS:=[]
def Md (K:XE→List AV→ia→Option Out):Lx (Int) Unit→Option Out:=fun x=>onL x (fun a=>Ye BC AC (a,()) () (K (.exit 0))) (fun _=>none) (fun _=>none)
def Ro (n:Nat) {R:Type} (m0:T1) (k:Int→Option R):Option R:=(ac n n (IntKind.wrap .i64 ((IntKind.wrap .i64 ((m0.2.2.2.2.2.1.size:Int)+(m0.2.2.2.1.1.size:Int)))+(m0.2.2.2.1.2.1.size:Int))) (0:Int) m0.1 m0.2.1 m0.2.2.1 m0.2.2.2.1.1 m0.2.2.2.1.2.1 m0.2.2.2.2.1 m0.2.2.2.2.2.1 m0.2.2.2.2.2.2.1 m0.2.2.2.2.2.2.2.1 m0.2.2.2.2.2.2.2.2.1).bind fun x_1=>onL x_1 (fun a_2=>k a_2) (fun _=>none) (fun _=>none)
def Ti (n:Nat) (m0:T1):Option Int:=Ro n m0 some
theorem fV (n:Nat) {S:Type}:∀ m0 (φ:_→Option S),(Ti n m0).bind φ=Ro n m0 φ:=by
  intros;unfold Ti Ro;first | (simp only [fa,ba,iB,bB,oL,oX,nB,Option.bind_some]) | rfl
def Jj (n:Nat):Hint Out:={ live:=fun c=>(cond (Nat.beq c 0) (lv [1,3,4]) []),run:=fun c=>(cond (Nat.beq c 0) (some (Zl Nm Mm fun σ ρ K=>(ac n n σ.1 σ.2.1 ρ.1.1 ρ.1.2.1 ρ.1.2.2.1 ρ.1.2.2.2.1 ρ.1.2.2.2.2.1 ρ.1.2.2.2.2.2.1 ρ.1.2.2.2.2.2.2.1 ρ.1.2.2.2.2.2.2.2.1 ρ.1.2.2.2.2.2.2.2.2.1 ρ.1.2.2.2.2.2.2.2.2.2.1).bind (Md K))) none),xm:=fun c q=>(cond (Nat.beq c 0&&Nat.beq (q.getD 1000000) 0&&q.isSome) (some [(3,none)]) none) }
def Ij (n:Nat) (K:XE→List AV→ia→Option Out) (m:Nat) (n0:Int) (i:Int) (m01:Int) (m02:Int) (m03:Bool) (m04:BA) (m05:BA) (m06:(Sq T0)) (m07:BA) (m08:Int) (m09:Bool) (m010:Bool):Option Out:=rd tys (da Out (Yjb n)) (Jj n) n (ta [1,1,0,1,0,0] (aa Tryz.f80)) 0 Nm Mm K m (n0,(i,())) ((m01,(m02,(m03,(m04,(m05,(m06,(m07,(m08,(m09,(m010,())))))))))),())
theorem dy (n:Nat) (K:XE→List AV→ia→Option Out):∀ (m:Nat) n0 i m01 m02 m03 m04 m05 m06 m07 m08 m09 m010,Ij n K m n0 i m01 m02 m03 m04 m05 m06 m07 m08 m09 m010=(ac n m n0 i m01 m02 m03 m04 m05 m06 m07 m08 m09 m010).bind (Md K)
  | 0,_,_,_,_,_,_,_,_,_,_,_,_=>by kernel_rfl
  | m+1,n0,i,m01,m02,m03,m04,m05,m06,m07,m08,m09,m010=>by
    have h1:Ij n K (m+1) n0 i m01 m02 m03 m04 m05 m06 m07 m08 m09 m010=pg n n0 i m01 m02 m03 m04 m05 m06 m07 m08 m09 m010 (Ij n K m) (fun a=>Md K (.out a)) (fun a=>Md K (.ret a)) (fun p=>Md K (.pan p)):=by kernel_rfl
    have h2:Ij n K m=fun n0 i m01 m02 m03 m04 m05 m06 m07 m08 m09 m010=>(ac n m n0 i m01 m02 m03 m04 m05 m06 m07 m08 m09 m010).bind (Md K):=by
      repeat (refine funext fun _=>?_)
      exact dy n K m _ _ _ _ _ _ _ _ _ _ _ _
    rw [h1,h2];exact (QN n m _ _ _ _ _ _ _ _ _ _ _ _ (Md K)).symm
theorem AK (n:Nat):Vc tys (da Out (Yjb n)) (Jj n) n (ta [1,1,0,1,0,0] (aa Tryz.f80)) 0:=Ca (sp:=Nm) (rp:=Mm) (by kernel_rfl) fun K σ ρ=>dy n K n σ.1 σ.2.1 ρ.1.1 ρ.1.2.1 ρ.1.2.2.1 ρ.1.2.2.2.1 ρ.1.2.2.2.2.1 ρ.1.2.2.2.2.2.1 ρ.1.2.2.2.2.2.2.1 ρ.1.2.2.2.2.2.2.2.1 ρ.1.2.2.2.2.2.2.2.2.1 ρ.1.2.2.2.2.2.2.2.2.2.1
theorem RN (n:Nat):qa tys (da Out (Yjb n)) (Jj n) n (aa Tryz.f80) 0:=⟨trivial,⟨trivial,⟨⟨trivial,⟨AK n,⟨⟨trivial,⟨trivial,trivial⟩⟩,⟨trivial,trivial⟩⟩⟩⟩,⟨trivial,trivial⟩⟩⟩⟩
theorem TP (n:Nat):Enters Tryz.prog 80:=enters_of (c:=aa Tryz.f80) Tryz.func80 (by kernel_rfl) (by kernel_rfl)
def mD (n:Nat):Entry:=⟨80,pcT K2 (.one (.int .i64)) (fun xs=>Ti n xs.1),none,none⟩
theorem XR (n:Nat):EntryOk Tryz.prog gl (mD n):=wa (TP n) fun xs y h=>ja tys_ok (wcb n) mixed (hint:=Jj n) (n:=n) Tryz.func80 (Ea (RN n)) (ma (φ:=(fun y=>some (Out.ret (Uc (.one (.int .i64)) y)))) (by kernel_rfl) (fV n xs.1 _) h)
def ij (n:Nat):List Entry:=mD n::Yjb n
theorem iw (n:Nat):AllOk Tryz.prog gl (ij n):=.cons (XR n) (wcb n)
def Df (n:Nat) {R:Type} (n0 i s1:Int) (s2:(Sq T1)) (kn:Int→Int→Int→(Sq T1)→Option R) (ko:(Int)→Option R) (kr:Unit→Option R) (kp:Int→Option R):Option R:=if (decide (i<(s2.n:Int)))=true then if (decide (n0<(1048576:Int)))=true then if 0≤i∧i<(s2.n:Int) then (Ti n (((s2.at' (Int.toNat i))).1,((((s2.at' (Int.toNat i))).2).1,(((((s2.at' (Int.toNat i))).2).2).1,((((((((s2.at' (Int.toNat i))).2).2).2).1).1,((((((((s2.at' (Int.toNat i))).2).2).2).1).2).1,())),((((((((s2.at' (Int.toNat i))).2).2).2).2).1),((((((((s2.at' (Int.toNat i))).2).2).2).2).2).1,(((((((((s2.at' (Int.toNat i))).2).2).2).2).2).2).1,((((((((((s2.at' (Int.toNat i))).2).2).2).2).2).2).2).1,(((((((((((s2.at' (Int.toNat i))).2).2).2).2).2).2).2).2).1,())))))))))).bind fun v=>kn (IntKind.wrap .i64 (n0+v)) (IntKind.wrap .i64 (i+(1:Int))) s1 s2 else none else ko n0 else ko n0
def Mb (n:Nat):Nat→Int→Int→Int→(Sq T1)→Option (Lx (Int) Unit)
 | 0,_,_,_,_=>none
 | m+1,n0,i,s1,s2=>Df n n0 i s1 s2 (Mb n m) (fun a=>some (.out a)) (fun a=>some (.ret a)) (fun p=>some (.pan p))
theorem BK (n m:Nat) {S:Type}:∀ n0 i s1 s2 (φ:_→Option S),(Mb n (m+1) n0 i s1 s2).bind φ=Df n n0 i s1 s2 (fun n0 i s1 s2=>(Mb n m n0 i s1 s2).bind φ) (fun a=>φ (.out a)) (fun a=>φ (.ret a)) (fun p=>φ (.pan p)):=by
  intros;first | (simp only [Mb,Df,fa,ba,iB,bB,oL,oX,nB,Option.bind_some]) | rfl
def bm:List Sl:=.top::.ptr 0 0 0::.top::.dat (.int .i64)::.dat (.int .i64)::tp 23 []
def am:List RS:=[.box 24 2 true [.dat (.int .i64),.dat (.sl K1)]]
def wB:List Sl:=.top::.top::.top::.dat (.int .i64)::tp 24 []
def vB:List RS:=[]
def jd (K:XE→List AV→ia→Option Out):Lx (Int) Unit→Option Out:=fun x=>onL x (fun a=>Ye wB vB (a,()) () (K (.exit 0))) (fun _=>none) (fun _=>none)
def Em (n:Nat) {R:Type} (s:U1) (k:Int→Option R):Option R:=(Mb n n (s.2.1.n:Int) (0:Int) s.1 s.2.1).bind fun x_1=>onL x_1 (fun a_2=>k a_2) (fun _=>none) (fun _=>none)
def sj (n:Nat) (s:U1):Option Int:=Em n s some
theorem ZR (n:Nat) {S:Type}:∀ s (φ:_→Option S),(sj n s).bind φ=Em n s φ:=by
  intros;unfold sj Em;first | (simp only [fa,ba,iB,bB,oL,oX,nB,Option.bind_some]) | rfl
def Vi (n:Nat):Hint Out:={ live:=fun c=>(cond (Nat.beq c 0) (lv [1,3,4]) []),run:=fun c=>(cond (Nat.beq c 0) (some (Zl bm am fun σ ρ K=>(Mb n n σ.1 σ.2.1 ρ.1.1 ρ.1.2.1).bind (jd K))) none),xm:=fun c q=>(cond (Nat.beq c 0&&Nat.beq (q.getD 1000000) 0&&q.isSome) (some [(3,none)]) none) }
def Ui (n:Nat) (K:XE→List AV→ia→Option Out) (m:Nat) (n0:Int) (i:Int) (s1:Int) (s2:(Sq T1)):Option Out:=rd tys (da Out (ij n)) (Vi n) n (ta [1,1,0,1,0,0] (aa Tryz.f57)) 0 bm am K m (n0,(i,())) ((s1,(s2,())),())
theorem jw (n:Nat) (K:XE→List AV→ia→Option Out):∀ (m:Nat) n0 i s1 s2,Ui n K m n0 i s1 s2=(Mb n m n0 i s1 s2).bind (jd K)
  | 0,_,_,_,_=>by kernel_rfl
  | m+1,n0,i,s1,s2=>by
    have h1:Ui n K (m+1) n0 i s1 s2=Df n n0 i s1 s2 (Ui n K m) (fun a=>jd K (.out a)) (fun a=>jd K (.ret a)) (fun p=>jd K (.pan p)):=by kernel_rfl
    have h2:Ui n K m=fun n0 i s1 s2=>(Mb n m n0 i s1 s2).bind (jd K):=by
      repeat (refine funext fun _=>?_)
      exact jw n K m _ _ _ _
    rw [h1,h2];exact (BK n m _ _ _ _ (jd K)).symm
theorem cI (n:Nat):Vc tys (da Out (ij n)) (Vi n) n (ta [1,1,0,1,0,0] (aa Tryz.f57)) 0:=Ca (sp:=bm) (rp:=am) (by kernel_rfl) fun K σ ρ=>jw n K n σ.1 σ.2.1 ρ.1.1 ρ.1.2.1
theorem CK (n:Nat):qa tys (da Out (ij n)) (Vi n) n (aa Tryz.f57) 0:=⟨trivial,⟨trivial,⟨⟨trivial,⟨cI n,⟨⟨trivial,⟨trivial,trivial⟩⟩,⟨trivial,trivial⟩⟩⟩⟩,⟨trivial,trivial⟩⟩⟩⟩
theorem UN (n:Nat):Enters Tryz.prog 57:=enters_of (c:=aa Tryz.f57) Tryz.func57 (by kernel_rfl) (by kernel_rfl)
def xB (n:Nat):Entry:=⟨57,pcT K4 (.one (.int .i64)) (fun xs=>sj n xs.1),none,none⟩
theorem UP (n:Nat):EntryOk Tryz.prog gl (xB n):=wa (UN n) fun xs y h=>ja tys_ok (iw n) mixed (hint:=Vi n) (n:=n) Tryz.func57 (Ea (CK n)) (ma (φ:=(fun y=>some (Out.ret (Uc (.one (.int .i64)) y)))) (by kernel_rfl) (ZR n xs.1 _) h)
def Ph (n:Nat):List Entry:=xB n::ij n
theorem Ws (n:Nat):AllOk Tryz.prog gl (Ph n):=.cons (UP n) (iw n)
def Pe (n:Nat) {R:Type} (n0 i:Int) (c1:(Sq T2)) (c2:BA) (c3 c4:Int) (c5:(Sq Int)) (c6 c7:Int) (c8:Nat) (kn:Int→Int→(Sq T2)→BA→Int→Int→(Sq Int)→Int→Int→Nat→Option R) (ko:(Int)→Option R) (kr:Unit→Option R) (kp:Int→Option R):Option R:=if (decide (i<(c1.n:Int)))=true then if (decide (n0<(1048576:Int)))=true then if 0≤i∧i<(c1.n:Int) then kn (IntKind.wrap .i64 (n0+((((c1.at' (Int.toNat i))).1).size:Int))) (IntKind.wrap .i64 (i+(1:Int))) c1 c2 c3 c4 c5 c6 c7 c8 else none else ko n0 else ko n0
def Eb (n:Nat):Nat→Int→Int→(Sq T2)→BA→Int→Int→(Sq Int)→Int→Int→Nat→Option (Lx (Int) Unit)
 | 0,_,_,_,_,_,_,_,_,_,_=>none
 | m+1,n0,i,c1,c2,c3,c4,c5,c6,c7,c8=>Pe n n0 i c1 c2 c3 c4 c5 c6 c7 c8 (Eb n m) (fun a=>some (.out a)) (fun a=>some (.ret a)) (fun p=>some (.pan p))
theorem YH (n m:Nat) {S:Type}:∀ n0 i c1 c2 c3 c4 c5 c6 c7 c8 (φ:_→Option S),(Eb n (m+1) n0 i c1 c2 c3 c4 c5 c6 c7 c8).bind φ=Pe n n0 i c1 c2 c3 c4 c5 c6 c7 c8 (fun n0 i c1 c2 c3 c4 c5 c6 c7 c8=>(Eb n m n0 i c1 c2 c3 c4 c5 c6 c7 c8).bind φ) (fun a=>φ (.out a)) (fun a=>φ (.ret a)) (fun p=>φ (.pan p)):=by
  intros;first | (simp only [Eb,Pe,fa,ba,iB,bB,oL,oX,nB,Option.bind_some]) | rfl
def Kk:List Sl:=.top::.ptr 0 0 0::.top::.dat (.int .i64)::.dat (.int .i64)::tp 32 []
def Jk:List RS:=[.box 29 8 true [.dat (.sl K6),.dat .str,.dat (.int .i64),.dat (.int .i64),.dat (.sl (.int .i64)),.dat (.int .i64),.dat (.int .i64),.dat (.flt .f64)]]
def Vz:List Sl:=.top::.top::.top::.dat (.int .i64)::tp 33 []
def Uz:List RS:=[]
def Pc (K:XE→List AV→ia→Option Out):Lx (Int) Unit→Option Out:=fun x=>onL x (fun a=>Ye Vz Uz (a,()) () (K (.exit 0))) (fun _=>none) (fun _=>none)
def Hl (n:Nat) {R:Type} (c:T3) (k:Int→Option R):Option R:=(Eb n n (IntKind.wrap .i64 ((IntKind.wrap .i64 ((c.2.1.size:Int)+(c.2.2.2.2.1.n:Int)))+(c.1.n:Int))) (0:Int) c.1 c.2.1 c.2.2.1 c.2.2.2.1 c.2.2.2.2.1 c.2.2.2.2.2.1 c.2.2.2.2.2.2.1 c.2.2.2.2.2.2.2.1).bind fun x_1=>onL x_1 (fun a_2=>k a_2) (fun _=>none) (fun _=>none)
def Oh (n:Nat) (c:T3):Option Int:=Hl n c some
theorem SP (n:Nat) {S:Type}:∀ c (φ:_→Option S),(Oh n c).bind φ=Hl n c φ:=by
  intros;unfold Oh Hl;first | (simp only [fa,ba,iB,bB,oL,oX,nB,Option.bind_some]) | rfl
def mh (n:Nat):Hint Out:={ live:=fun c=>(cond (Nat.beq c 0) (lv [1,3,4]) []),run:=fun c=>(cond (Nat.beq c 0) (some (Zl Kk Jk fun σ ρ K=>(Eb n n σ.1 σ.2.1 ρ.1.1 ρ.1.2.1 ρ.1.2.2.1 ρ.1.2.2.2.1 ρ.1.2.2.2.2.1 ρ.1.2.2.2.2.2.1 ρ.1.2.2.2.2.2.2.1 ρ.1.2.2.2.2.2.2.2.1).bind (Pc K))) none),xm:=fun c q=>(cond (Nat.beq c 0&&Nat.beq (q.getD 1000000) 0&&q.isSome) (some [(3,none)]) none) }
def lh (n:Nat) (K:XE→List AV→ia→Option Out) (m:Nat) (n0:Int) (i:Int) (c1:(Sq T2)) (c2:BA) (c3:Int) (c4:Int) (c5:(Sq Int)) (c6:Int) (c7:Int) (c8:Nat):Option Out:=rd tys (da Out (Ph n)) (mh n) n (ta [1,1,0,1,0,0] (aa Tryz.f58)) 0 Kk Jk K m (n0,(i,())) ((c1,(c2,(c3,(c4,(c5,(c6,(c7,(c8,())))))))),())
theorem Vs (n:Nat) (K:XE→List AV→ia→Option Out):∀ (m:Nat) n0 i c1 c2 c3 c4 c5 c6 c7 c8,lh n K m n0 i c1 c2 c3 c4 c5 c6 c7 c8=(Eb n m n0 i c1 c2 c3 c4 c5 c6 c7 c8).bind (Pc K)
  | 0,_,_,_,_,_,_,_,_,_,_=>by kernel_rfl
  | m+1,n0,i,c1,c2,c3,c4,c5,c6,c7,c8=>by
    have h1:lh n K (m+1) n0 i c1 c2 c3 c4 c5 c6 c7 c8=Pe n n0 i c1 c2 c3 c4 c5 c6 c7 c8 (lh n K m) (fun a=>Pc K (.out a)) (fun a=>Pc K (.ret a)) (fun p=>Pc K (.pan p)):=by kernel_rfl
    have h2:lh n K m=fun n0 i c1 c2 c3 c4 c5 c6 c7 c8=>(Eb n m n0 i c1 c2 c3 c4 c5 c6 c7 c8).bind (Pc K):=by
      repeat (refine funext fun _=>?_)
      exact Vs n K m _ _ _ _ _ _ _ _ _ _
    rw [h1,h2];exact (YH n m _ _ _ _ _ _ _ _ _ _ (Pc K)).symm
theorem VF (n:Nat):Vc tys (da Out (Ph n)) (mh n) n (ta [1,1,0,1,0,0] (aa Tryz.f58)) 0:=Ca (sp:=Kk) (rp:=Jk) (by kernel_rfl) fun K σ ρ=>Vs n K n σ.1 σ.2.1 ρ.1.1 ρ.1.2.1 ρ.1.2.2.1 ρ.1.2.2.2.1 ρ.1.2.2.2.2.1 ρ.1.2.2.2.2.2.1 ρ.1.2.2.2.2.2.2.1 ρ.1.2.2.2.2.2.2.2.1
theorem ZH (n:Nat):qa tys (da Out (Ph n)) (mh n) n (aa Tryz.f58) 0:=⟨trivial,⟨trivial,⟨⟨trivial,⟨VF n,⟨⟨trivial,⟨trivial,trivial⟩⟩,⟨trivial,trivial⟩⟩⟩⟩,⟨trivial,trivial⟩⟩⟩⟩
theorem zK (n:Nat):Enters Tryz.prog 58:=enters_of (c:=aa Tryz.f58) Tryz.func58 (by kernel_rfl) (by kernel_rfl)
def cy (n:Nat):Entry:=⟨58,pcT K8 (.one (.int .i64)) (fun xs=>Oh n xs.1),none,none⟩
theorem PN (n:Nat):EntryOk Tryz.prog gl (cy n):=wa (zK n) fun xs y h=>ja tys_ok (Ws n) mixed (hint:=mh n) (n:=n) Tryz.func58 (Ea (ZH n)) (ma (φ:=(fun y=>some (Out.ret (Uc (.one (.int .i64)) y)))) (by kernel_rfl) (SP n xs.1 _) h)
def Eg (n:Nat):List Entry:=cy n::Ph n
theorem yr (n:Nat):AllOk Tryz.prog gl (Eg n):=.cons (PN n) (Ws n)
def ae (n:Nat) {R:Type} (n0 i p1:Int) (p2:(Sq T1)) (p3:(Sq T2)) (p4:BA) (p5 p6:Int) (p7:(Sq Int)) (p8 p9:Int) (p10:Nat) (p11:U0) (kn:Int→Int→Int→(Sq T1)→(Sq T2)→BA→Int→Int→(Sq Int)→Int→Int→Nat→U0→Option R) (ko:(Int×Int×(Sq T1)×(Sq T2)×BA×Int×Int×(Sq Int)×Int×Int×Nat×U0)→Option R) (kr:Unit→Option R) (kp:Int→Option R):Option R:=if (decide (i<(p11.n:Int)))=true then if (decide (n0<(1048576:Int)))=true then if 0≤i∧i<(p11.n:Int) then (Ti n (((((((p11.at' (Int.toNat i))).2).2).2).1).1,((((((((p11.at' (Int.toNat i))).2).2).2).1).2).1,(((((((((p11.at' (Int.toNat i))).2).2).2).1).2).2).1,((((((((((((p11.at' (Int.toNat i))).2).2).2).1).2).2).2).1).1,((((((((((((p11.at' (Int.toNat i))).2).2).2).1).2).2).2).1).2).1,())),((((((((((((p11.at' (Int.toNat i))).2).2).2).1).2).2).2).2).1),((((((((((((p11.at' (Int.toNat i))).2).2).2).1).2).2).2).2).2).1,(((((((((((((p11.at' (Int.toNat i))).2).2).2).1).2).2).2).2).2).2).1,((((((((((((((p11.at' (Int.toNat i))).2).2).2).1).2).2).2).2).2).2).2).1,(((((((((((((((p11.at' (Int.toNat i))).2).2).2).1).2).2).2).2).2).2).2).2).1,())))))))))).bind fun v2=>kn (IntKind.wrap .i64 ((IntKind.wrap .i64 (n0+(1:Int)))+v2)) (IntKind.wrap .i64 (i+(1:Int))) p1 p2 p3 p4 p5 p6 p7 p8 p9 p10 p11
 else none else ko (n0,p1,p2,p3,p4,p5,p6,p7,p8,p9,p10,p11) else ko (n0,p1,p2,p3,p4,p5,p6,p7,p8,p9,p10,p11)
def mb (n:Nat):Nat→Int→Int→Int→(Sq T1)→(Sq T2)→BA→Int→Int→(Sq Int)→Int→Int→Nat→U0→Option (Lx (Int×Int×(Sq T1)×(Sq T2)×BA×Int×Int×(Sq Int)×Int×Int×Nat×U0) Unit)
 | 0,_,_,_,_,_,_,_,_,_,_,_,_,_=>none
 | m+1,n0,i,p1,p2,p3,p4,p5,p6,p7,p8,p9,p10,p11=>ae n n0 i p1 p2 p3 p4 p5 p6 p7 p8 p9 p10 p11 (mb n m) (fun a=>some (.out a)) (fun a=>some (.ret a)) (fun p=>some (.pan p))
theorem AE (n m:Nat) {S:Type}:∀ n0 i p1 p2 p3 p4 p5 p6 p7 p8 p9 p10 p11 (φ:_→Option S),(mb n (m+1) n0 i p1 p2 p3 p4 p5 p6 p7 p8 p9 p10 p11).bind φ=ae n n0 i p1 p2 p3 p4 p5 p6 p7 p8 p9 p10 p11 (fun n0 i p1 p2 p3 p4 p5 p6 p7 p8 p9 p10 p11=>(mb n m n0 i p1 p2 p3 p4 p5 p6 p7 p8 p9 p10 p11).bind φ) (fun a=>φ (.out a)) (fun a=>φ (.ret a)) (fun p=>φ (.pan p)):=by
  intros;first | (simp only [mb,ae,fa,ba,iB,bB,oL,oX,nB,Option.bind_some]) | rfl
def vj:List Sl:=.top::.ptr 0 0 0::.top::.dat (.int .i64)::.dat (.int .i64)::tp 36 []
def uj:List RS:=[.box 77 11 true [.dat (.int .i64),.dat (.sl K1),.dat (.sl K6),.dat .str,.dat (.int .i64),.dat (.int .i64),.dat (.sl (.int .i64)),.dat (.int .i64),.dat (.int .i64),.dat (.flt .f64),.dat (.sl K9)]]
def pw:List Sl:=.top::.ptr 0 0 0::.top::.dat (.int .i64)::tp 37 []
def ow:List RS:=[.box 77 11 true [.dat (.int .i64),.dat (.sl K1),.dat (.sl K6),.dat .str,.dat (.int .i64),.dat (.int .i64),.dat (.sl (.int .i64)),.dat (.int .i64),.dat (.int .i64),.dat (.flt .f64),.dat (.sl K9)]]
def tc (K:XE→List AV→ia→Option Out):Lx (Int×Int×(Sq T1)×(Sq T2)×BA×Int×Int×(Sq Int)×Int×Int×Nat×U0) Unit→Option Out:=fun x=>onL x (fun a=>Ye pw ow (a.1,()) ((a.2.1,(a.2.2.1,(a.2.2.2.1,(a.2.2.2.2.1,(a.2.2.2.2.2.1,(a.2.2.2.2.2.2.1,(a.2.2.2.2.2.2.2.1,(a.2.2.2.2.2.2.2.2.1,(a.2.2.2.2.2.2.2.2.2.1,(a.2.2.2.2.2.2.2.2.2.2.1,(a.2.2.2.2.2.2.2.2.2.2.2,()))))))))))),()) (K (.exit 0))) (fun _=>none) (fun _=>none)
def Bj (n:Nat) {R:Type} (p:T4) (k:Bool→Option R):Option R:=(sj n (p.1.1,(p.1.2.1,()))).bind fun v=>(Oh n (p.2.1.1,(p.2.1.2.1,(p.2.1.2.2.1,(p.2.1.2.2.2.1,(p.2.1.2.2.2.2.1,(p.2.1.2.2.2.2.2.1,(p.2.1.2.2.2.2.2.2.1,(p.2.1.2.2.2.2.2.2.2.1,()))))))))).bind fun v1=>(mb n n (IntKind.wrap .i64 (v+v1)) (0:Int) p.1.1 p.1.2.1 p.2.1.1 p.2.1.2.1 p.2.1.2.2.1 p.2.1.2.2.2.1 p.2.1.2.2.2.2.1 p.2.1.2.2.2.2.2.1 p.2.1.2.2.2.2.2.2.1 p.2.1.2.2.2.2.2.2.2.1 p.2.2.1).bind fun x_1=>onL x_1 (fun a_2=>if (decide (a_2.1>(30000:Int)))=false then k (decide ((a_2.2.2.2.2.2.2.2.2.2.2.2.n:Int)>(100:Int))) else k true) (fun _=>none) (fun _=>none)
def Re (n:Nat) (p:T4):Option Bool:=Bj n p some
theorem QL (n:Nat) {S:Type}:∀ p (φ:_→Option S),(Re n p).bind φ=Bj n p φ:=by
  intros;unfold Re Bj;first | (simp only [fa,ba,iB,bB,oL,oX,nB,Option.bind_some]) | rfl
def sg (n:Nat):Hint Out:={ live:=fun c=>(cond (Nat.beq c 0) (lv [1,3,4]) []),run:=fun c=>(cond (Nat.beq c 0) (some (Zl vj uj fun σ ρ K=>(mb n n σ.1 σ.2.1 ρ.1.1 ρ.1.2.1 ρ.1.2.2.1 ρ.1.2.2.2.1 ρ.1.2.2.2.2.1 ρ.1.2.2.2.2.2.1 ρ.1.2.2.2.2.2.2.1 ρ.1.2.2.2.2.2.2.2.1 ρ.1.2.2.2.2.2.2.2.2.1 ρ.1.2.2.2.2.2.2.2.2.2.1 ρ.1.2.2.2.2.2.2.2.2.2.2.1).bind (tc K))) none),xm:=fun c q=>(cond (Nat.beq c 0&&Nat.beq (q.getD 1000000) 0&&q.isSome) (some [(1,none),(3,none)]) none) }
def rg (n:Nat) (K:XE→List AV→ia→Option Out) (m:Nat) (n0:Int) (i:Int) (p1:Int) (p2:(Sq T1)) (p3:(Sq T2)) (p4:BA) (p5:Int) (p6:Int) (p7:(Sq Int)) (p8:Int) (p9:Int) (p10:Nat) (p11:U0):Option Out:=rd tys (da Out (Eg n)) (sg n) n (ta [1,1,0,1,0,0] (aa Tryz.f35)) 0 vj uj K m (n0,(i,())) ((p1,(p2,(p3,(p4,(p5,(p6,(p7,(p8,(p9,(p10,(p11,()))))))))))),())
theorem Nq (n:Nat) (K:XE→List AV→ia→Option Out):∀ (m:Nat) n0 i p1 p2 p3 p4 p5 p6 p7 p8 p9 p10 p11,rg n K m n0 i p1 p2 p3 p4 p5 p6 p7 p8 p9 p10 p11=(mb n m n0 i p1 p2 p3 p4 p5 p6 p7 p8 p9 p10 p11).bind (tc K)
  | 0,_,_,_,_,_,_,_,_,_,_,_,_,_=>by kernel_rfl
  | m+1,n0,i,p1,p2,p3,p4,p5,p6,p7,p8,p9,p10,p11=>by
    have h1:rg n K (m+1) n0 i p1 p2 p3 p4 p5 p6 p7 p8 p9 p10 p11=ae n n0 i p1 p2 p3 p4 p5 p6 p7 p8 p9 p10 p11 (rg n K m) (fun a=>tc K (.out a)) (fun a=>tc K (.ret a)) (fun p=>tc K (.pan p)):=by kernel_rfl
    have h2:rg n K m=fun n0 i p1 p2 p3 p4 p5 p6 p7 p8 p9 p10 p11=>(mb n m n0 i p1 p2 p3 p4 p5 p6 p7 p8 p9 p10 p11).bind (tc K):=by
      repeat (refine funext fun _=>?_)
      exact Nq n K m _ _ _ _ _ _ _ _ _ _ _ _ _
    rw [h1,h2];exact (AE n m _ _ _ _ _ _ _ _ _ _ _ _ _ (tc K)).symm
theorem qD (n:Nat):Vc tys (da Out (Eg n)) (sg n) n (ta [1,1,0,1,0,0] (aa Tryz.f35)) 0:=Ca (sp:=vj) (rp:=uj) (by kernel_rfl) fun K σ ρ=>Nq n K n σ.1 σ.2.1 ρ.1.1 ρ.1.2.1 ρ.1.2.2.1 ρ.1.2.2.2.1 ρ.1.2.2.2.2.1 ρ.1.2.2.2.2.2.1 ρ.1.2.2.2.2.2.2.1 ρ.1.2.2.2.2.2.2.2.1 ρ.1.2.2.2.2.2.2.2.2.1 ρ.1.2.2.2.2.2.2.2.2.2.1 ρ.1.2.2.2.2.2.2.2.2.2.2.1
theorem BE (n:Nat):qa tys (da Out (Eg n)) (sg n) n (aa Tryz.f35) 0:=⟨trivial,⟨trivial,⟨⟨trivial,⟨qD n,⟨⟨trivial,⟨trivial,trivial⟩⟩,⟨trivial,trivial⟩⟩⟩⟩,⟨trivial,trivial⟩⟩⟩⟩
theorem cH (n:Nat):Enters Tryz.prog 35:=enters_of (c:=aa Tryz.f35) Tryz.func35 (by kernel_rfl) (by kernel_rfl)
def Vu (n:Nat):Entry:=⟨35,pcT K11 (.one .bool) (fun xs=>Re n xs.1),none,none⟩
theorem yJ (n:Nat):EntryOk Tryz.prog gl (Vu n):=wa (cH n) fun xs y h=>ja tys_ok (yr n) mixed (hint:=sg n) (n:=n) Tryz.func35 (Ea (BE n)) (ma (φ:=(fun y=>some (Out.ret (Uc (.one .bool) y)))) (by kernel_rfl) (QL n xs.1 _) h)
def Kf (n:Nat):List Entry:=Vu n::Eg n
theorem ep (n:Nat):AllOk Tryz.prog gl (Kf n):=.cons (yJ n) (yr n)
def Jp (n:Nat) {R:Type} (s1:BA) (by01 from0 i:Int) (l:(Sq BA)) (kn:BA→Int→Int→Int→(Sq BA)→Option R) (ko:((Sq BA))→Option R) (kr:Unit→Option R) (kp:Int→Option R):Option R:=if (decide (i≤(s1.size:Int)))=true then if (i==(s1.size:Int))=false then if 0≤i∧i<(s1.size:Int) then if ((bt s1 i)==by01)=true then if 0≤i∧i≤(s1.size:Int) then if 0≤from0∧from0≤i then if Rb (l.n+1) 16=true then kn s1 by01 (IntKind.wrap .i64 (i+(1:Int))) (IntKind.wrap .i64 (i+(1:Int))) (⟨(l.n+1),fun q=>if q<l.n then l.at' q else (fun q=>List.getD (α:=BA) [(s1.extract (Int.toNat from0) (Int.toNat i))] q (Ba .str)) (q - l.n)⟩:Sq BA) else none else none else none else kn s1 by01 from0 (IntKind.wrap .i64 (i+(1:Int))) l else none else if 0≤i∧i≤(s1.size:Int) then if 0≤from0∧from0≤i then if Rb (l.n+1) 16=true then kn s1 by01 (IntKind.wrap .i64 (i+(1:Int))) (IntKind.wrap .i64 (i+(1:Int))) (⟨(l.n+1),fun q=>if q<l.n then l.at' q else (fun q=>List.getD (α:=BA) [(s1.extract (Int.toNat from0) (Int.toNat i))] q (Ba .str)) (q - l.n)⟩:Sq BA) else none else none else none else ko l
def Of (n:Nat):Nat→BA→Int→Int→Int→(Sq BA)→Option (Lx ((Sq BA)) Unit)
 | 0,_,_,_,_,_=>none
 | m+1,s1,by01,from0,i,l=>Jp n s1 by01 from0 i l (Of n m) (fun a=>some (.out a)) (fun a=>some (.ret a)) (fun p=>some (.pan p))
theorem oZ (n m:Nat) {S:Type}:∀ s1 by01 from0 i l (φ:_→Option S),(Of n (m+1) s1 by01 from0 i l).bind φ=Jp n s1 by01 from0 i l (fun s1 by01 from0 i l=>(Of n m s1 by01 from0 i l).bind φ) (fun a=>φ (.out a)) (fun a=>φ (.ret a)) (fun p=>φ (.pan p)):=by
  intros;first | (simp only [Of,Jp,fa,ba,iB,bB,oL,oX,nB,Option.bind_some]) | rfl
def xz:List Sl:=.dat .str::.dat (.int .u8)::.top::.top::.top::.row 0::.dat (.int .i64)::.dat (.int .i64)::tp 27 []
def wz:List RS:=[.row 9 1 .str true false]
def uM:List Sl:=tp 5 (.row 0::tp 29 [])
def tM:List RS:=[.row 9 1 .str true false]
def Di (K:XE→List AV→ia→Option Out):Lx ((Sq BA)) Unit→Option Out:=fun x=>onL x (fun a=>Ye uM tM () (a,()) (K (.exit 0))) (fun _=>none) (fun _=>none)
def qG (n:Nat) {R:Type} (s:BA) (by0:Int) (k:(Sq BA)→Option R):Option R:=(Of n n s by0 (0:Int) (0:Int) (⟨0,fun _=>Ba .str⟩:Sq BA)).bind fun x_1=>onL x_1 (fun a_2=>k a_2) (fun _=>none) (fun _=>none)
def ux (n:Nat) (s:BA) (by0:Int):Option (Sq BA):=qG n s by0 some
theorem ebb (n:Nat) {S:Type}:∀ s by0 (φ:_→Option S),(ux n s by0).bind φ=qG n s by0 φ:=by
  intros;unfold ux qG;first | (simp only [fa,ba,iB,bB,oL,oX,nB,Option.bind_some]) | rfl
def It (n:Nat):Hint Out:={ live:=fun c=>(cond (Nat.beq c 0) [(0,none),(1,none),(5,some (.sl .str)),(6,none),(7,none)] []),run:=fun c=>(cond (Nat.beq c 0) (some (Zl xz wz fun σ ρ K=>(Of n n σ.1 σ.2.1 σ.2.2.1 σ.2.2.2.1 ρ.1).bind (Di K))) none),xm:=fun c q=>(cond (Nat.beq c 0&&Nat.beq (q.getD 1000000) 0&&q.isSome) (some [(5,some (.sl .str))]) none) }
def Ht (n:Nat) (K:XE→List AV→ia→Option Out) (m:Nat) (s1:BA) (by01:Int) (from0:Int) (i:Int) (l:(Sq BA)):Option Out:=rd tys (da Out (Kf n)) (It n) n (ta [1,1,1,0,1,0,0] (aa Tryz.f112)) 0 xz wz K m (s1,(by01,(from0,(i,())))) (l,())
theorem sM (n:Nat) (K:XE→List AV→ia→Option Out):∀ (m:Nat) s1 by01 from0 i l,Ht n K m s1 by01 from0 i l=(Of n m s1 by01 from0 i l).bind (Di K)
  | 0,_,_,_,_,_=>by kernel_rfl
  | m+1,s1,by01,from0,i,l=>by
    have h1:Ht n K (m+1) s1 by01 from0 i l=Jp n s1 by01 from0 i l (Ht n K m) (fun a=>Di K (.out a)) (fun a=>Di K (.ret a)) (fun p=>Di K (.pan p)):=by kernel_rfl
    have h2:Ht n K m=fun s1 by01 from0 i l=>(Of n m s1 by01 from0 i l).bind (Di K):=by
      repeat (refine funext fun _=>?_)
      exact sM n K m _ _ _ _ _
    rw [h1,h2];exact (oZ n m _ _ _ _ _ (Di K)).symm
theorem sW (n:Nat):Vc tys (da Out (Kf n)) (It n) n (ta [1,1,1,0,1,0,0] (aa Tryz.f112)) 0:=Ca (sp:=xz) (rp:=wz) (by kernel_rfl) fun K σ ρ=>sM n K n σ.1 σ.2.1 σ.2.2.1 σ.2.2.2.1 ρ.1
theorem pZ (n:Nat):qa tys (da Out (Kf n)) (It n) n (aa Tryz.f112) 0:=⟨trivial,⟨trivial,⟨trivial,⟨⟨trivial,⟨sW n,⟨⟨trivial,⟨trivial,trivial⟩⟩,⟨⟨trivial,⟨⟨trivial,trivial⟩,trivial⟩⟩,trivial⟩⟩⟩⟩,⟨trivial,trivial⟩⟩⟩⟩⟩
theorem P4 (n:Nat):Enters Tryz.prog 112:=enters_of (c:=aa Tryz.f112) Tryz.func112 (by kernel_rfl) (by kernel_rfl)
def gU (n:Nat):Entry:=⟨112,pcT (.pair .str (.pair (.int .u8) .unit)) (.one (.sl .str)) (fun xs=>ux n xs.1 xs.2.1),none,none⟩
theorem F7 (n:Nat):EntryOk Tryz.prog gl (gU n):=wa (P4 n) fun xs y h=>ja tys_ok (ep n) mixed (hint:=It n) (n:=n) Tryz.func112 (Ea (pZ n)) (ma (φ:=(fun y=>some (Out.ret (Uc (.one (.sl .str)) y)))) (by kernel_rfl) (ebb n xs.1 xs.2.1 _) h)
def Fv (n:Nat):List Entry:=gU n::Kf n
theorem GI (n:Nat):AllOk Tryz.prog gl (Fv n):=.cons (F7 n) (ep n)
def wk (n:Nat) {R:Type} (s1:BA) (n0 i:Int) (kn:BA→Int→Int→Option R) (ko:(Int)→Option R) (kr:(Int×Bool)→Option R) (kp:Int→Option R):Option R:=if (decide (i<(s1.size:Int)))=true then if 0≤i∧i<(s1.size:Int) then if (decide ((bt s1 i)<(48:Int)))=false then if 0≤i∧i<(s1.size:Int) then if (decide ((bt s1 i)>(57:Int)))=true then kr ((0:Int),false) else if 0≤i∧i<(s1.size:Int) then kn s1 (IntKind.wrap .i64 ((IntKind.wrap .i64 ((10:Int)*n0))+(IntKind.wrap .i64 (IntKind.wrap .u8 ((bt s1 i) - (48:Int)))))) (IntKind.wrap .i64 (i+(1:Int))) else none else none else kr ((0:Int),false) else none else ko n0
def Dd (n:Nat):Nat→BA→Int→Int→Option (Lx (Int) (Int×Bool))
 | 0,_,_,_=>none
 | m+1,s1,n0,i=>wk n s1 n0 i (Dd n m) (fun a=>some (.out a)) (fun a=>some (.ret a)) (fun p=>some (.pan p))
theorem qZ (n m:Nat) {S:Type}:∀ s1 n0 i (φ:_→Option S),(Dd n (m+1) s1 n0 i).bind φ=wk n s1 n0 i (fun s1 n0 i=>(Dd n m s1 n0 i).bind φ) (fun a=>φ (.out a)) (fun a=>φ (.ret a)) (fun p=>φ (.pan p)):=by
  intros;first | (simp only [Dd,wk,fa,ba,iB,bB,oL,oX,nB,Option.bind_some]) | rfl
def zz:List Sl:=.dat .str::.top::.top::.top::.dat (.int .i64)::.dat (.int .i64)::tp 42 []
def yz:List RS:=[]
def xM:List Sl:=tp 4 (.dat (.int .i64)::tp 43 [])
def wM:List RS:=[]
def BM:List Sl:=.top::.top::.dat (.int .i64)::.dat .bool::tp 44 []
def yM:List RS:=[]
def Ei (K:XE→List AV→ia→Option Out):Lx (Int) (Int×Bool)→Option Out:=fun x=>onL x (fun a=>Ye xM wM (a,()) () (K (.exit 0))) (fun a=>Ye BM yM (a.1,(a.2,())) () (K .ret)) (fun _=>none)
def sG (n:Nat) {R:Type} (s:BA) (k:U10→Option R):Option R:=if (s.toList==(⟨#[]⟩:BA).toList)=false then if (decide ((s.size:Int)>(16:Int)))=false then if (decide ((s.size:Int)>(1:Int)))=true then if 0≤(0:Int)∧(0:Int)<(s.size:Int) then if ((bt s (0:Int))==(48:Int))=true then k ((0:Int),(false,())) else (Dd n n s (0:Int) (0:Int)).bind fun x_1=>onL x_1 (fun a_2=>k (a_2,(true,()))) (fun a_3=>k (a_3.1,(a_3.2,()))) (fun _=>none) else none else (Dd n n s (0:Int) (0:Int)).bind fun x_4=>onL x_4 (fun a_5=>k (a_5,(true,()))) (fun a_6=>k (a_6.1,(a_6.2,()))) (fun _=>none) else k ((0:Int),(false,())) else k ((0:Int),(false,()))
def rG (n:Nat) (s:BA):Option U10:=sG n s some
theorem fbb (n:Nat) {S:Type}:∀ s (φ:_→Option S),(rG n s).bind φ=sG n s φ:=by
  intros;unfold rG sG;first | (simp only [fa,ba,iB,bB,oL,oX,nB,Option.bind_some]) | rfl
def Kt (n:Nat):Hint Out:={ live:=fun c=>(cond (Nat.beq c 0) (lv [0,4,5]) []),run:=fun c=>(cond (Nat.beq c 0) (some (Zl zz yz fun σ ρ K=>(Dd n n σ.1 σ.2.1 σ.2.2.1).bind (Ei K))) none),xm:=fun c q=>(cond (Nat.beq c 0&&Nat.beq (q.getD 1000000) 0&&q.isSome) (some [(4,none)]) (cond (Nat.beq c 1&&q.isNone) (some [(2,none),(3,none)]) none)) }
def Jt (n:Nat) (K:XE→List AV→ia→Option Out) (m:Nat) (s1:BA) (n0:Int) (i:Int):Option Out:=rd tys (da Out (Fv n)) (Kt n) n (ta [1,1,1,0,1,0,0] (aa Tryz.f162)) 0 zz yz K m (s1,(n0,(i,()))) ()
theorem vM (n:Nat) (K:XE→List AV→ia→Option Out):∀ (m:Nat) s1 n0 i,Jt n K m s1 n0 i=(Dd n m s1 n0 i).bind (Ei K)
  | 0,_,_,_=>by kernel_rfl
  | m+1,s1,n0,i=>by
    have h1:Jt n K (m+1) s1 n0 i=wk n s1 n0 i (Jt n K m) (fun a=>Ei K (.out a)) (fun a=>Ei K (.ret a)) (fun p=>Ei K (.pan p)):=by kernel_rfl
    have h2:Jt n K m=fun s1 n0 i=>(Dd n m s1 n0 i).bind (Ei K):=by
      repeat (refine funext fun _=>?_)
      exact vM n K m _ _ _
    rw [h1,h2];exact (qZ n m _ _ _ (Ei K)).symm
theorem tW (n:Nat):Vc tys (da Out (Fv n)) (Kt n) n (ta [1,1,1,0,1,0,0] (aa Tryz.f162)) 0:=Ca (sp:=zz) (rp:=yz) (by kernel_rfl) fun K σ ρ=>vM n K n σ.1 σ.2.1 σ.2.2.1
theorem rZ (n:Nat):qa tys (da Out (Fv n)) (Kt n) n (aa Tryz.f162) 0:=⟨trivial,⟨⟨trivial,⟨⟨trivial,trivial⟩,trivial⟩⟩,⟨trivial,⟨⟨trivial,⟨tW n,⟨⟨trivial,⟨trivial,trivial⟩⟩,⟨⟨⟨trivial,⟨⟨trivial,trivial⟩,trivial⟩⟩,trivial⟩,trivial⟩⟩⟩⟩,⟨trivial,trivial⟩⟩⟩⟩⟩
theorem Q4 (n:Nat):Enters Tryz.prog 162:=enters_of (c:=aa Tryz.f162) Tryz.func162 (by kernel_rfl) (by kernel_rfl)
def iU (n:Nat):Entry:=⟨162,pcT (.pair .str .unit) (.many (.pair (.int .i64) (.pair .bool .unit))) (fun xs=>rG n xs.1),none,none⟩
theorem G7 (n:Nat):EntryOk Tryz.prog gl (iU n):=wa (Q4 n) fun xs y h=>ja tys_ok (GI n) mixed (hint:=Kt n) (n:=n) Tryz.func162 (Ea (rZ n)) (ma (φ:=(fun y=>some (Out.ret (Uc (.many (.pair (.int .i64) (.pair .bool .unit))) y)))) (by kernel_rfl) (fbb n xs.1 _) h)
def Gv (n:Nat):List Entry:=iU n::Fv n
theorem HI (n:Nat):AllOk Tryz.prog gl (Gv n):=.cons (G7 n) (GI n)
def yl (n:Nat) {R:Type} (l:(Sq BA)) (i:Int) (kn:(Sq BA)→Int→Option R) (ko:((Sq BA))→Option R) (kr:(Bool)→Option R) (kp:Int→Option R):Option R:=if (decide (i<(l.n:Int)))=true then if 0≤i∧i<(l.n:Int) then (rG n (l.at' (Int.toNat i))).bind fun v1=>if (!v1.2.1)=false then if (decide (v1.1>(255:Int)))=true then kr false else kn l (IntKind.wrap .i64 (i+(1:Int))) else kr false else none else ko l
def Ed (n:Nat):Nat→(Sq BA)→Int→Option (Lx ((Sq BA)) (Bool))
 | 0,_,_=>none
 | m+1,l,i=>yl n l i (Ed n m) (fun a=>some (.out a)) (fun a=>some (.ret a)) (fun p=>some (.pan p))
theorem mU (n m:Nat) {S:Type}:∀ l i (φ:_→Option S),(Ed n (m+1) l i).bind φ=yl n l i (fun l i=>(Ed n m l i).bind φ) (fun a=>φ (.out a)) (fun a=>φ (.ret a)) (fun p=>φ (.pan p)):=by
  intros;first | (simp only [Ed,yl,fa,ba,iB,bB,oL,oX,nB,Option.bind_some]) | rfl
def Sr:List Sl:=.top::.top::.top::.dat (.sl .str)::.dat (.int .i64)::tp 47 []
def Qr:List RS:=[]
def NH:List Sl:=.top::.top::.top::.dat (.sl .str)::tp 48 []
def MH:List RS:=[]
def PH:List Sl:=.top::.top::.dat .bool::tp 49 []
def OH:List RS:=[]
def Qf (K:XE→List AV→ia→Option Out):Lx ((Sq BA)) (Bool)→Option Out:=fun x=>onL x (fun a=>Ye NH MH (a,()) () (K (.exit 0))) (fun a=>Ye PH OH (a,()) () (K .ret)) (fun _=>none)
def zx (n:Nat) {R:Type} (s:BA) (k:Bool→Option R):Option R:=if (decide ((s.size:Int)<(2:Int)))=false then if 0≤(0:Int)∧(0:Int)<(s.size:Int) then if ((bt s (0:Int)) !=(91:Int))=false then if 0≤(IntKind.wrap .i64 ((s.size:Int) - (1:Int)))∧(IntKind.wrap .i64 ((s.size:Int) - (1:Int)))<(s.size:Int) then if ((bt s (IntKind.wrap .i64 ((s.size:Int) - (1:Int)))) !=(93:Int))=true then k false else if 0≤(IntKind.wrap .i64 ((s.size:Int) - (1:Int)))∧(IntKind.wrap .i64 ((s.size:Int) - (1:Int)))≤(s.size:Int) then if 0≤(1:Int)∧(1:Int)≤(IntKind.wrap .i64 ((s.size:Int) - (1:Int))) then (ux n (s.extract (Int.toNat (1:Int)) (Int.toNat (IntKind.wrap .i64 ((s.size:Int) - (1:Int))))) (46:Int)).bind fun v=>(Ed n n v (0:Int)).bind fun x_1=>onL x_1 (fun a_2=>k ((a_2.n:Int)==(4:Int))) (fun a_3=>k a_3) (fun _=>none) else none else none else none else k false else none else k false
def Np (n:Nat) (s:BA):Option Bool:=zx n s some
theorem Y4 (n:Nat) {S:Type}:∀ s (φ:_→Option S),(Np n s).bind φ=zx n s φ:=by
  intros;unfold Np zx;first | (simp only [fa,ba,iB,bB,oL,oX,nB,Option.bind_some]) | rfl
def xo (n:Nat):Hint Out:={ live:=fun c=>(cond (Nat.beq c 0) [(3,some (.sl .str)),(4,none)] []),run:=fun c=>(cond (Nat.beq c 0) (some (Zl Sr Qr fun σ ρ K=>(Ed n n σ.1 σ.2.1).bind (Qf K))) none),xm:=fun c q=>(cond (Nat.beq c 0&&Nat.beq (q.getD 1000000) 0&&q.isSome) (some [(3,some (.sl .str))]) (cond (Nat.beq c 1&&q.isNone) (some [(2,none)]) none)) }
def wo (n:Nat) (K:XE→List AV→ia→Option Out) (m:Nat) (l:(Sq BA)) (i:Int):Option Out:=rd tys (da Out (Gv n)) (xo n) n (ta [1,1,1,0,1,0,0] (aa Tryz.f111)) 0 Sr Qr K m (l,(i,())) ()
theorem jF (n:Nat) (K:XE→List AV→ia→Option Out):∀ (m:Nat) l i,wo n K m l i=(Ed n m l i).bind (Qf K)
  | 0,_,_=>by kernel_rfl
  | m+1,l,i=>by
    have h1:wo n K (m+1) l i=yl n l i (wo n K m) (fun a=>Qf K (.out a)) (fun a=>Qf K (.ret a)) (fun p=>Qf K (.pan p)):=by kernel_rfl
    have h2:wo n K m=fun l i=>(Ed n m l i).bind (Qf K):=by
      repeat (refine funext fun _=>?_)
      exact jF n K m _ _
    rw [h1,h2];exact (mU n m _ _ (Qf K)).symm
theorem xR (n:Nat):Vc tys (da Out (Gv n)) (xo n) n (ta [1,1,1,0,1,0,0] (aa Tryz.f111)) 0:=Ca (sp:=Sr) (rp:=Qr) (by kernel_rfl) fun K σ ρ=>jF n K n σ.1 σ.2.1
theorem nU (n:Nat):qa tys (da Out (Gv n)) (xo n) n (aa Tryz.f111) 0:=⟨trivial,⟨⟨trivial,⟨⟨trivial,trivial⟩,trivial⟩⟩,⟨trivial,⟨⟨trivial,⟨xR n,⟨⟨trivial,⟨trivial,trivial⟩⟩,⟨⟨trivial,⟨trivial,⟨⟨trivial,trivial⟩,trivial⟩⟩⟩,trivial⟩⟩⟩⟩,⟨trivial,trivial⟩⟩⟩⟩⟩
theorem yW (n:Nat):Enters Tryz.prog 111:=enters_of (c:=aa Tryz.f111) Tryz.func111 (by kernel_rfl) (by kernel_rfl)
def LM (n:Nat):Entry:=⟨111,pcT (.pair .str .unit) (.one .bool) (fun xs=>Np n xs.1),none,none⟩
theorem wZ (n:Nat):EntryOk Tryz.prog gl (LM n):=wa (yW n) fun xs y h=>ja tys_ok (HI n) mixed (hint:=xo n) (n:=n) Tryz.func111 (Ea (nU n)) (ma (φ:=(fun y=>some (Out.ret (Uc (.one .bool) y)))) (by kernel_rfl) (Y4 n xs.1 _) h)
def fC (n:Nat):List Entry:=LM n::Gv n
theorem eD (n:Nat):AllOk Tryz.prog gl (fC n):=.cons (wZ n) (HI n)
def wG (n:Nat) {R:Type} (c:Int) (k:Bool→Option R):Option R:=if (decide (c≥(48:Int)))=true then k (decide (c≤(57:Int))) else k false
def Ax (n:Nat) (c:Int):Option Bool:=wG n c some
theorem lbb (n:Nat) {S:Type}:∀ c (φ:_→Option S),(Ax n c).bind φ=wG n c φ:=by
  intros;unfold Ax wG;first | (simp only [fa,ba,iB,bB,oL,oX,nB,Option.bind_some]) | rfl
def NM (n:Nat):Hint Out:={ live:=fun c=>[],run:=fun c=>none,xm:=fun c q=>none }
theorem yZ (n:Nat):qa tys (da Out (fC n)) (NM n) n (aa Tryz.f113) 0:=oa (fun _=>rfl) _ _ (by kernel_rfl)
theorem e5 (n:Nat):Enters Tryz.prog 113:=enters_of (c:=aa Tryz.f113) Tryz.func113 (by kernel_rfl) (by kernel_rfl)
def qU (n:Nat):Entry:=⟨113,pcT (.pair (.int .u8) .unit) (.one .bool) (fun xs=>Ax n xs.1),none,none⟩
theorem O7 (n:Nat):EntryOk Tryz.prog gl (qU n):=wa (e5 n) fun xs y h=>ja tys_ok (eD n) mixed (hint:=NM n) (n:=n) Tryz.func113 (Ea (yZ n)) (ma (φ:=(fun y=>some (Out.ret (Uc (.one .bool) y)))) (by kernel_rfl) (lbb n xs.1 _) h)
def Im (n:Nat):List Entry:=qU n::fC n
theorem MI (n:Nat):AllOk Tryz.prog gl (Im n):=.cons (O7 n) (eD n)
def Zm (n:Nat) {R:Type} (l1:(Sq BA)) (i1:Int) (w:BA) (k0:Int) (kn:(Sq BA)→Int→BA→Int→Option R) (ko:((Sq BA)×Int)→Option R) (kr:(Bool)→Option R) (kp:Int→Option R):Option R:=if (decide (k0<(w.size:Int)))=true then if 0≤k0∧k0<(w.size:Int) then if (decide ((bt w k0)≥(97:Int)))=true then if 0≤k0∧k0<(w.size:Int) then if (!(decide ((bt w k0)≤(122:Int))))=true then if 0≤k0∧k0<(w.size:Int) then (Ax n (bt w k0)).bind fun v2=>if (!v2)=true then if 0≤k0∧k0<(w.size:Int) then if ((bt w k0) !=(45:Int))=true then kr false else kn l1 i1 w (IntKind.wrap .i64 (k0+(1:Int))) else none else kn l1 i1 w (IntKind.wrap .i64 (k0+(1:Int))) else none else kn l1 i1 w (IntKind.wrap .i64 (k0+(1:Int))) else none else if 0≤k0∧k0<(w.size:Int) then (Ax n (bt w k0)).bind fun v3=>if (!v3)=true then if 0≤k0∧k0<(w.size:Int) then if ((bt w k0) !=(45:Int))=true then kr false else kn l1 i1 w (IntKind.wrap .i64 (k0+(1:Int))) else none else kn l1 i1 w (IntKind.wrap .i64 (k0+(1:Int))) else none else none else ko (l1,i1)
def Be (n:Nat):Nat→(Sq BA)→Int→BA→Int→Option (Lx ((Sq BA)×Int) (Bool))
 | 0,_,_,_,_=>none
 | m+1,l1,i1,w,k0=>Zm n l1 i1 w k0 (Be n m) (fun a=>some (.out a)) (fun a=>some (.ret a)) (fun p=>some (.pan p))
theorem wW (n m:Nat) {S:Type}:∀ l1 i1 w k0 (φ:_→Option S),(Be n (m+1) l1 i1 w k0).bind φ=Zm n l1 i1 w k0 (fun l1 i1 w k0=>(Be n m l1 i1 w k0).bind φ) (fun a=>φ (.out a)) (fun a=>φ (.ret a)) (fun p=>φ (.pan p)):=by
  intros;first | (simp only [Be,Zm,fa,ba,iB,bB,oL,oX,nB,Option.bind_some]) | rfl
def Mv:List Sl:=.top::.top::.top::.dat (.sl .str)::.dat (.int .i64)::.dat .str::.dat (.int .i64)::tp 68 []
def Lv:List RS:=[]
def ZJ:List Sl:=.top::.top::.top::.dat (.sl .str)::.dat (.int .i64)::tp 70 []
def YJ:List RS:=[]
def bK:List Sl:=.top::.top::.dat .bool::tp 72 []
def aK:List RS:=[]
def Kg (K:XE→List AV→ia→Option Out):Lx ((Sq BA)×Int) (Bool)→Option Out:=fun x=>onL x (fun a=>Ye ZJ YJ (a.1,(a.2,())) () (K (.exit 2))) (fun a=>Ye bK aK (a,()) () (K .ret)) (fun _=>none)
def Ym (n:Nat) {R:Type} (l:(Sq BA)) (i:Int) (kn:(Sq BA)→Int→Option R) (ko:(Unit)→Option R) (kr:(Bool)→Option R) (kp:Int→Option R):Option R:=if (decide (i<(l.n:Int)))=true then if 0≤i∧i<(l.n:Int) then if (decide (((l.at' (Int.toNat i)).size:Int)<(1:Int)))=false then if (decide (((l.at' (Int.toNat i)).size:Int)>(63:Int)))=false then if 0≤(0:Int)∧(0:Int)<((l.at' (Int.toNat i)).size:Int) then if ((bt (l.at' (Int.toNat i)) (0:Int))==(45:Int))=false then if 0≤(IntKind.wrap .i64 (((l.at' (Int.toNat i)).size:Int) - (1:Int)))∧(IntKind.wrap .i64 (((l.at' (Int.toNat i)).size:Int) - (1:Int)))<((l.at' (Int.toNat i)).size:Int) then if ((bt (l.at' (Int.toNat i)) (IntKind.wrap .i64 (((l.at' (Int.toNat i)).size:Int) - (1:Int))))==(45:Int))=true then kr false else (Be n n l i (l.at' (Int.toNat i)) (0:Int)).bind fun x_1=>onL x_1 (fun a_2=>kn a_2.1 (IntKind.wrap .i64 (a_2.2+(1:Int)))) (fun a_3=>kr a_3) (fun _=>none) else none else kr false else none else kr false else kr false else none else ko ()
def Ae (n:Nat):Nat→(Sq BA)→Int→Option (Lx (Unit) (Bool))
 | 0,_,_=>none
 | m+1,l,i=>Ym n l i (Ae n m) (fun a=>some (.out a)) (fun a=>some (.ret a)) (fun p=>some (.pan p))
theorem vW (n m:Nat) {S:Type}:∀ l i (φ:_→Option S),(Ae n (m+1) l i).bind φ=Ym n l i (fun l i=>(Ae n m l i).bind φ) (fun a=>φ (.out a)) (fun a=>φ (.ret a)) (fun p=>φ (.pan p)):=by
  intros;first | (simp only [Ae,Ym,fa,ba,iB,bB,oL,oX,nB,Option.bind_some]) | rfl
def Kv:List Sl:=.top::.top::.top::.dat (.sl .str)::.dat (.int .i64)::tp 70 []
def Jv:List RS:=[]
def VJ:List Sl:=tp 75 []
def UJ:List RS:=[]
def XJ:List Sl:=.top::.top::.dat .bool::tp 72 []
def WJ:List RS:=[]
def Jg (K:XE→List AV→ia→Option Out):Lx (Unit) (Bool)→Option Out:=fun x=>onL x (fun a=>Ye VJ UJ () () (K (.exit 0))) (fun a=>Ye XJ WJ (a,()) () (K .ret)) (fun _=>none)
def eC (n:Nat) {R:Type} (s:BA) (k:Bool→Option R):Option R:=if (decide ((s.size:Int)>(255:Int)))=true then k false else (Np n s).bind fun v=>if v=true then k true else (ux n s (46:Int)).bind fun v1=>(Ae n n v1 (0:Int)).bind fun x_1=>onL x_1 (fun a_2=>k true) (fun a_3=>k a_3) (fun _=>none)
def Iv (n:Nat) (s:BA):Option Bool:=eC n s some
theorem J7 (n:Nat) {S:Type}:∀ s (φ:_→Option S),(Iv n s).bind φ=eC n s φ:=by
  intros;unfold Iv eC;first | (simp only [fa,ba,iB,bB,oL,oX,nB,Option.bind_some]) | rfl
def pj (n:Nat):Hint Out:={ live:=fun c=>(cond (Nat.beq c 0) [(3,some (.sl .str)),(4,none)] (cond (Nat.beq c 2) [(3,some (.sl .str)),(4,none),(5,none),(6,none)] [])),run:=fun c=>(cond (Nat.beq c 0) (some (Zl Kv Jv fun σ ρ K=>(Ae n n σ.1 σ.2.1).bind (Jg K))) (cond (Nat.beq c 2) (some (Zl Mv Lv fun σ ρ K=>(Be n n σ.1 σ.2.1 σ.2.2.1 σ.2.2.2.1).bind (Kg K))) none)),xm:=fun c q=>(cond (Nat.beq c 0&&Nat.beq (q.getD 1000000) 0&&q.isSome) (some []) (cond (Nat.beq c 2&&Nat.beq (q.getD 1000000) 2&&q.isSome) (some [(3,some (.sl .str)),(4,none)]) (cond (Nat.beq c 3&&q.isNone) (some [(2,none)]) (cond (Nat.beq c 1&&q.isNone) (some [(2,none)]) none)))) }
def qq (n:Nat) (K:XE→List AV→ia→Option Out) (m:Nat) (l1:(Sq BA)) (i1:Int) (w:BA) (k0:Int):Option Out:=rd tys (da Out (Im n)) (pj n) n (ta [1,1,1,1,0,1,0,0,1,0,0,1,1,1,0,0] (aa Tryz.f67)) 2 Mv Lv K m (l1,(i1,(w,(k0,())))) ()
theorem KI (n:Nat) (K:XE→List AV→ia→Option Out):∀ (m:Nat) l1 i1 w k0,qq n K m l1 i1 w k0=(Be n m l1 i1 w k0).bind (Kg K)
  | 0,_,_,_,_=>by kernel_rfl
  | m+1,l1,i1,w,k0=>by
    have h1:qq n K (m+1) l1 i1 w k0=Zm n l1 i1 w k0 (qq n K m) (fun a=>Kg K (.out a)) (fun a=>Kg K (.ret a)) (fun p=>Kg K (.pan p)):=by kernel_rfl
    have h2:qq n K m=fun l1 i1 w k0=>(Be n m l1 i1 w k0).bind (Kg K):=by
      repeat (refine funext fun _=>?_)
      exact KI n K m _ _ _ _
    rw [h1,h2];exact (wW n m _ _ _ _ (Kg K)).symm
theorem lU (n:Nat):Vc tys (da Out (Im n)) (pj n) n (ta [1,1,1,1,0,1,0,0,1,0,0,1,1,1,0,0] (aa Tryz.f67)) 2:=Ca (sp:=Mv) (rp:=Lv) (by kernel_rfl) fun K σ ρ=>KI n K n σ.1 σ.2.1 σ.2.2.1 σ.2.2.2.1
def pq (n:Nat) (K:XE→List AV→ia→Option Out) (m:Nat) (l:(Sq BA)) (i:Int):Option Out:=rd tys (da Out (Im n)) (pj n) n (ta [1,1,1,1,0,1,0,0] (aa Tryz.f67)) 0 Kv Jv K m (l,(i,())) ()
theorem JI (n:Nat) (K:XE→List AV→ia→Option Out):∀ (m:Nat) l i,pq n K m l i=(Ae n m l i).bind (Jg K)
  | 0,_,_=>by kernel_rfl
  | m+1,l,i=>by
    have h1:pq n K (m+1) l i=Ym n l i (pq n K m) (fun a=>Jg K (.out a)) (fun a=>Jg K (.ret a)) (fun p=>Jg K (.pan p)):=by kernel_rfl
    have h2:pq n K m=fun l i=>(Ae n m l i).bind (Jg K):=by
      repeat (refine funext fun _=>?_)
      exact JI n K m _ _
    rw [h1,h2];exact (vW n m _ _ (Jg K)).symm
theorem kU (n:Nat):Vc tys (da Out (Im n)) (pj n) n (ta [1,1,1,1,0,1,0,0] (aa Tryz.f67)) 0:=Ca (sp:=Kv) (rp:=Jv) (by kernel_rfl) fun K σ ρ=>JI n K n σ.1 σ.2.1
theorem xW (n:Nat):qa tys (da Out (Im n)) (pj n) n (aa Tryz.f67) 0:=⟨trivial,⟨⟨trivial,⟨⟨trivial,trivial⟩,trivial⟩⟩,⟨⟨trivial,⟨⟨trivial,trivial⟩,trivial⟩⟩,⟨trivial,⟨⟨trivial,⟨kU n,⟨⟨trivial,⟨trivial,trivial⟩⟩,⟨⟨trivial,⟨⟨trivial,⟨⟨trivial,trivial⟩,trivial⟩⟩,⟨trivial,⟨lU n,⟨⟨trivial,⟨trivial,trivial⟩⟩,⟨⟨trivial,⟨⟨trivial,trivial⟩,trivial⟩⟩,trivial⟩⟩⟩⟩⟩⟩,trivial⟩⟩⟩⟩,⟨trivial,trivial⟩⟩⟩⟩⟩⟩
theorem vZ (n:Nat):Enters Tryz.prog 67:=enters_of (c:=aa Tryz.f67) Tryz.func67 (by kernel_rfl) (by kernel_rfl)
def vQ (n:Nat):Entry:=⟨67,pcT (.pair .str .unit) (.one .bool) (fun xs=>Iv n xs.1),none,none⟩
theorem W4 (n:Nat):EntryOk Tryz.prog gl (vQ n):=wa (vZ n) fun xs y h=>ja tys_ok (MI n) mixed (hint:=pj n) (n:=n) Tryz.func67 (Ea (xW n)) (ma (φ:=(fun y=>some (Out.ret (Uc (.one .bool) y)))) (by kernel_rfl) (J7 n xs.1 _) h)
def gF (n:Nat):List Entry:=vQ n::Im n
theorem iF (n:Nat):AllOk Tryz.prog gl (gF n):=.cons (W4 n) (MI n)
def JM (n:Nat) {R:Type} (s:BA) (k:Bool→Option R):Option R:=(Iv n s).bind fun v=>if v=true then (Np n s).bind fun v1=>k (!v1) else k false
def nP (n:Nat) (s:BA):Option Bool:=JM n s some
theorem tdb (n:Nat) {S:Type}:∀ s (φ:_→Option S),(nP n s).bind φ=JM n s φ:=by
  intros;unfold nP JM;first | (simp only [fa,ba,iB,bB,oL,oX,nB,Option.bind_some]) | rfl
def wQ (n:Nat):Hint Out:={ live:=fun c=>[],run:=fun c=>none,xm:=fun c q=>none }
theorem X4 (n:Nat):qa tys (da Out (gF n)) (wQ n) n (aa Tryz.f81) 0:=oa (fun _=>rfl) _ _ (by kernel_rfl)
theorem L7 (n:Nat):Enters Tryz.prog 81:=enters_of (c:=aa Tryz.f81) Tryz.func81 (by kernel_rfl) (by kernel_rfl)
def MX (n:Nat):Entry:=⟨81,pcT (.pair .str .unit) (.one .bool) (fun xs=>nP n xs.1),none,none⟩
theorem ibb (n:Nat):EntryOk Tryz.prog gl (MX n):=wa (L7 n) fun xs y h=>ja tys_ok (iF n) mixed (hint:=wQ n) (n:=n) Tryz.func81 (Ea (X4 n)) (ma (φ:=(fun y=>some (Out.ret (Uc (.one .bool) y)))) (by kernel_rfl) (tdb n xs.1 _) h)
def oP (n:Nat):List Entry:=MX n::gF n
theorem KM (n:Nat):AllOk Tryz.prog gl (oP n):=.cons (ibb n) (iF n)
def mS (n:Nat) {R:Type} (n0 most:Int) (k:Bool→Option R):Option R:=if (decide (n0≥(0:Int)))=true then k (decide (n0≤most)) else k false
def km (n:Nat) (n0 most:Int):Option Bool:=mS n n0 most some
theorem Qeb (n:Nat) {S:Type}:∀ n0 most (φ:_→Option S),(km n n0 most).bind φ=mS n n0 most φ:=by
  intros;unfold km mS;first | (simp only [fa,ba,iB,bB,oL,oX,nB,Option.bind_some]) | rfl
def fU (n:Nat):Hint Out:={ live:=fun c=>[],run:=fun c=>none,xm:=fun c q=>none }
theorem E7 (n:Nat):qa tys (da Out (oP n)) (fU n) n (aa Tryz.f22) 0:=oa (fun _=>rfl) _ _ (by kernel_rfl)
theorem dbb (n:Nat):Enters Tryz.prog 22:=enters_of (c:=aa Tryz.f22) Tryz.func22 (by kernel_rfl) (by kernel_rfl)
def O4 (n:Nat):Entry:=⟨22,pcT (.pair (.int .i64) (.pair (.int .i64) .unit)) (.one .bool) (fun xs=>km n xs.1 xs.2.1),none,none⟩
theorem rdb (n:Nat):EntryOk Tryz.prog gl (O4 n):=wa (dbb n) fun xs y h=>ja tys_ok (KM n) mixed (hint:=fU n) (n:=n) Tryz.func22 (Ea (E7 n)) (ma (φ:=(fun y=>some (Out.ret (Uc (.one .bool) y)))) (by kernel_rfl) (Qeb n xs.1 xs.2.1 _) h)
def fF (n:Nat):List Entry:=O4 n::oP n
theorem tQ (n:Nat):AllOk Tryz.prog gl (fF n):=.cons (rdb n) (KM n)
def Td (n:Nat) {R:Type} (l1:(Sq Int)) (i:Int) (kn:(Sq Int)→Int→Option R) (ko:(Unit)→Option R) (kr:(Bool)→Option R) (kp:Int→Option R):Option R:=if (decide (i<(l1.n:Int)))=true then if 0≤i∧i<(l1.n:Int) then if (decide ((l1.at' (Int.toNat i))<(1:Int)))=false then if 0≤i∧i<(l1.n:Int) then if (decide ((l1.at' (Int.toNat i))>(1099511627776:Int)))=true then kr false else kn l1 (IntKind.wrap .i64 (i+(1:Int))) else none else kr false else none else ko ()
def Wa (n:Nat):Nat→(Sq Int)→Int→Option (Lx (Unit) (Bool))
 | 0,_,_=>none
 | m+1,l1,i=>Td n l1 i (Wa n m) (fun a=>some (.out a)) (fun a=>some (.ret a)) (fun p=>some (.pan p))
theorem yD (n m:Nat) {S:Type}:∀ l1 i (φ:_→Option S),(Wa n (m+1) l1 i).bind φ=Td n l1 i (fun l1 i=>(Wa n m l1 i).bind φ) (fun a=>φ (.out a)) (fun a=>φ (.ret a)) (fun p=>φ (.pan p)):=by
  intros;first | (simp only [Wa,Td,fa,ba,iB,bB,oL,oX,nB,Option.bind_some]) | rfl
def xi:List Sl:=.dat (.sl (.int .i64))::.top::.top::.dat (.int .i64)::tp 26 []
def wi:List RS:=[]
def wv:List Sl:=tp 30 []
def vv:List RS:=[]
def yv:List Sl:=.top::.top::.dat .bool::tp 27 []
def xv:List RS:=[]
def jc (K:XE→List AV→ia→Option Out):Lx (Unit) (Bool)→Option Out:=fun x=>onL x (fun a=>Ye wv vv () () (K (.exit 0))) (fun a=>Ye yv xv (a,()) () (K .ret)) (fun _=>none)
def vi (n:Nat) {R:Type} (l:(Sq Int)) (k:Bool→Option R):Option R:=if (decide ((l.n:Int)<(1:Int)))=false then if (decide ((l.n:Int)>(16:Int)))=true then k false else (Wa n n l (0:Int)).bind fun x_1=>onL x_1 (fun a_2=>k true) (fun a_3=>k a_3) (fun _=>none) else k false
def vf (n:Nat) (l:(Sq Int)):Option Bool:=vi n l some
theorem NJ (n:Nat) {S:Type}:∀ l (φ:_→Option S),(vf n l).bind φ=vi n l φ:=by
  intros;unfold vf vi;first | (simp only [fa,ba,iB,bB,oL,oX,nB,Option.bind_some]) | rfl
def dg (n:Nat):Hint Out:={ live:=fun c=>(cond (Nat.beq c 0) [(0,some (.sl (.int .i64))),(3,none)] []),run:=fun c=>(cond (Nat.beq c 0) (some (Zl xi wi fun σ ρ K=>(Wa n n σ.1 σ.2.1).bind (jc K))) none),xm:=fun c q=>(cond (Nat.beq c 0&&Nat.beq (q.getD 1000000) 0&&q.isSome) (some []) (cond (Nat.beq c 1&&q.isNone) (some [(2,none)]) none)) }
def cg (n:Nat) (K:XE→List AV→ia→Option Out) (m:Nat) (l1:(Sq Int)) (i:Int):Option Out:=rd tys (da Out (fF n)) (dg n) n (ta [1,1,0,1,0,0] (aa Tryz.f82)) 0 xi wi K m (l1,(i,())) ()
theorem lp (n:Nat) (K:XE→List AV→ia→Option Out):∀ (m:Nat) l1 i,cg n K m l1 i=(Wa n m l1 i).bind (jc K)
  | 0,_,_=>by kernel_rfl
  | m+1,l1,i=>by
    have h1:cg n K (m+1) l1 i=Td n l1 i (cg n K m) (fun a=>jc K (.out a)) (fun a=>jc K (.ret a)) (fun p=>jc K (.pan p)):=by kernel_rfl
    have h2:cg n K m=fun l1 i=>(Wa n m l1 i).bind (jc K):=by
      repeat (refine funext fun _=>?_)
      exact lp n K m _ _
    rw [h1,h2];exact (yD n m _ _ (jc K)).symm
theorem VB (n:Nat):Vc tys (da Out (fF n)) (dg n) n (ta [1,1,0,1,0,0] (aa Tryz.f82)) 0:=Ca (sp:=xi) (rp:=wi) (by kernel_rfl) fun K σ ρ=>lp n K n σ.1 σ.2.1
theorem zD (n:Nat):qa tys (da Out (fF n)) (dg n) n (aa Tryz.f82) 0:=⟨trivial,⟨⟨trivial,⟨⟨trivial,trivial⟩,trivial⟩⟩,⟨⟨trivial,⟨VB n,⟨⟨trivial,⟨trivial,trivial⟩⟩,⟨⟨trivial,⟨⟨trivial,trivial⟩,trivial⟩⟩,trivial⟩⟩⟩⟩,⟨trivial,trivial⟩⟩⟩⟩
theorem QE (n:Nat):Enters Tryz.prog 82:=enters_of (c:=aa Tryz.f82) Tryz.func82 (by kernel_rfl) (by kernel_rfl)
def Ks (n:Nat):Entry:=⟨82,pcT (.pair (.sl (.int .i64)) .unit) (.one .bool) (fun xs=>vf n xs.1),none,none⟩
theorem AH (n:Nat):EntryOk Tryz.prog gl (Ks n):=wa (QE n) fun xs y h=>ja tys_ok (tQ n) mixed (hint:=dg n) (n:=n) Tryz.func82 (Ea (zD n)) (ma (φ:=(fun y=>some (Out.ret (Uc (.one .bool) y)))) (by kernel_rfl) (NJ n xs.1 _) h)
def Te (n:Nat):List Entry:=Ks n::fF n
theorem Yn (n:Nat):AllOk Tryz.prog gl (Te n):=.cons (AH n) (tQ n)
def Ke (n:Nat) {R:Type} (s1:BA) (i:Int) (kn:BA→Int→Option R) (ko:(BA)→Option R) (kr:(Bool)→Option R) (kp:Int→Option R):Option R:=if (decide (i<(s1.size:Int)))=true then if 0≤i∧i<(s1.size:Int) then if (decide ((bt s1 i)<(97:Int)))=false then if 0≤i∧i<(s1.size:Int) then if (decide ((bt s1 i)>(122:Int)))=true then kr false else kn s1 (IntKind.wrap .i64 (i+(1:Int))) else none else kr false else none else ko s1
def yb (n:Nat):Nat→BA→Int→Option (Lx (BA) (Bool))
 | 0,_,_=>none
 | m+1,s1,i=>Ke n s1 i (yb n m) (fun a=>some (.out a)) (fun a=>some (.ret a)) (fun p=>some (.pan p))
theorem rH (n m:Nat) {S:Type}:∀ s1 i (φ:_→Option S),(yb n (m+1) s1 i).bind φ=Ke n s1 i (fun s1 i=>(yb n m s1 i).bind φ) (fun a=>φ (.out a)) (fun a=>φ (.ret a)) (fun p=>φ (.pan p)):=by
  intros;first | (simp only [yb,Ke,fa,ba,iB,bB,oL,oX,nB,Option.bind_some]) | rfl
def fk:List Sl:=.dat .str::.top::.top::.dat (.int .i64)::tp 24 []
def ek:List RS:=[]
def jz:List Sl:=.dat .str::tp 27 []
def iz:List RS:=[]
def lz:List Sl:=.top::.top::.dat .bool::tp 25 []
def kz:List RS:=[]
def Lc (K:XE→List AV→ia→Option Out):Lx (BA) (Bool)→Option Out:=fun x=>onL x (fun a=>Ye jz iz (a,()) () (K (.exit 0))) (fun a=>Ye lz kz (a,()) () (K .ret)) (fun _=>none)
def bl (n:Nat) {R:Type} (s:BA) (k:Bool→Option R):Option R:=(yb n n s (0:Int)).bind fun x_1=>onL x_1 (fun a_2=>if (decide ((a_2.size:Int)≥(1:Int)))=true then k (decide ((a_2.size:Int)≤(32:Int))) else k false) (fun a_3=>k a_3) (fun _=>none)
def vh (n:Nat) (s:BA):Option Bool:=bl n s some
theorem QO (n:Nat) {S:Type}:∀ s (φ:_→Option S),(vh n s).bind φ=bl n s φ:=by
  intros;unfold vh bl;first | (simp only [fa,ba,iB,bB,oL,oX,nB,Option.bind_some]) | rfl
def Zg (n:Nat):Hint Out:={ live:=fun c=>(cond (Nat.beq c 0) [(0,none),(3,none)] []),run:=fun c=>(cond (Nat.beq c 0) (some (Zl fk ek fun σ ρ K=>(yb n n σ.1 σ.2.1).bind (Lc K))) none),xm:=fun c q=>(cond (Nat.beq c 0&&Nat.beq (q.getD 1000000) 0&&q.isSome) (some [(0,none)]) (cond (Nat.beq c 1&&q.isNone) (some [(2,none)]) none)) }
def Yg (n:Nat) (K:XE→List AV→ia→Option Out) (m:Nat) (s1:BA) (i:Int):Option Out:=rd tys (da Out (Te n)) (Zg n) n (ta [1,0,1,0,0] (aa Tryz.f83)) 0 fk ek K m (s1,(i,())) ()
theorem Fs (n:Nat) (K:XE→List AV→ia→Option Out):∀ (m:Nat) s1 i,Yg n K m s1 i=(yb n m s1 i).bind (Lc K)
  | 0,_,_=>by kernel_rfl
  | m+1,s1,i=>by
    have h1:Yg n K (m+1) s1 i=Ke n s1 i (Yg n K m) (fun a=>Lc K (.out a)) (fun a=>Lc K (.ret a)) (fun p=>Lc K (.pan p)):=by kernel_rfl
    have h2:Yg n K m=fun s1 i=>(yb n m s1 i).bind (Lc K):=by
      repeat (refine funext fun _=>?_)
      exact Fs n K m _ _
    rw [h1,h2];exact (rH n m _ _ (Lc K)).symm
theorem LE (n:Nat):Vc tys (da Out (Te n)) (Zg n) n (ta [1,0,1,0,0] (aa Tryz.f83)) 0:=Ca (sp:=fk) (rp:=ek) (by kernel_rfl) fun K σ ρ=>Fs n K n σ.1 σ.2.1
theorem sH (n:Nat):qa tys (da Out (Te n)) (Zg n) n (aa Tryz.f83) 0:=⟨trivial,⟨⟨trivial,⟨LE n,⟨⟨trivial,⟨trivial,trivial⟩⟩,⟨⟨trivial,⟨⟨trivial,trivial⟩,trivial⟩⟩,trivial⟩⟩⟩⟩,⟨trivial,trivial⟩⟩⟩
theorem HJ (n:Nat):Enters Tryz.prog 83:=enters_of (c:=aa Tryz.f83) Tryz.func83 (by kernel_rfl) (by kernel_rfl)
def dx (n:Nat):Entry:=⟨83,pcT (.pair .str .unit) (.one .bool) (fun xs=>vh n xs.1),none,none⟩
theorem YL (n:Nat):EntryOk Tryz.prog gl (dx n):=wa (HJ n) fun xs y h=>ja tys_ok (Yn n) mixed (hint:=Zg n) (n:=n) Tryz.func83 (Ea (sH n)) (ma (φ:=(fun y=>some (Out.ret (Uc (.one .bool) y)))) (by kernel_rfl) (QO n xs.1 _) h)
def Wn (n:Nat):List Entry:=dx n::Te n
theorem Zq (n:Nat):AllOk Tryz.prog gl (Wn n):=.cons (YL n) (Yn n)
def Cj (n:Nat) {R:Type} (b:(Int×U3)) (k:Bool→Option R):Option R:=(km n b.2.1 (1048576:Int)).bind fun v=>if v=true then (km n b.2.2.1 (1048576:Int)).bind fun v1=>if v1=true then (km n b.1 b.2.1).bind fun v2=>if v2=true then if (decide (b.2.2.2.1≥(1:Int)))=true then if (decide (b.2.2.2.1≤(1048576:Int)))=true then (km n b.2.2.2.2.1 (IntKind.wrap .i64 (b.2.2.2.1 - (1:Int)))).bind fun v3=>k v3 else k false else k false else k false else k false else k false
def ng (n:Nat) (b:(Int×U3)):Option Bool:=Cj n b some
theorem dM (n:Nat) {S:Type}:∀ b (φ:_→Option S),(ng n b).bind φ=Cj n b φ:=by
  intros;unfold ng Cj;first | (simp only [fa,ba,iB,bB,oL,oX,nB,Option.bind_some]) | rfl
def er (n:Nat):Hint Out:={ live:=fun c=>[],run:=fun c=>none,xm:=fun c q=>none }
theorem RE (n:Nat):qa tys (da Out (Wn n)) (er n) n (aa Tryz.f84) 0:=oa (fun _=>rfl) _ _ (by kernel_rfl)
theorem BH (n:Nat):Enters Tryz.prog 84:=enters_of (c:=aa Tryz.f84) Tryz.func84 (by kernel_rfl) (by kernel_rfl)
def zv (n:Nat):Entry:=⟨84,pcT K12 (.one .bool) (fun xs=>ng n xs.1),none,none⟩
theorem OJ (n:Nat):EntryOk Tryz.prog gl (zv n):=wa (BH n) fun xs y h=>ja tys_ok (Zq n) mixed (hint:=er n) (n:=n) Tryz.func84 (Ea (RE n)) (ma (φ:=(fun y=>some (Out.ret (Uc (.one .bool) y)))) (by kernel_rfl) (dM n xs.1 _) h)
def Qb (n:Nat):List Entry:=zv n::Wn n
theorem np (n:Nat):AllOk Tryz.prog gl (Qb n):=.cons (OJ n) (Zq n)
def Pd (n:Nat) {R:Type} (i:Int) (c1:(Sq T2)) (c2:BA) (c3 c4:Int) (c5:(Sq Int)) (c6 c7:Int) (c8:Nat) (kn:Int→(Sq T2)→BA→Int→Int→(Sq Int)→Int→Int→Nat→Option R) (ko:((Sq T2)×BA×Int×Int×(Sq Int)×Int×Int×Nat)→Option R) (kr:(Bool)→Option R) (kp:Int→Option R):Option R:=if (decide (i<(c5.n:Int)))=true then if 0≤i∧i<(c5.n:Int) then if (decide ((c5.at' (Int.toNat i))>(1073741824:Int)))=true then kr false else kn (IntKind.wrap .i64 (i+(1:Int))) c1 c2 c3 c4 c5 c6 c7 c8 else none else ko (c1,c2,c3,c4,c5,c6,c7,c8)
def Ta (n:Nat):Nat→Int→(Sq T2)→BA→Int→Int→(Sq Int)→Int→Int→Nat→Option (Lx ((Sq T2)×BA×Int×Int×(Sq Int)×Int×Int×Nat) (Bool))
 | 0,_,_,_,_,_,_,_,_,_=>none
 | m+1,i,c1,c2,c3,c4,c5,c6,c7,c8=>Pd n i c1 c2 c3 c4 c5 c6 c7 c8 (Ta n m) (fun a=>some (.out a)) (fun a=>some (.ret a)) (fun p=>some (.pan p))
theorem uD (n m:Nat) {S:Type}:∀ i c1 c2 c3 c4 c5 c6 c7 c8 (φ:_→Option S),(Ta n (m+1) i c1 c2 c3 c4 c5 c6 c7 c8).bind φ=Pd n i c1 c2 c3 c4 c5 c6 c7 c8 (fun i c1 c2 c3 c4 c5 c6 c7 c8=>(Ta n m i c1 c2 c3 c4 c5 c6 c7 c8).bind φ) (fun a=>φ (.out a)) (fun a=>φ (.ret a)) (fun p=>φ (.pan p)):=by
  intros;first | (simp only [Ta,Pd,fa,ba,iB,bB,oL,oX,nB,Option.bind_some]) | rfl
def ni:List Sl:=.top::.ptr 0 0 0::.top::.dat (.int .i64)::tp 149 []
def mi:List RS:=[.box 29 8 true [.dat (.sl K6),.dat .str,.dat (.int .i64),.dat (.int .i64),.dat (.sl (.int .i64)),.dat (.int .i64),.dat (.int .i64),.dat (.flt .f64)]]
def Zu:List Sl:=.top::.ptr 0 0 0::tp 151 []
def Yu:List RS:=[.box 29 8 true [.dat (.sl K6),.dat .str,.dat (.int .i64),.dat (.int .i64),.dat (.sl (.int .i64)),.dat (.int .i64),.dat (.int .i64),.dat (.flt .f64)]]
def iv:List Sl:=.top::.top::.dat .bool::tp 150 []
def fv:List RS:=[]
def ec (K:XE→List AV→ia→Option Out):Lx ((Sq T2)×BA×Int×Int×(Sq Int)×Int×Int×Nat) (Bool)→Option Out:=fun x=>onL x (fun a=>Ye Zu Yu () ((a.1,(a.2.1,(a.2.2.1,(a.2.2.2.1,(a.2.2.2.2.1,(a.2.2.2.2.2.1,(a.2.2.2.2.2.2.1,(a.2.2.2.2.2.2.2,())))))))),()) (K (.exit 0))) (fun a=>Ye iv fv (a,()) () (K .ret)) (fun _=>none)
def Rd (n:Nat) {R:Type} (i2 k0:Int) (c25:(Sq T2)) (c26:BA) (c27 c28:Int) (c29:(Sq Int)) (c30 c31:Int) (c32:Nat) (t:BA) (t1 t2 t3 t4 t5 t6 t7 t8:Int) (t9:Bool) (kn:Int→Int→(Sq T2)→BA→Int→Int→(Sq Int)→Int→Int→Nat→BA→Int→Int→Int→Int→Int→Int→Int→Int→Bool→Option R) (ko:(Int×(Sq T2)×BA×Int×Int×(Sq Int)×Int×Int×Nat)→Option R) (kr:(Bool)→Option R) (kp:Int→Option R):Option R:=if (decide (k0<i2))=true then if 0≤k0∧k0<(c25.n:Int) then if ((((c25.at' (Int.toNat k0))).1).toList==t.toList)=true then kr false else kn i2 (IntKind.wrap .i64 (k0+(1:Int))) c25 c26 c27 c28 c29 c30 c31 c32 t t1 t2 t3 t4 t5 t6 t7 t8 t9 else none else ko (i2,c25,c26,c27,c28,c29,c30,c31,c32)
def Va (n:Nat):Nat→Int→Int→(Sq T2)→BA→Int→Int→(Sq Int)→Int→Int→Nat→BA→Int→Int→Int→Int→Int→Int→Int→Int→Bool→Option (Lx (Int×(Sq T2)×BA×Int×Int×(Sq Int)×Int×Int×Nat) (Bool))
 | 0,_,_,_,_,_,_,_,_,_,_,_,_,_,_,_,_,_,_,_,_=>none
 | m+1,i2,k0,c25,c26,c27,c28,c29,c30,c31,c32,t,t1,t2,t3,t4,t5,t6,t7,t8,t9=>Rd n i2 k0 c25 c26 c27 c28 c29 c30 c31 c32 t t1 t2 t3 t4 t5 t6 t7 t8 t9 (Va n m) (fun a=>some (.out a)) (fun a=>some (.ret a)) (fun p=>some (.pan p))
theorem wD (n m:Nat) {S:Type}:∀ i2 k0 c25 c26 c27 c28 c29 c30 c31 c32 t t1 t2 t3 t4 t5 t6 t7 t8 t9 (φ:_→Option S),(Va n (m+1) i2 k0 c25 c26 c27 c28 c29 c30 c31 c32 t t1 t2 t3 t4 t5 t6 t7 t8 t9).bind φ=Rd n i2 k0 c25 c26 c27 c28 c29 c30 c31 c32 t t1 t2 t3 t4 t5 t6 t7 t8 t9 (fun i2 k0 c25 c26 c27 c28 c29 c30 c31 c32 t t1 t2 t3 t4 t5 t6 t7 t8 t9=>(Va n m i2 k0 c25 c26 c27 c28 c29 c30 c31 c32 t t1 t2 t3 t4 t5 t6 t7 t8 t9).bind φ) (fun a=>φ (.out a)) (fun a=>φ (.ret a)) (fun p=>φ (.pan p)):=by
  intros;first | (simp only [Va,Rd,fa,ba,iB,bB,oL,oX,nB,Option.bind_some]) | rfl
def si:List Sl:=.top::.ptr 0 0 0::.top::.top::.dat (.int .i64)::.ptr 1 0 0::.dat (.int .i64)::tp 146 []
def ri:List RS:=[.box 29 8 true [.dat (.sl K6),.dat .str,.dat (.int .i64),.dat (.int .i64),.dat (.sl (.int .i64)),.dat (.int .i64),.dat (.int .i64),.dat (.flt .f64)],.box 89 10 true [.dat .str,.dat (.int .i64),.dat (.int .i64),.dat (.int .i64),.dat (.int .i64),.dat (.int .i64),.dat (.int .i64),.dat (.int .i64),.dat (.int .i64),.dat .bool]]
def qv:List Sl:=.top::.ptr 0 0 0::.top::.top::.dat (.int .i64)::tp 148 []
def pv:List RS:=[.box 29 8 true [.dat (.sl K6),.dat .str,.dat (.int .i64),.dat (.int .i64),.dat (.sl (.int .i64)),.dat (.int .i64),.dat (.int .i64),.dat (.flt .f64)]]
def tv:List Sl:=.top::.top::.dat .bool::tp 150 []
def sv:List RS:=[]
def ic (K:XE→List AV→ia→Option Out):Lx (Int×(Sq T2)×BA×Int×Int×(Sq Int)×Int×Int×Nat) (Bool)→Option Out:=fun x=>onL x (fun a=>Ye qv pv (a.1,()) ((a.2.1,(a.2.2.1,(a.2.2.2.1,(a.2.2.2.2.1,(a.2.2.2.2.2.1,(a.2.2.2.2.2.2.1,(a.2.2.2.2.2.2.2.1,(a.2.2.2.2.2.2.2.2,())))))))),()) (K (.exit 4))) (fun a=>Ye tv sv (a,()) () (K .ret)) (fun _=>none)
def Qd (n:Nat) {R:Type} (i1:Int) (c17:(Sq T2)) (c18:BA) (c19 c20:Int) (c21:(Sq Int)) (c22 c23:Int) (c24:Nat) (kn:Int→(Sq T2)→BA→Int→Int→(Sq Int)→Int→Int→Nat→Option R) (ko:(Unit)→Option R) (kr:(Bool)→Option R) (kp:Int→Option R):Option R:=if (decide (i1<(c17.n:Int)))=true then if 0≤i1∧i1<(c17.n:Int) then (vh n (((c17.at' (Int.toNat i1))).1)).bind fun v4=>if (!v4)=false then (km n ((((c17.at' (Int.toNat i1))).2).1) (1073741824:Int)).bind fun v5=>if (!v5)=false then (km n (((((c17.at' (Int.toNat i1))).2).2).1) (64:Int)).bind fun v6=>if (!v6)=false then if (decide (((((((c17.at' (Int.toNat i1))).2).2).2).1)<(1:Int)))=false then if (decide (((((((c17.at' (Int.toNat i1))).2).2).2).1)>(16384:Int)))=false then (ng n ((((((((c17.at' (Int.toNat i1))).2).2).2).2).1).1,(((((((((c17.at' (Int.toNat i1))).2).2).2).2).1).2).1,((((((((((c17.at' (Int.toNat i1))).2).2).2).2).1).2).2).1,(((((((((((c17.at' (Int.toNat i1))).2).2).2).2).1).2).2).2).1,((((((((((((c17.at' (Int.toNat i1))).2).2).2).2).1).2).2).2).2).1,())))))).bind fun v7=>if (!v7)=false then if (((((((((c17.at' (Int.toNat i1))).2).2).2).2).1).1) !=(((((((((c17.at' (Int.toNat i1))).2).2).2).2).1).2).1))=false then if (((((((((((((c17.at' (Int.toNat i1))).2).2).2).2).1).2).2).2).2).1) !=(0:Int))=true then kr false else (Va n n i1 (0:Int) c17 c18 c19 c20 c21 c22 c23 c24 (((c17.at' (Int.toNat i1))).1) ((((c17.at' (Int.toNat i1))).2).1) (((((c17.at' (Int.toNat i1))).2).2).1) ((((((c17.at' (Int.toNat i1))).2).2).2).1) ((((((((c17.at' (Int.toNat i1))).2).2).2).2).1).1) (((((((((c17.at' (Int.toNat i1))).2).2).2).2).1).2).1) ((((((((((c17.at' (Int.toNat i1))).2).2).2).2).1).2).2).1) (((((((((((c17.at' (Int.toNat i1))).2).2).2).2).1).2).2).2).1) ((((((((((((c17.at' (Int.toNat i1))).2).2).2).2).1).2).2).2).2).1) ((((((((c17.at' (Int.toNat i1))).2).2).2).2).2).1)).bind fun x_1=>onL x_1
 (fun a_2=>kn (IntKind.wrap .i64 (a_2.1+(1:Int))) a_2.2.1 a_2.2.2.1 a_2.2.2.2.1 a_2.2.2.2.2.1 a_2.2.2.2.2.2.1 a_2.2.2.2.2.2.2.1 a_2.2.2.2.2.2.2.2.1 a_2.2.2.2.2.2.2.2.2) (fun a_3=>kr a_3) (fun _=>none) else kr false else kr false else kr false else kr false else kr false else kr false else kr false else none else ko ()
def Ua (n:Nat):Nat→Int→(Sq T2)→BA→Int→Int→(Sq Int)→Int→Int→Nat→Option (Lx (Unit) (Bool))
 | 0,_,_,_,_,_,_,_,_,_=>none
 | m+1,i1,c17,c18,c19,c20,c21,c22,c23,c24=>Qd n i1 c17 c18 c19 c20 c21 c22 c23 c24 (Ua n m) (fun a=>some (.out a)) (fun a=>some (.ret a)) (fun p=>some (.pan p))
theorem vD (n m:Nat) {S:Type}:∀ i1 c17 c18 c19 c20 c21 c22 c23 c24 (φ:_→Option S),(Ua n (m+1) i1 c17 c18 c19 c20 c21 c22 c23 c24).bind φ=Qd n i1 c17 c18 c19 c20 c21 c22 c23 c24 (fun i1 c17 c18 c19 c20 c21 c22 c23 c24=>(Ua n m i1 c17 c18 c19 c20 c21 c22 c23 c24).bind φ) (fun a=>φ (.out a)) (fun a=>φ (.ret a)) (fun p=>φ (.pan p)):=by
  intros;first | (simp only [Ua,Qd,fa,ba,iB,bB,oL,oX,nB,Option.bind_some]) | rfl
def qi:List Sl:=.top::.ptr 0 0 0::.top::.top::.dat (.int .i64)::tp 148 []
def pi:List RS:=[.box 29 8 true [.dat (.sl K6),.dat .str,.dat (.int .i64),.dat (.int .i64),.dat (.sl (.int .i64)),.dat (.int .i64),.dat (.int .i64),.dat (.flt .f64)]]
def mv:List Sl:=tp 153 []
def jv:List RS:=[]
def ov:List Sl:=.top::.top::.dat .bool::tp 150 []
def nv:List RS:=[]
def fc (K:XE→List AV→ia→Option Out):Lx (Unit) (Bool)→Option Out:=fun x=>onL x (fun a=>Ye mv jv () () (K (.exit 2))) (fun a=>Ye ov nv (a,()) () (K .ret)) (fun _=>none)
def li (n:Nat) {R:Type} (c:T3) (k:Bool→Option R):Option R:=if (decide ((c.1.n:Int)<(1:Int)))=false then if (decide ((c.1.n:Int)>(4:Int)))=false then if (decide ((c.2.1.size:Int)>(200:Int)))=false then (nP n c.2.1).bind fun v=>if (!v)=false then (km n c.2.2.1 (1099511627776:Int)).bind fun v1=>if (!v1)=false then if (decide (c.2.2.2.1<(1:Int)))=false then if (decide (c.2.2.2.1>(1099511627776:Int)))=false then (vf n c.2.2.2.2.1).bind fun v2=>if (!v2)=false then if (decide (c.2.2.2.2.2.1<(1:Int)))=false then if (decide (c.2.2.2.2.2.1>(1048576:Int)))=false then (km n c.2.2.2.2.2.2.1 (1073741824:Int)).bind fun v3=>if (!v3)=true then k false else (Ta n n (0:Int) c.1 c.2.1 c.2.2.1 c.2.2.2.1 c.2.2.2.2.1 c.2.2.2.2.2.1 c.2.2.2.2.2.2.1 c.2.2.2.2.2.2.2.1).bind fun x_1=>onL x_1 (fun a_2=>(Ua n n (0:Int) a_2.1 a_2.2.1 a_2.2.2.1 a_2.2.2.2.1 a_2.2.2.2.2.1 a_2.2.2.2.2.2.1 a_2.2.2.2.2.2.2.1 a_2.2.2.2.2.2.2.2).bind fun x_3=>onL x_3 (fun a_4=>k true) (fun a_5=>k a_5) (fun _=>none)) (fun a_6=>k a_6) (fun _=>none) else k false else k false else k false else k false else k false else k false else k false else k false else k false else k false
def be (n:Nat) (c:T3):Option Bool:=li n c some
theorem DJ (n:Nat) {S:Type}:∀ c (φ:_→Option S),(be n c).bind φ=li n c φ:=by
  intros;unfold be li;first | (simp only [fa,ba,iB,bB,oL,oX,nB,Option.bind_some]) | rfl
def Hb (n:Nat):Hint Out:={ live:=fun c=>(cond (Nat.beq c 2) [(1,none),(4,none)] (cond (Nat.beq c 4) (lv [1,4,5,6]) (cond (Nat.beq c 0) [(1,none),(3,none)] []))),run:=fun c=>(cond (Nat.beq c 2) (some (Zl qi pi fun σ ρ K=>(Ua n n σ.1 ρ.1.1 ρ.1.2.1 ρ.1.2.2.1 ρ.1.2.2.2.1 ρ.1.2.2.2.2.1 ρ.1.2.2.2.2.2.1 ρ.1.2.2.2.2.2.2.1 ρ.1.2.2.2.2.2.2.2.1).bind (fc K))) (cond (Nat.beq c 4) (some (Zl si ri fun σ ρ K=>(Va n n σ.1 σ.2.1 ρ.1.1 ρ.1.2.1 ρ.1.2.2.1 ρ.1.2.2.2.1 ρ.1.2.2.2.2.1 ρ.1.2.2.2.2.2.1 ρ.1.2.2.2.2.2.2.1 ρ.1.2.2.2.2.2.2.2.1 ρ.2.1.1 ρ.2.1.2.1 ρ.2.1.2.2.1 ρ.2.1.2.2.2.1 ρ.2.1.2.2.2.2.1 ρ.2.1.2.2.2.2.2.1 ρ.2.1.2.2.2.2.2.2.1 ρ.2.1.2.2.2.2.2.2.2.1 ρ.2.1.2.2.2.2.2.2.2.2.1 ρ.2.1.2.2.2.2.2.2.2.2.2.1).bind (ic K))) (cond (Nat.beq c 0) (some (Zl ni mi fun σ ρ K=>(Ta n n σ.1 ρ.1.1 ρ.1.2.1 ρ.1.2.2.1 ρ.1.2.2.2.1 ρ.1.2.2.2.2.1 ρ.1.2.2.2.2.2.1 ρ.1.2.2.2.2.2.2.1 ρ.1.2.2.2.2.2.2.2.1).bind (ec K))) none))),xm:=fun c q=>(cond (Nat.beq c 2&&Nat.beq (q.getD 1000000) 2&&q.isSome) (some []) (cond (Nat.beq c 4&&Nat.beq (q.getD 1000000) 4&&q.isSome) (some [(1,none),(4,none)]) (cond (Nat.beq c 5&&q.isNone) (some [(2,none)]) (cond (Nat.beq c 3&&q.isNone) (some [(2,none)]) (cond (Nat.beq c 0&&Nat.beq (q.getD 1000000) 0&&q.isSome) (some [(1,none)]) (cond (Nat.beq c 1&&q.isNone) (some [(2,none)]) none)))))) }
def Yf (n:Nat) (K:XE→List AV→ia→Option Out) (m:Nat) (i:Int) (c1:(Sq T2)) (c2:BA) (c3:Int) (c4:Int) (c5:(Sq Int)) (c6:Int) (c7:Int) (c8:Nat):Option Out:=rd tys (da Out (Qb n)) (Hb n) n (ta [1,1,0,1,0,0] (aa Tryz.f36)) 0 ni mi K m (i,()) ((c1,(c2,(c3,(c4,(c5,(c6,(c7,(c8,())))))))),())
theorem gp (n:Nat) (K:XE→List AV→ia→Option Out):∀ (m:Nat) i c1 c2 c3 c4 c5 c6 c7 c8,Yf n K m i c1 c2 c3 c4 c5 c6 c7 c8=(Ta n m i c1 c2 c3 c4 c5 c6 c7 c8).bind (ec K)
  | 0,_,_,_,_,_,_,_,_,_=>by kernel_rfl
  | m+1,i,c1,c2,c3,c4,c5,c6,c7,c8=>by
    have h1:Yf n K (m+1) i c1 c2 c3 c4 c5 c6 c7 c8=Pd n i c1 c2 c3 c4 c5 c6 c7 c8 (Yf n K m) (fun a=>ec K (.out a)) (fun a=>ec K (.ret a)) (fun p=>ec K (.pan p)):=by kernel_rfl
    have h2:Yf n K m=fun i c1 c2 c3 c4 c5 c6 c7 c8=>(Ta n m i c1 c2 c3 c4 c5 c6 c7 c8).bind (ec K):=by
      repeat (refine funext fun _=>?_)
      exact gp n K m _ _ _ _ _ _ _ _ _
    rw [h1,h2];exact (uD n m _ _ _ _ _ _ _ _ _ (ec K)).symm
theorem SB (n:Nat):Vc tys (da Out (Qb n)) (Hb n) n (ta [1,1,0,1,0,0] (aa Tryz.f36)) 0:=Ca (sp:=ni) (rp:=mi) (by kernel_rfl) fun K σ ρ=>gp n K n σ.1 ρ.1.1 ρ.1.2.1 ρ.1.2.2.1 ρ.1.2.2.2.1 ρ.1.2.2.2.2.1 ρ.1.2.2.2.2.2.1 ρ.1.2.2.2.2.2.2.1 ρ.1.2.2.2.2.2.2.2.1
def bg (n:Nat) (K:XE→List AV→ia→Option Out) (m:Nat) (i2:Int) (k0:Int) (c25:(Sq T2)) (c26:BA) (c27:Int) (c28:Int) (c29:(Sq Int)) (c30:Int) (c31:Int) (c32:Nat) (t:BA) (t1:Int) (t2:Int) (t3:Int) (t4:Int) (t5:Int) (t6:Int) (t7:Int) (t8:Int) (t9:Bool):Option Out:=rd tys (da Out (Qb n)) (Hb n) n (ta [1,1,1,0,1,0,0,1,0,0,1,1,1,0,0] (aa Tryz.f36)) 4 si ri K m (i2,(k0,())) ((c25,(c26,(c27,(c28,(c29,(c30,(c31,(c32,())))))))),((t,(t1,(t2,(t3,(t4,(t5,(t6,(t7,(t8,(t9,())))))))))),()))
theorem jp (n:Nat) (K:XE→List AV→ia→Option Out):∀ (m:Nat) i2 k0 c25 c26 c27 c28 c29 c30 c31 c32 t t1 t2 t3 t4 t5 t6 t7 t8 t9,bg n K m i2 k0 c25 c26 c27 c28 c29 c30 c31 c32 t t1 t2 t3 t4 t5 t6 t7 t8 t9=(Va n m i2 k0 c25 c26 c27 c28 c29 c30 c31 c32 t t1 t2 t3 t4 t5 t6 t7 t8 t9).bind (ic K)
  | 0,_,_,_,_,_,_,_,_,_,_,_,_,_,_,_,_,_,_,_,_=>by kernel_rfl
  | m+1,i2,k0,c25,c26,c27,c28,c29,c30,c31,c32,t,t1,t2,t3,t4,t5,t6,t7,t8,t9=>by
    have h1:bg n K (m+1) i2 k0 c25 c26 c27 c28 c29 c30 c31 c32 t t1 t2 t3 t4 t5 t6 t7 t8 t9=Rd n i2 k0 c25 c26 c27 c28 c29 c30 c31 c32 t t1 t2 t3 t4 t5 t6 t7 t8 t9 (bg n K m) (fun a=>ic K (.out a)) (fun a=>ic K (.ret a)) (fun p=>ic K (.pan p)):=by kernel_rfl
    have h2:bg n K m=fun i2 k0 c25 c26 c27 c28 c29 c30 c31 c32 t t1 t2 t3 t4 t5 t6 t7 t8 t9=>(Va n m i2 k0 c25 c26 c27 c28 c29 c30 c31 c32 t t1 t2 t3 t4 t5 t6 t7 t8 t9).bind (ic K):=by
      repeat (refine funext fun _=>?_)
      exact jp n K m _ _ _ _ _ _ _ _ _ _ _ _ _ _ _ _ _ _ _ _
    rw [h1,h2];exact (wD n m _ _ _ _ _ _ _ _ _ _ _ _ _ _ _ _ _ _ _ _ (ic K)).symm
theorem UB (n:Nat):Vc tys (da Out (Qb n)) (Hb n) n (ta [1,1,1,0,1,0,0,1,0,0,1,1,1,0,0] (aa Tryz.f36)) 4:=Ca (sp:=si) (rp:=ri) (by kernel_rfl) fun K σ ρ=>jp n K n σ.1 σ.2.1 ρ.1.1 ρ.1.2.1 ρ.1.2.2.1 ρ.1.2.2.2.1 ρ.1.2.2.2.2.1 ρ.1.2.2.2.2.2.1 ρ.1.2.2.2.2.2.2.1 ρ.1.2.2.2.2.2.2.2.1 ρ.2.1.1 ρ.2.1.2.1 ρ.2.1.2.2.1 ρ.2.1.2.2.2.1 ρ.2.1.2.2.2.2.1 ρ.2.1.2.2.2.2.2.1 ρ.2.1.2.2.2.2.2.2.1 ρ.2.1.2.2.2.2.2.2.2.1 ρ.2.1.2.2.2.2.2.2.2.2.1 ρ.2.1.2.2.2.2.2.2.2.2.2.1
def Zf (n:Nat) (K:XE→List AV→ia→Option Out) (m:Nat) (i1:Int) (c17:(Sq T2)) (c18:BA) (c19:Int) (c20:Int) (c21:(Sq Int)) (c22:Int) (c23:Int) (c24:Nat):Option Out:=rd tys (da Out (Qb n)) (Hb n) n (ta [1,1,1,0,1,0,0] (aa Tryz.f36)) 2 qi pi K m (i1,()) ((c17,(c18,(c19,(c20,(c21,(c22,(c23,(c24,())))))))),())
theorem ip (n:Nat) (K:XE→List AV→ia→Option Out):∀ (m:Nat) i1 c17 c18 c19 c20 c21 c22 c23 c24,Zf n K m i1 c17 c18 c19 c20 c21 c22 c23 c24=(Ua n m i1 c17 c18 c19 c20 c21 c22 c23 c24).bind (fc K)
  | 0,_,_,_,_,_,_,_,_,_=>by kernel_rfl
  | m+1,i1,c17,c18,c19,c20,c21,c22,c23,c24=>by
    have h1:Zf n K (m+1) i1 c17 c18 c19 c20 c21 c22 c23 c24=Qd n i1 c17 c18 c19 c20 c21 c22 c23 c24 (Zf n K m) (fun a=>fc K (.out a)) (fun a=>fc K (.ret a)) (fun p=>fc K (.pan p)):=by kernel_rfl
    have h2:Zf n K m=fun i1 c17 c18 c19 c20 c21 c22 c23 c24=>(Ua n m i1 c17 c18 c19 c20 c21 c22 c23 c24).bind (fc K):=by
      repeat (refine funext fun _=>?_)
      exact ip n K m _ _ _ _ _ _ _ _ _
    rw [h1,h2];exact (vD n m _ _ _ _ _ _ _ _ _ (fc K)).symm
theorem TB (n:Nat):Vc tys (da Out (Qb n)) (Hb n) n (ta [1,1,1,0,1,0,0] (aa Tryz.f36)) 2:=Ca (sp:=qi) (rp:=pi) (by kernel_rfl) fun K σ ρ=>ip n K n σ.1 ρ.1.1 ρ.1.2.1 ρ.1.2.2.1 ρ.1.2.2.2.1 ρ.1.2.2.2.2.1 ρ.1.2.2.2.2.2.1 ρ.1.2.2.2.2.2.2.1 ρ.1.2.2.2.2.2.2.2.1
theorem xD (n:Nat):qa tys (da Out (Qb n)) (Hb n) n (aa Tryz.f36) 0:=⟨trivial,⟨⟨trivial,⟨⟨trivial,trivial⟩,trivial⟩⟩,⟨⟨trivial,⟨SB n,⟨⟨trivial,⟨trivial,trivial⟩⟩,⟨⟨trivial,⟨⟨trivial,trivial⟩,trivial⟩⟩,trivial⟩⟩⟩⟩,⟨⟨trivial,⟨TB n,⟨⟨trivial,⟨trivial,trivial⟩⟩,⟨⟨trivial,⟨⟨trivial,⟨⟨trivial,trivial⟩,trivial⟩⟩,⟨trivial,⟨UB n,⟨⟨trivial,⟨trivial,trivial⟩⟩,⟨⟨trivial,⟨⟨trivial,trivial⟩,trivial⟩⟩,trivial⟩⟩⟩⟩⟩⟩,trivial⟩⟩⟩⟩,⟨trivial,trivial⟩⟩⟩⟩⟩
theorem HE (n:Nat):Enters Tryz.prog 36:=enters_of (c:=aa Tryz.f36) Tryz.func36 (by kernel_rfl) (by kernel_rfl)
def As (n:Nat):Entry:=⟨36,pcT K8 (.one .bool) (fun xs=>be n xs.1),none,none⟩
theorem kH (n:Nat):EntryOk Tryz.prog gl (As n):=wa (HE n) fun xs y h=>ja tys_ok (np n) mixed (hint:=Hb n) (n:=n) Tryz.func36 (Ea (xD n)) (ma (φ:=(fun y=>some (Out.ret (Uc (.one .bool) y)))) (by kernel_rfl) (DJ n xs.1 _) h)
def Rl (n:Nat):List Entry:=As n::Qb n
theorem Un (n:Nat):AllOk Tryz.prog gl (Rl n):=.cons (kH n) (np n)
def Dy (n:Nat) {R:Type} (k:T1→Option R):Option R:=k ((1:Int),((0:Int),(false,(((⟨#[97]⟩:BA),((⟨#[120]⟩:BA),())),((⟨1,fun q=>List.getD (α:=T0) [(((⟨#[97]⟩:BA),((⟨#[120]⟩:BA),())),((0:Int),((0:Int),((0:Int),((0:Int),())))))] q (Ba K0)⟩:Sq T0),((⟨#[]⟩:BA),((0:Int),(false,(false,())))))))))
def Sm (n:Nat):Option T1:=Dy n some
theorem dW (n:Nat) {S:Type}:∀ (φ:_→Option S),(Sm n).bind φ=Dy n φ:=by
  intros;unfold Sm Dy;first | (simp only [fa,ba,iB,bB,oL,oX,nB,Option.bind_some]) | rfl
def vA (n:Nat):Hint Out:={ live:=fun c=>[],run:=fun c=>none,xm:=fun c q=>none }
theorem HO (n:Nat):qa tys (da Out (Rl n)) (vA n) n (aa Tryz.f30) 0:=oa (fun _=>rfl) _ _ (by kernel_rfl)
theorem gR (n:Nat):Enters Tryz.prog 30:=enters_of (c:=aa Tryz.f30) Tryz.func30 (by kernel_rfl) (by kernel_rfl)
def yE (n:Nat):Entry:=⟨30,pcT .unit (.one K1) (fun xs=>Sm n),none,none⟩
theorem NT (n:Nat):EntryOk Tryz.prog gl (yE n):=wa (gR n) fun xs y h=>ja tys_ok (Un n) mixed (hint:=vA n) (n:=n) Tryz.func30 (Ea (HO n)) (ma (φ:=(fun y=>some (Out.ret (Uc (.one K1) y)))) (by kernel_rfl) (dW n  _) h)
def Pu (n:Nat):List Entry:=yE n::Rl n
theorem Uw (n:Nat):AllOk Tryz.prog gl (Pu n):=.cons (NT n) (Un n)
def CC (n:Nat) {R:Type} (i n0:Int) (k:Int→Option R):Option R:=if (IntKind.wrap .u64 n0)=0 then none else k (IntKind.wrap .i64 (Int.tmod (IntKind.wrap .u64 i) (IntKind.wrap .u64 n0)))
def Xd (n:Nat) (i n0:Int):Option Int:=CC n i n0 some
theorem y8 (n:Nat) {S:Type}:∀ i n0 (φ:_→Option S),(Xd n i n0).bind φ=CC n i n0 φ:=by
  intros;unfold Xd CC;first | (simp only [fa,ba,iB,bB,oL,oX,nB,Option.bind_some]) | rfl
def aJ (n:Nat):Hint Out:={ live:=fun c=>[],run:=fun c=>none,xm:=fun c q=>none }
theorem dX (n:Nat):qa tys (da Out (Pu n)) (aJ n) n (aa Tryz.f37) 0:=oa (fun _=>rfl) _ _ (by kernel_rfl)
theorem J0 (n:Nat):Enters Tryz.prog 37:=enters_of (c:=aa Tryz.f37) Tryz.func37 (by kernel_rfl) (by kernel_rfl)
def HQ (n:Nat):Entry:=⟨37,pcT (.pair (.int .i64) (.pair (.int .i64) .unit)) (.one (.int .i64)) (fun xs=>Xd n xs.1 xs.2.1),none,none⟩
theorem d6 (n:Nat):EntryOk Tryz.prog gl (HQ n):=wa (J0 n) fun xs y h=>ja tys_ok (Uw n) mixed (hint:=aJ n) (n:=n) Tryz.func37 (Ea (dX n)) (ma (φ:=(fun y=>some (Out.ret (Uc (.one (.int .i64)) y)))) (by kernel_rfl) (y8 n xs.1 xs.2.1 _) h)
def YF (n:Nat):List Entry:=HQ n::Pu n
theorem ZF (n:Nat):AllOk Tryz.prog gl (YF n):=.cons (d6 n) (Uw n)
def Bt (n:Nat) {R:Type} (n0 least most:Int) (k:Bool→Option R):Option R:=if (decide (n0≥least))=true then k (decide (n0≤most)) else k false
def Zd (n:Nat) (n0 least most:Int):Option Bool:=Bt n n0 least most some
theorem XY (n:Nat) {S:Type}:∀ n0 least most (φ:_→Option S),(Zd n n0 least most).bind φ=Bt n n0 least most φ:=by
  intros;unfold Zd Bt;first | (simp only [fa,ba,iB,bB,oL,oX,nB,Option.bind_some]) | rfl
def WC (n:Nat):Hint Out:={ live:=fun c=>[],run:=fun c=>none,xm:=fun c q=>none }
theorem eR (n:Nat):qa tys (da Out (YF n)) (WC n) n (aa Tryz.f127) 0:=oa (fun _=>rfl) _ _ (by kernel_rfl)
theorem GT (n:Nat):Enters Tryz.prog 127:=enters_of (c:=aa Tryz.f127) Tryz.func127 (by kernel_rfl) (by kernel_rfl)
def BI (n:Nat):Entry:=⟨127,pcT (.pair (.int .i64) (.pair (.int .i64) (.pair (.int .i64) .unit))) (.one .bool) (fun xs=>Zd n xs.1 xs.2.1 xs.2.2.1),none,none⟩
theorem aW (n:Nat):EntryOk Tryz.prog gl (BI n):=wa (GT n) fun xs y h=>ja tys_ok (ZF n) mixed (hint:=WC n) (n:=n) Tryz.func127 (Ea (eR n)) (ma (φ:=(fun y=>some (Out.ret (Uc (.one .bool) y)))) (by kernel_rfl) (XY n xs.1 xs.2.1 xs.2.2.1 _) h)
def Cy (n:Nat):List Entry:=BI n::YF n
theorem tA (n:Nat):AllOk Tryz.prog gl (Cy n):=.cons (aW n) (ZF n)
def aS (n:Nat) {R:Type} (m0:U2) (k:BA→Option R):Option R:=if zj m0.1 (⟨#[64]⟩:BA)=true then if zj (m0.1++(⟨#[64]⟩:BA)) m0.2.1=true then k ((m0.1++(⟨#[64]⟩:BA))++m0.2.1) else none else none
def kX (n:Nat) (m0:U2):Option BA:=aS n m0 some
theorem eeb (n:Nat) {S:Type}:∀ m0 (φ:_→Option S),(kX n m0).bind φ=aS n m0 φ:=by
  intros;unfold kX aS;first | (simp only [fa,ba,iB,bB,oL,oX,nB,Option.bind_some]) | rfl
def wS (n:Nat):Hint Out:={ live:=fun c=>[],run:=fun c=>none,xm:=fun c q=>none }
theorem z6 (n:Nat):qa tys (da Out (Cy n)) (wS n) n (aa Tryz.f175) 0:=oa (fun _=>rfl) _ _ (by kernel_rfl)
theorem uab (n:Nat):Enters Tryz.prog 175:=enters_of (c:=aa Tryz.f175) Tryz.func175 (by kernel_rfl) (by kernel_rfl)
def C1 (n:Nat):Entry:=⟨175,pcT (.pair (.pair .str (.pair .str .unit)) .unit) (.one .str) (fun xs=>kX n xs.1),none,none⟩
theorem Ybb (n:Nat):EntryOk Tryz.prog gl (C1 n):=wa (uab n) fun xs y h=>ja tys_ok (tA n) mixed (hint:=wS n) (n:=n) Tryz.func175 (Ea (z6 n)) (ma (φ:=(fun y=>some (Out.ret (Uc (.one .str) y)))) (by kernel_rfl) (eeb n xs.1 _) h)
def vS (n:Nat):List Entry:=C1 n::Cy n
theorem cQ (n:Nat):AllOk Tryz.prog gl (vS n):=.cons (Ybb n) (tA n)
def gq (n:Nat) {R:Type} (s prefix0:BA) (k:Bool→Option R):Option R:=if (decide ((s.size:Int)≥(prefix0.size:Int)))=true then if 0≤(prefix0.size:Int)∧(prefix0.size:Int)≤(s.size:Int) then k ((s.extract (Int.toNat (0:Int)) (Int.toNat (prefix0.size:Int))).toList==prefix0.toList) else none else k false
def Hq (n:Nat) (s prefix0:BA):Option Bool:=gq n s prefix0 some
theorem RV (n:Nat) {S:Type}:∀ s prefix0 (φ:_→Option S),(Hq n s prefix0).bind φ=gq n s prefix0 φ:=by
  intros;unfold Hq gq;first | (simp only [fa,ba,iB,bB,oL,oX,nB,Option.bind_some]) | rfl
def iA (n:Nat):Hint Out:={ live:=fun c=>[],run:=fun c=>none,xm:=fun c q=>none }
theorem tO (n:Nat):qa tys (da Out (vS n)) (iA n) n (aa Tryz.f226) 0:=oa (fun _=>rfl) _ _ (by kernel_rfl)
theorem WQ (n:Nat):Enters Tryz.prog 226:=enters_of (c:=aa Tryz.f226) Tryz.func226 (by kernel_rfl) (by kernel_rfl)
def pE (n:Nat):Entry:=⟨226,pcT (.pair .str (.pair .str .unit)) (.one .bool) (fun xs=>Hq n xs.1 xs.2.1),none,none⟩
theorem oT (n:Nat):EntryOk Tryz.prog gl (pE n):=wa (WQ n) fun xs y h=>ja tys_ok (cQ n) mixed (hint:=iA n) (n:=n) Tryz.func226 (Ea (tO n)) (ma (φ:=(fun y=>some (Out.ret (Uc (.one .bool) y)))) (by kernel_rfl) (RV n xs.1 xs.2.1 _) h)
def Gu (n:Nat):List Entry:=pE n::vS n
theorem Nw (n:Nat):AllOk Tryz.prog gl (Gu n):=.cons (oT n) (cQ n)
def xq (n:Nat) {R:Type} (s prefix0:BA) (k:Bool→Option R):Option R:=(Hq n s prefix0).bind fun v=>k v
def Ee (n:Nat) (s prefix0:BA):Option Bool:=xq n s prefix0 some
theorem VW (n:Nat) {S:Type}:∀ s prefix0 (φ:_→Option S),(Ee n s prefix0).bind φ=xq n s prefix0 φ:=by
  intros;unfold Ee xq;first | (simp only [fa,ba,iB,bB,oL,oX,nB,Option.bind_some]) | rfl
def qB (n:Nat):Hint Out:={ live:=fun c=>[],run:=fun c=>none,xm:=fun c q=>none }
theorem NP (n:Nat):qa tys (da Out (Gu n)) (qB n) n (aa Tryz.f194) 0:=oa (fun _=>rfl) _ _ (by kernel_rfl)
theorem QR (n:Nat):Enters Tryz.prog 194:=enters_of (c:=aa Tryz.f194) Tryz.func194 (by kernel_rfl) (by kernel_rfl)
def NF (n:Nat):Entry:=⟨194,pcT (.pair .str (.pair .str .unit)) (.one .bool) (fun xs=>Ee n xs.1 xs.2.1),none,none⟩
theorem SU (n:Nat):EntryOk Tryz.prog gl (NF n):=wa (QR n) fun xs y h=>ja tys_ok (Nw n) mixed (hint:=qB n) (n:=n) Tryz.func194 (Ea (NP n)) (ma (φ:=(fun y=>some (Out.ret (Uc (.one .bool) y)))) (by kernel_rfl) (VW n xs.1 xs.2.1 _) h)
def cw (n:Nat):List Entry:=NF n::Gu n
theorem Qo (n:Nat):AllOk Tryz.prog gl (cw n):=.cons (SU n) (Nw n)
def QK (n:Nat) {R:Type} (ok:Bool) (k:(Unit)→Option R) (kp:Int→Option R):Option R:=if (!ok)=true then kp (8:Int) else k ()
def Xc (n:Nat) (ok:Bool):Option (Except Int (Unit)):=QK n ok (fun y=>some (.ok y)) (fun p=>some (.error p))
theorem P1 (n:Nat) {S:Type}:∀ ok (φ:_→Option S),(Xc n ok).bind φ=QK n ok (fun y=>φ (.ok y)) (fun p=>φ (.error p)):=by
  intros;unfold Xc QK;first | (simp only [fa,ba,iB,bB,oL,oX,nB,Option.bind_some]) | rfl
def WD (n:Nat):Hint Out:={ live:=fun c=>[],run:=fun c=>none,xm:=fun c q=>none }
theorem gQ (n:Nat):qa tys (da Out (cw n)) (WD n) n (aa Tryz.f241) 0:=oa (fun _=>rfl) _ _ (by kernel_rfl)
theorem E6 (n:Nat):Enters Tryz.prog 241:=enters_of (c:=aa Tryz.f241) Tryz.func241 (by kernel_rfl) (by kernel_rfl)
def nX (n:Nat):Entry:=⟨241,pcX 244 (.pair .bool .unit) (.many .unit) (fun xs=>Xc n xs.1),none,none⟩
theorem Aab (n:Nat):EntryOk Tryz.prog gl (nX n):=L9 (E6 n) (fun xs y h=>ja tys_ok (Qo n) mixed (hint:=WD n) (n:=n) Tryz.func241 (Ea (gQ n)) (ma (φ:=(fun r=>onX r (fun p=>some (Out.pan (aG 244 p))) fun y=>some (Out.ret (Uc (.many .unit) y)))) (by kernel_rfl) (P1 n xs.1 _) h)) (fun xs p h=>ja tys_ok (Qo n) mixed (hint:=WD n) (n:=n) Tryz.func241 (Ea (gQ n)) (ma (φ:=(fun r=>onX r (fun p=>some (Out.pan (aG 244 p))) fun y=>some (Out.ret (Uc (.many .unit) y)))) (by kernel_rfl) (P1 n xs.1 _) h))
def aO (n:Nat):List Entry:=nX n::cw n
theorem RK (n:Nat):AllOk Tryz.prog gl (aO n):=.cons (Aab n) (Qo n)
def rq (n:Nat) {R:Type} (k:(BA×Unit)→Option R):Option R:=if ((0:Nat):Int)=0 then k ((⟨#[]⟩:BA),()) else none
def an (n:Nat):Option (BA×Unit):=rq n some
theorem HW (n:Nat) {S:Type}:∀ (φ:_→Option S),(an n).bind φ=rq n φ:=by
  intros;unfold an rq;first | (simp only [fa,ba,iB,bB,oL,oX,nB,Option.bind_some]) | rfl
def dB (n:Nat):Hint OutS:={ live:=fun c=>[],run:=fun c=>none,xm:=fun c q=>none,sch:=fun c=>(cond (Nat.beq c 1) (some [(0,0),(1,0),(2,0),(5,0),(6,0),(7,0),(3,1),(8,1),(9,0),(4,3),(10,2),(11,0)]) none) }
theorem xP (n:Nat):qa tys (da OutS (aO n)) (dB n) n (aa Tryz.f246) 0:=oa (fun _=>rfl) _ _ (by kernel_rfl)
theorem yR (n:Nat):Enters Tryz.prog 246:=enters_of (c:=aa Tryz.f246) Tryz.func246 (by kernel_rfl) (by kernel_rfl)
def qF:List RSp:=[.one (.ptr 0 0 0)]
def pF:List RS:=[.box 252 2 true [.cn .nilp,.cn .nils]]
def zR:List Sl:=[.ptr 0 0 0]
def AR:List RSp:=[.one (.dat .str)]
def wm:List RS:=[.box 252 2 true [.cn .nilp,.cn .nils]]
def Kz (y:(BA×Unit)):OutS:=⟨false,yB (sm wm ((),())) zR (),UX (OV (sm wm ((),())) AR ((y.1,()),())),pJ (sm wm ((),())) wm ((),())⟩
theorem zU (n:Nat):EntryOk Tryz.prog gl ⟨246,Ct,none,some (csT qF pF (fun σ ρ=>an n) Kz)⟩:=Cu (yR n) fun σ ρ y h=>nh tys_ok (RK n) mixed (hint:=dB n) (n:=n) Tryz.func246 (Ea (xP n)) (ma (φ:=fun y=>some (Kz y)) (by kernel_rfl) (HW n _) h)
def oF (n:Nat):List Entry:=⟨246,Ct,none,some (csT qF pF (fun σ ρ=>an n) Kz)⟩::aO n
theorem kN (n:Nat):AllOk Tryz.prog gl (oF n):=.cons (zU n) (RK n)
theorem lA:Tryz.prog.funcs[290]?=some Tryz.f290:=by kernel_rfl
theorem mA:EntryOk Tryz.prog gl ⟨290,Ct,some .ident,none⟩:=bW lA (by kernel_rfl) (by kernel_rfl) (by kernel_rfl) (by kernel_rfl)
def ph (n:Nat):List Entry:=⟨290,Ct,some .ident,none⟩::oF n
theorem Rj (n:Nat):AllOk Tryz.prog gl (ph n):=.cons mA (kN n)
def Vp (n:Nat) {R:Type} (k:Unit→Option R):Option R:=k ()
def Dk (n:Nat):Option Unit:=Vp n some
theorem BP (n:Nat) {S:Type}:∀ (φ:_→Option S),(Dk n).bind φ=Vp n φ:=by
  intros;unfold Dk Vp;first | (simp only [fa,ba,iB,bB,oL,oX,nB,Option.bind_some]) | rfl
def Rs (n:Nat):Hint OutS:={ live:=fun c=>[],run:=fun c=>none,xm:=fun c q=>none }
theorem SH (n:Nat):qa tys (da OutS (ph n)) (Rs n) n (aa Tryz.f275) 0:=oa (fun _=>rfl) _ _ (by kernel_rfl)
theorem lK (n:Nat):Enters Tryz.prog 275:=enters_of (c:=aa Tryz.f275) Tryz.func275 (by kernel_rfl) (by kernel_rfl)
def Nx:List RSp:=[.one (.ptr 0 0 0)]
def Mx:List RS:=[.box 252 2 true [.cn .nilp,.cn .nils]]
def mK:List Sl:=[.ptr 0 0 0]
def nK:List RSp:=[]
def Mi:List RS:=[.box 252 2 false [.ptr 0 0 0,.cn .nils]]
def Wp (y:Unit):OutS:=⟨false,yB (sm Mi ((),())) mK (),UX (OV (sm Mi ((),())) nK ()),pJ (sm Mi ((),())) Mi ((),())⟩
theorem nN (n:Nat):EntryOk Tryz.prog gl ⟨275,Ct,none,some (csT Nx Mx (fun σ ρ=>Dk n) Wp)⟩:=Cu (lK n) fun σ ρ y h=>nh tys_ok (Rj n) mixed (hint:=Rs n) (n:=n) Tryz.func275 (Ea (SH n)) (ma (φ:=fun y=>some (Wp y)) (by kernel_rfl) (BP n _) h)
def zo (n:Nat):List Entry:=⟨275,Ct,none,some (csT Nx Mx (fun σ ρ=>Dk n) Wp)⟩::ph n
theorem mr (n:Nat):AllOk Tryz.prog gl (zo n):=.cons (nN n) (Rj n)
def Sp (n:Nat) {R:Type} (c:Int) (k:U9→Option R):Option R:=(Dk n).bind fun v=>if Rb (0+1) 1=true then k ((⟨(0+1),fun q=>if q<0 then (fun _=>Ba (.int .u8)) q else (fun q=>List.getD (α:=Int) [c] q (Ba (.int .u8))) (q - 0)⟩:Sq Int),()) else none
def Sc (n:Nat) (c:Int):Option U9:=Sp n c some
theorem zP (n:Nat) {S:Type}:∀ c (φ:_→Option S),(Sc n c).bind φ=Sp n c φ:=by
  intros;unfold Sc Sp;first | (simp only [fa,ba,iB,bB,oL,oX,nB,Option.bind_some]) | rfl
def Ps (n:Nat):Hint OutS:={ live:=fun c=>[],run:=fun c=>none,xm:=fun c q=>none }
theorem QH (n:Nat):qa tys (da OutS (zo n)) (Ps n) n (aa Tryz.f288) 0:=oa (fun _=>rfl) _ _ (by kernel_rfl)
theorem eK (n:Nat):Enters Tryz.prog 288:=enters_of (c:=aa Tryz.f288) Tryz.func288 (by kernel_rfl) (by kernel_rfl)
def Gx:List RSp:=[.one (.ptr 0 0 0),.one (.dat (.int .u8))]
def Fx:List RS:=[.box 252 2 true [.cn .nilp,.cn .nils]]
def fK:List Sl:=[.ptr 0 0 0,.top]
def gK:List RSp:=[.one (.cn .nili)]
def Ki:List RS:=[.box 252 2 false [.ptr 0 0 0,.row 1],.row 5 1 (.int .u8) true false]
def Tp (y:U9):OutS:=⟨false,yB (sm Ki ((),(y.1,()))) fK (),UX (OV (sm Ki ((),(y.1,()))) gK ((),())),pJ (sm Ki ((),(y.1,()))) Ki ((),(y.1,()))⟩
theorem lN (n:Nat):EntryOk Tryz.prog gl ⟨288,Ct,none,some (csT Gx Fx (fun σ ρ=>Sc n σ.2.1.1) Tp)⟩:=Cu (eK n) fun σ ρ y h=>nh tys_ok (mr n) mixed (hint:=Ps n) (n:=n) Tryz.func288 (Ea (QH n)) (ma (φ:=fun y=>some (Tp y)) (by kernel_rfl) (zP n σ.2.1.1 _) h)
def yo (n:Nat):List Entry:=⟨288,Ct,none,some (csT Gx Fx (fun σ ρ=>Sc n σ.2.1.1) Tp)⟩::zo n
theorem lr (n:Nat):AllOk Tryz.prog gl (yo n):=.cons (lN n) (mr n)
def sq (n:Nat) {R:Type} (r1:(Sq Int)) (k:(BA×Unit)→Option R):Option R:=if (r1.n:Int)=(r1.n:Int)∧(r1.n:Int)≤9223372036854775807 then k ((MN r1.n r1.at'),()) else none
def Uh (n:Nat) (r1:(Sq Int)):Option (BA×Unit):=sq n r1 some
theorem IW (n:Nat) {S:Type}:∀ r1 (φ:_→Option S),(Uh n r1).bind φ=sq n r1 φ:=by
  intros;unfold Uh sq;first | (simp only [fa,ba,iB,bB,oL,oX,nB,Option.bind_some]) | rfl
def fB (n:Nat):Hint OutS:={ live:=fun c=>[],run:=fun c=>none,xm:=fun c q=>none,sch:=fun c=>(cond (Nat.beq c 1) (some [(0,0),(1,0),(2,0),(5,0),(6,0),(7,0),(3,1),(8,1),(9,0),(4,3),(10,2),(11,0)]) none) }
theorem yP (n:Nat):qa tys (da OutS (yo n)) (fB n) n (aa Tryz.f246) 0:=oa (fun _=>rfl) _ _ (by kernel_rfl)
theorem BR (n:Nat):Enters Tryz.prog 246:=enters_of (c:=aa Tryz.f246) Tryz.func246 (by kernel_rfl) (by kernel_rfl)
def sF:List RSp:=[.one (.ptr 0 0 0)]
def rF:List RS:=[.box 252 2 false [.ptr 0 0 0,.row 1],.row 5 1 (.int .u8) true false]
def DR:List Sl:=[.ptr 0 0 0]
def ER:List RSp:=[.one (.dat .str)]
def ym:List RS:=[.box 252 2 false [.ptr 0 0 0,.top]]
def Lz (y:(BA×Unit)):OutS:=⟨false,yB (sm ym ((),())) DR (),UX (OV (sm ym ((),())) ER ((y.1,()),())),pJ (sm ym ((),())) ym ((),())⟩
theorem AU (n:Nat):EntryOk Tryz.prog gl ⟨246,Ct,none,some (csT sF rF (fun σ ρ=>Uh n ρ.2.1) Lz)⟩:=Cu (BR n) fun σ ρ y h=>nh tys_ok (lr n) mixed (hint:=fB n) (n:=n) Tryz.func246 (Ea (yP n)) (ma (φ:=fun y=>some (Lz y)) (by kernel_rfl) (IW n ρ.2.1 _) h)
def Qv (n:Nat):List Entry:=⟨246,Ct,none,some (csT sF rF (fun σ ρ=>Uh n ρ.2.1) Lz)⟩::yo n
theorem Ex (n:Nat):AllOk Tryz.prog gl (Qv n):=.cons (AU n) (lr n)
def Bl (n:Nat) {R:Type} (r1:(Sq Int)) (k:U9→Option R):Option R:=k (r1,())
def Gh (n:Nat) (r1:(Sq Int)):Option U9:=Bl n r1 some
theorem CP (n:Nat) {S:Type}:∀ r1 (φ:_→Option S),(Gh n r1).bind φ=Bl n r1 φ:=by
  intros;unfold Gh Bl;first | (simp only [fa,ba,iB,bB,oL,oX,nB,Option.bind_some]) | rfl
def Ss (n:Nat):Hint OutS:={ live:=fun c=>[],run:=fun c=>none,xm:=fun c q=>none }
theorem TH (n:Nat):qa tys (da OutS (Qv n)) (Ss n) n (aa Tryz.f275) 0:=oa (fun _=>rfl) _ _ (by kernel_rfl)
theorem oK (n:Nat):Enters Tryz.prog 275:=enters_of (c:=aa Tryz.f275) Tryz.func275 (by kernel_rfl) (by kernel_rfl)
def Px:List RSp:=[.one (.ptr 0 0 0)]
def Ox:List RS:=[.box 252 2 false [.ptr 0 0 0,.row 1],.row 5 1 (.int .u8) true false]
def pK:List Sl:=[.ptr 0 0 0]
def qK:List RSp:=[]
def Ni:List RS:=[.box 252 2 false [.ptr 0 0 0,.row 1],.row 5 1 (.int .u8) true false]
def Xp (y:U9):OutS:=⟨false,yB (sm Ni ((),(y.1,()))) pK (),UX (OV (sm Ni ((),(y.1,()))) qK ()),pJ (sm Ni ((),(y.1,()))) Ni ((),(y.1,()))⟩
theorem oN (n:Nat):EntryOk Tryz.prog gl ⟨275,Ct,none,some (csT Px Ox (fun σ ρ=>Gh n ρ.2.1) Xp)⟩:=Cu (oK n) fun σ ρ y h=>nh tys_ok (Ex n) mixed (hint:=Ss n) (n:=n) Tryz.func275 (Ea (TH n)) (ma (φ:=fun y=>some (Xp y)) (by kernel_rfl) (CP n ρ.2.1 _) h)
def Ao (n:Nat):List Entry:=⟨275,Ct,none,some (csT Px Ox (fun σ ρ=>Gh n ρ.2.1) Xp)⟩::Qv n
theorem nr (n:Nat):AllOk Tryz.prog gl (Ao n):=.cons (oN n) (Ex n)
def Al (n:Nat) {R:Type} (c:Int) (r1:(Sq Int)) (k:U9→Option R):Option R:=(Gh n r1).bind fun v=>if Rb (v.1.n+1) 1=true then k ((⟨(v.1.n+1),fun q=>if q<v.1.n then v.1.at' q else (fun q=>List.getD (α:=Int) [c] q (Ba (.int .u8))) (q - v.1.n)⟩:Sq Int),()) else none
def pb (n:Nat) (c:Int) (r1:(Sq Int)):Option U9:=Al n c r1 some
theorem AP (n:Nat) {S:Type}:∀ c r1 (φ:_→Option S),(pb n c r1).bind φ=Al n c r1 φ:=by
  intros;unfold pb Al;first | (simp only [fa,ba,iB,bB,oL,oX,nB,Option.bind_some]) | rfl
def Qs (n:Nat):Hint OutS:={ live:=fun c=>[],run:=fun c=>none,xm:=fun c q=>none }
theorem RH (n:Nat):qa tys (da OutS (Ao n)) (Qs n) n (aa Tryz.f288) 0:=oa (fun _=>rfl) _ _ (by kernel_rfl)
theorem iK (n:Nat):Enters Tryz.prog 288:=enters_of (c:=aa Tryz.f288) Tryz.func288 (by kernel_rfl) (by kernel_rfl)
def Kx:List RSp:=[.one (.ptr 0 0 0),.one (.dat (.int .u8))]
def Ix:List RS:=[.box 252 2 false [.ptr 0 0 0,.row 1],.row 5 1 (.int .u8) true false]
def jK:List Sl:=[.ptr 0 0 0,.top]
def kK:List RSp:=[.one (.cn .nili)]
def Li:List RS:=[.box 252 2 false [.ptr 0 0 0,.row 1],.row 5 1 (.int .u8) true false]
def Up (y:U9):OutS:=⟨false,yB (sm Li ((),(y.1,()))) jK (),UX (OV (sm Li ((),(y.1,()))) kK ((),())),pJ (sm Li ((),(y.1,()))) Li ((),(y.1,()))⟩
theorem mN (n:Nat):EntryOk Tryz.prog gl ⟨288,Ct,none,some (csT Kx Ix (fun σ ρ=>pb n σ.2.1.1 ρ.2.1) Up)⟩:=Cu (iK n) fun σ ρ y h=>nh tys_ok (nr n) mixed (hint:=Qs n) (n:=n) Tryz.func288 (Ea (RH n)) (ma (φ:=fun y=>some (Up y)) (by kernel_rfl) (AP n σ.2.1.1 ρ.2.1 _) h)
def Bg (n:Nat):List Entry:=⟨288,Ct,none,some (csT Kx Ix (fun σ ρ=>pb n σ.2.1.1 ρ.2.1) Up)⟩::Ao n
theorem Ck (n:Nat):AllOk Tryz.prog gl (Bg n):=.cons (mN n) (nr n)
def ld (n:Nat) {R:Type} (s1:BA) (i:Int) (r1:(Sq Int)) (kn:BA→Int→(Sq Int)→Option R) (ko:Unit→Option R) (kr:(BA×BA)→Option R) (kp:Int→Option R):Option R:=(Xc n (decide (i<(s1.size:Int)))).bind fun x_1=>onX x_1 (fun p3=>kp p3) (fun v5=>if 0≤i∧i<(s1.size:Int) then if ((bt s1 i)==(34:Int))=true then if 0≤(IntKind.wrap .i64 (i+(1:Int)))∧(IntKind.wrap .i64 (i+(1:Int)))≤(s1.size:Int) then (Uh n r1).bind fun v6=>kr (v6.1,(s1.extract (Int.toNat (IntKind.wrap .i64 (i+(1:Int)))) (Int.toNat (s1.size:Int)))) else none else if 0≤i∧i<(s1.size:Int) then if ((bt s1 i)==(92:Int))=true then (Xc n (decide ((IntKind.wrap .i64 (i+(1:Int)))<(s1.size:Int)))).bind fun x_2=>onX x_2 (fun p4=>kp p4) (fun v7=>if 0≤(IntKind.wrap .i64 (i+(1:Int)))∧(IntKind.wrap .i64 (i+(1:Int)))<(s1.size:Int) then if (decide ((bt s1 (IntKind.wrap .i64 (i+(1:Int))))≥(32:Int)))=true then if 0≤(IntKind.wrap .i64 (i+(1:Int)))∧(IntKind.wrap .i64 (i+(1:Int)))<(s1.size:Int) then (Xc n (decide ((bt s1 (IntKind.wrap .i64 (i+(1:Int))))≤(126:Int)))).bind fun x_3=>onX x_3 (fun p5=>kp p5) (fun v8=>if 0≤(IntKind.wrap .i64 (i+(1:Int)))∧(IntKind.wrap .i64 (i+(1:Int)))<(s1.size:Int) then (pb n (bt s1 (IntKind.wrap .i64 (i+(1:Int)))) r1).bind fun v9=>
 kn s1 (IntKind.wrap .i64 ((IntKind.wrap .i64 (i+(1:Int)))+(1:Int))) v9.1 else none) else none else (Xc n false).bind fun x_4=>onX x_4 (fun p6=>kp p6) (fun v10=>if 0≤(IntKind.wrap .i64 (i+(1:Int)))∧(IntKind.wrap .i64 (i+(1:Int)))<(s1.size:Int) then (pb n (bt s1 (IntKind.wrap .i64 (i+(1:Int)))) r1).bind fun v11=>kn s1 (IntKind.wrap .i64 ((IntKind.wrap .i64 (i+(1:Int)))+(1:Int))) v11.1 else none) else none) else if 0≤i∧i<(s1.size:Int) then if (decide ((bt s1 i)≥(32:Int)))=true then if 0≤i∧i<(s1.size:Int) then (Xc n (decide ((bt s1 i)≤(126:Int)))).bind fun x_5=>onX x_5 (fun p7=>kp p7) (fun v12=>if 0≤i∧i<(s1.size:Int) then (pb n (bt s1 i) r1).bind fun v13=>kn s1 (IntKind.wrap .i64 (i+(1:Int))) v13.1 else none) else none else (Xc n false).bind fun x_6=>onX x_6 (fun p8=>kp p8) (fun v14=>if 0≤i∧i<(s1.size:Int) then (pb n (bt s1 i) r1).bind fun v15=>kn s1 (IntKind.wrap .i64 (i+(1:Int))) v15.1 else none) else none else none else none)
def Fa (n:Nat):Nat→BA→Int→(Sq Int)→Option (Lx Unit (BA×BA))
 | 0,_,_,_=>none
 | m+1,s1,i,r1=>ld n s1 i r1 (Fa n m) (fun a=>some (.out a)) (fun a=>some (.ret a)) (fun p=>some (.pan p))
theorem CV (n m:Nat) {S:Type}:∀ s1 i r1 (φ:_→Option S),(Fa n (m+1) s1 i r1).bind φ=ld n s1 i r1 (fun s1 i r1=>(Fa n m s1 i r1).bind φ) (fun a=>φ (.out a)) (fun a=>φ (.ret a)) (fun p=>φ (.pan p)):=by
  intros;first | (simp only [Fa,ld,fa,ba,iB,bB,oL,oX,nB,Option.bind_some]) | rfl
def tu:List Sl:=.dat .str::.top::.top::.top::.ptr 0 0 0::.dat (.int .i64)::tp 42 []
def su:List RS:=[.box 252 2 false [.ptr 0 0 0,.row 1],.row 5 1 (.int .u8) true false]
def gJ:List Sl:=.top::.top::.dat .str::.dat .str::tp 44 []
def fJ:List RS:=[]
def Gg (K:XE→List AV→ia→Option Out):Lx Unit (BA×BA)→Option Out:=fun x=>onL x (fun _=>none) (fun a=>Ye gJ fJ (a.1,(a.2,())) () (K .ret)) (fun p=>K (.panic (aG 244 p)) (List.replicate 48 .top) [])
def Fg (n:Nat) {R:Type} (s:BA) (k:(BA×BA×Unit)→Option R) (kp:Int→Option R):Option R:=(Xc n (decide ((1:Int)<(s.size:Int)))).bind fun x_1=>onX x_1 (fun p=>kp p) (fun v=>if 0≤(1:Int)∧(1:Int)<(s.size:Int) then if ((bt s (1:Int))==(34:Int))=true then if 0≤(IntKind.wrap .i64 ((1:Int)+(1:Int)))∧(IntKind.wrap .i64 ((1:Int)+(1:Int)))≤(s.size:Int) then (an n).bind fun v1=>k (v1.1,((s.extract (Int.toNat (IntKind.wrap .i64 ((1:Int)+(1:Int)))) (Int.toNat (s.size:Int))),())) else none else if 0≤(1:Int)∧(1:Int)<(s.size:Int) then if ((bt s (1:Int))==(92:Int))=true then (Xc n (decide ((IntKind.wrap .i64 ((1:Int)+(1:Int)))<(s.size:Int)))).bind fun x_2=>onX x_2 (fun p1=>kp p1) (fun v2=>if 0≤(IntKind.wrap .i64 ((1:Int)+(1:Int)))∧(IntKind.wrap .i64 ((1:Int)+(1:Int)))<(s.size:Int) then if (decide ((bt s (IntKind.wrap .i64 ((1:Int)+(1:Int))))≥(32:Int)))=true then if 0≤(IntKind.wrap .i64 ((1:Int)+(1:Int)))∧(IntKind.wrap .i64 ((1:Int)+(1:Int)))<(s.size:Int) then (Xc n (decide ((bt s (IntKind.wrap .i64 ((1:Int)+(1:Int))))≤(126:Int)))).bind fun x_3=>onX x_3 (fun p2=>kp p2) (fun v3=>if 0≤(IntKind.wrap .i64 ((1:Int)+(1:Int)))∧(IntKind.wrap .i64 ((1:Int)+(1:Int)))<(s.size:Int) then (Sc n (bt s (IntKind.wrap .i64 ((1:Int)+(1:Int))))).bind fun v4=>
 (Fa n n s (IntKind.wrap .i64 ((IntKind.wrap .i64 ((1:Int)+(1:Int)))+(1:Int))) v4.1).bind fun x_4=>onL x_4 (fun _=>none) (fun a_5=>k (a_5.1,(a_5.2,()))) (fun p9=>kp p9) else none) else none else (Xc n false).bind fun x_6=>onX x_6 (fun p10=>kp p10) (fun v16=>if 0≤(IntKind.wrap .i64 ((1:Int)+(1:Int)))∧(IntKind.wrap .i64 ((1:Int)+(1:Int)))<(s.size:Int) then (Sc n (bt s (IntKind.wrap .i64 ((1:Int)+(1:Int))))).bind fun v17=>(Fa n n s (IntKind.wrap .i64 ((IntKind.wrap .i64 ((1:Int)+(1:Int)))+(1:Int))) v17.1).bind fun x_7=>onL x_7 (fun _=>none) (fun a_8=>k (a_8.1,(a_8.2,()))) (fun p11=>kp p11) else none) else none) else if 0≤(1:Int)∧(1:Int)<(s.size:Int) then if (decide ((bt s (1:Int))≥(32:Int)))=true then if 0≤(1:Int)∧(1:Int)<(s.size:Int) then (Xc n (decide ((bt s (1:Int))≤(126:Int)))).bind fun x_9=>onX x_9 (fun p12=>kp p12) (fun v18=>if 0≤(1:Int)∧(1:Int)<(s.size:Int) then (Sc n (bt s (1:Int))).bind fun v19=>(Fa n n s (IntKind.wrap .i64 ((1:Int)+(1:Int))) v19.1).bind fun x_10=>onL x_10 (fun _=>none) (fun a_11=>k (a_11.1,(a_11.2,()))) (fun p13=>kp p13) else none) else none else (Xc n false).bind fun x_12=>onX x_12 (fun p14=>kp p14) (fun v20=>if 0≤(1:Int)∧(1:Int)<(s.size:Int) then (Sc n (bt s (1:Int))).bind fun v21=>
 (Fa n n s (IntKind.wrap .i64 ((1:Int)+(1:Int))) v21.1).bind fun x_13=>onL x_13 (fun _=>none) (fun a_14=>k (a_14.1,(a_14.2,()))) (fun p15=>kp p15) else none) else none else none else none)
def Hf (n:Nat) (s:BA):Option (Except Int (BA×BA×Unit)):=Fg n s (fun y=>some (.ok y)) (fun p=>some (.error p))
theorem KS (n:Nat) {S:Type}:∀ s (φ:_→Option S),(Hf n s).bind φ=Fg n s (fun y=>φ (.ok y)) (fun p=>φ (.error p)):=by
  intros;unfold Hf Fg;first | (simp only [fa,ba,iB,bB,oL,oX,nB,Option.bind_some]) | rfl
def cm (n:Nat):Hint Out:={ live:=fun c=>(cond (Nat.beq c 0) (lv [0,4,5]) []),run:=fun c=>(cond (Nat.beq c 0) (some (Zl tu su fun σ ρ K=>(Fa n n σ.1 σ.2.1 ρ.2.1).bind (Gg K))) none),xm:=fun c q=>(cond (Nat.beq c 1&&q.isNone) (some [(2,none),(3,none)]) none),sch:=fun c=>(cond (Nat.beq c 6) (some [(1,0),(2,0),(3,0),(4,0),(0,2),(5,0),(6,0)]) none),pl:=fun c=>Nat.beq c 0 }
def fq (n:Nat) (K:XE→List AV→ia→Option Out) (m:Nat) (s1:BA) (i:Int) (r1:(Sq Int)):Option Out:=rd tys (da Out (Bg n)) (cm n) n (ta [1,1,1,0,0] (aa Tryz.f271)) 0 tu su K m (s1,(i,())) ((),(r1,()))
theorem lI (n:Nat) (K:XE→List AV→ia→Option Out):∀ (m:Nat) s1 i r1,fq n K m s1 i r1=(Fa n m s1 i r1).bind (Gg K)
  | 0,_,_,_=>by kernel_rfl
  | m+1,s1,i,r1=>by
    have h1:fq n K (m+1) s1 i r1=ld n s1 i r1 (fq n K m) (fun a=>Gg K (.out a)) (fun a=>Gg K (.ret a)) (fun p=>Gg K (.pan p)):=by kernel_rfl
    have h2:fq n K m=fun s1 i r1=>(Fa n m s1 i r1).bind (Gg K):=by
      repeat (refine funext fun _=>?_)
      exact lI n K m _ _ _
    rw [h1,h2];exact (CV n m _ _ _ (Gg K)).symm
theorem JS (n:Nat):Vc tys (da Out (Bg n)) (cm n) n (ta [1,1,1,0,0] (aa Tryz.f271)) 0:=Ca (sp:=tu) (rp:=su) (by kernel_rfl) fun K σ ρ=>lI n K n σ.1 σ.2.1 ρ.2.1
theorem mI (n:Nat):qa tys (da Out (Bg n)) (cm n) n (aa Tryz.f271) 0:=⟨trivial,⟨trivial,⟨trivial,⟨JS n,⟨⟨trivial,⟨⟨trivial,⟨⟨trivial,trivial⟩,trivial⟩⟩,⟨⟨trivial,⟨⟨trivial,trivial⟩,trivial⟩⟩,⟨trivial,trivial⟩⟩⟩⟩,trivial⟩⟩⟩⟩⟩
theorem qY (n:Nat):Enters Tryz.prog 271:=enters_of (c:=aa Tryz.f271) Tryz.func271 (by kernel_rfl) (by kernel_rfl)
def iQ (n:Nat):Entry:=⟨271,pcX 244 (.pair .str .unit) (.many (.pair .str (.pair .str .unit))) (fun xs=>Hf n xs.1),none,none⟩
theorem S1 (n:Nat):EntryOk Tryz.prog gl (iQ n):=L9 (qY n) (fun xs y h=>ja tys_ok (Ck n) mixed (hint:=cm n) (n:=n) Tryz.func271 (Ea (mI n)) (ma (φ:=(fun r=>onX r (fun p=>some (Out.pan (aG 244 p))) fun y=>some (Out.ret (Uc (.many (.pair .str (.pair .str .unit))) y)))) (by kernel_rfl) (KS n xs.1 _) h)) (fun xs p h=>ja tys_ok (Ck n) mixed (hint:=cm n) (n:=n) Tryz.func271 (Ea (mI n)) (ma (φ:=(fun r=>onX r (fun p=>some (Out.pan (aG 244 p))) fun y=>some (Out.ret (Uc (.many (.pair .str (.pair .str .unit))) y)))) (by kernel_rfl) (KS n xs.1 _) h))
def XD (n:Nat):List Entry:=iQ n::Bg n
theorem YD (n:Nat):AllOk Tryz.prog gl (XD n):=.cons (S1 n) (Ck n)
def bL (n:Nat) {R:Type} (c:Int) (k:Bool→Option R):Option R:=if (decide (c≥(97:Int)))=true then if (decide (c≤(122:Int)))=false then if (decide (c≥(48:Int)))=true then k (decide (c≤(57:Int))) else k false else k true else if (decide (c≥(48:Int)))=true then k (decide (c≤(57:Int))) else k false
def iJ (n:Nat) (c:Int):Option Bool:=bL n c some
theorem bcb (n:Nat) {S:Type}:∀ c (φ:_→Option S),(iJ n c).bind φ=bL n c φ:=by
  intros;unfold iJ bL;first | (simp only [fa,ba,iB,bB,oL,oX,nB,Option.bind_some]) | rfl
def kQ (n:Nat):Hint Out:={ live:=fun c=>[],run:=fun c=>none,xm:=fun c q=>none }
theorem Y1 (n:Nat):qa tys (da Out (XD n)) (kQ n) n (aa Tryz.f198) 0:=oa (fun _=>rfl) _ _ (by kernel_rfl)
theorem I6 (n:Nat):Enters Tryz.prog 198:=enters_of (c:=aa Tryz.f198) Tryz.func198 (by kernel_rfl) (by kernel_rfl)
def qX (n:Nat):Entry:=⟨198,pcT (.pair (.int .u8) .unit) (.one .bool) (fun xs=>iJ n xs.1),none,none⟩
theorem Eab (n:Nat):EntryOk Tryz.prog gl (qX n):=wa (I6 n) fun xs y h=>ja tys_ok (YD n) mixed (hint:=kQ n) (n:=n) Tryz.func198 (Ea (Y1 n)) (ma (φ:=(fun y=>some (Out.ret (Uc (.one .bool) y)))) (by kernel_rfl) (bcb n xs.1 _) h)
def rX (n:Nat):List Entry:=qX n::XD n
theorem rY (n:Nat):AllOk Tryz.prog gl (rX n):=.cons (Eab n) (YD n)
theorem nE:Tryz.prog.funcs[285]?=some Tryz.f285:=by kernel_rfl
theorem oE:EntryOk Tryz.prog gl ⟨285,Ct,some (.flat MG),none⟩:=rT nE (by kernel_rfl) (by kernel_rfl) (by kernel_rfl) (by kernel_rfl)
def Pj (n:Nat):List Entry:=⟨285,Ct,some (.flat MG),none⟩::rX n
theorem Rm (n:Nat):AllOk Tryz.prog gl (Pj n):=.cons oE (rY n)
def jq (n:Nat) {R:Type} (s:BA) (c:Int) (k:Int→Option R):Option R:=k (Lib.indexByte s.data.toList (Nat.toUInt8 (Int.toNat c)))
def Jq (n:Nat) (s:BA) (c:Int):Option Int:=jq n s c some
theorem TV (n:Nat) {S:Type}:∀ s c (φ:_→Option S),(Jq n s c).bind φ=jq n s c φ:=by
  intros;unfold Jq jq;first | (simp only [fa,ba,iB,bB,oL,oX,nB,Option.bind_some]) | rfl
def kA (n:Nat):Hint Out:={ live:=fun c=>[],run:=fun c=>none,xm:=fun c q=>none }
theorem vO (n:Nat):qa tys (da Out (Pj n)) (kA n) n (aa Tryz.f263) 0:=oa (fun _=>rfl) _ _ (by kernel_rfl)
theorem YQ (n:Nat):Enters Tryz.prog 263:=enters_of (c:=aa Tryz.f263) Tryz.func263 (by kernel_rfl) (by kernel_rfl)
def rE (n:Nat):Entry:=⟨263,pcT (.pair .str (.pair (.int .u8) .unit)) (.one (.int .i64)) (fun xs=>Jq n xs.1 xs.2.1),none,none⟩
theorem qT (n:Nat):EntryOk Tryz.prog gl (rE n):=wa (YQ n) fun xs y h=>ja tys_ok (Rm n) mixed (hint:=kA n) (n:=n) Tryz.func263 (Ea (vO n)) (ma (φ:=(fun y=>some (Out.ret (Uc (.one (.int .i64)) y)))) (by kernel_rfl) (TV n xs.1 xs.2.1 _) h)
def Iu (n:Nat):List Entry:=rE n::Pj n
theorem Pw (n:Nat):AllOk Tryz.prog gl (Iu n):=.cons (qT n) (Rm n)
def Aq (n:Nat) {R:Type} (s:BA) (c:Int) (k:Int→Option R):Option R:=(Jq n s c).bind fun v=>k v
def Yh (n:Nat) (s:BA) (c:Int):Option Int:=Aq n s c some
theorem XW (n:Nat) {S:Type}:∀ s c (φ:_→Option S),(Yh n s c).bind φ=Aq n s c φ:=by
  intros;unfold Yh Aq;first | (simp only [fa,ba,iB,bB,oL,oX,nB,Option.bind_some]) | rfl
def sB (n:Nat):Hint Out:={ live:=fun c=>[],run:=fun c=>none,xm:=fun c q=>none }
theorem PP (n:Nat):qa tys (da Out (Iu n)) (sB n) n (aa Tryz.f273) 0:=oa (fun _=>rfl) _ _ (by kernel_rfl)
theorem SR (n:Nat):Enters Tryz.prog 273:=enters_of (c:=aa Tryz.f273) Tryz.func273 (by kernel_rfl) (by kernel_rfl)
def RF (n:Nat):Entry:=⟨273,pcT (.pair .str (.pair (.int .u8) .unit)) (.one (.int .i64)) (fun xs=>Yh n xs.1 xs.2.1),none,none⟩
theorem TU (n:Nat):EntryOk Tryz.prog gl (RF n):=wa (SR n) fun xs y h=>ja tys_ok (Pw n) mixed (hint:=sB n) (n:=n) Tryz.func273 (Ea (PP n)) (ma (φ:=(fun y=>some (Out.ret (Uc (.one (.int .i64)) y)))) (by kernel_rfl) (XW n xs.1 xs.2.1 _) h)
def dw (n:Nat):List Entry:=RF n::Iu n
theorem Xx (n:Nat):AllOk Tryz.prog gl (dw n):=.cons (TU n) (Pw n)
def FK (n:Nat) {R:Type} (c:Int) (k:Bool→Option R):Option R:=(iJ n c).bind fun v=>if v=false then if (decide (c≥(65:Int)))=true then if (decide (c≤(90:Int)))=false then (Yh n (⟨#[33,35,36,37,38,39,42,43,45,47,61,63,94,95,96,123,124,125,126]⟩:BA) c).bind fun v1=>k (decide (v1≥(0:Int))) else k true else (Yh n (⟨#[33,35,36,37,38,39,42,43,45,47,61,63,94,95,96,123,124,125,126]⟩:BA) c).bind fun v2=>k (decide (v2≥(0:Int))) else k true
def dJ (n:Nat) (c:Int):Option Bool:=FK n c some
theorem acb (n:Nat) {S:Type}:∀ c (φ:_→Option S),(dJ n c).bind φ=FK n c φ:=by
  intros;unfold dJ FK;first | (simp only [fa,ba,iB,bB,oL,oX,nB,Option.bind_some]) | rfl
def fQ (n:Nat):Hint Out:={ live:=fun c=>[],run:=fun c=>none,xm:=fun c q=>none }
theorem G1 (n:Nat):qa tys (da Out (dw n)) (fQ n) n (aa Tryz.f289) 0:=oa (fun _=>rfl) _ _ (by kernel_rfl)
theorem C6 (n:Nat):Enters Tryz.prog 289:=enters_of (c:=aa Tryz.f289) Tryz.func289 (by kernel_rfl) (by kernel_rfl)
def lX (n:Nat):Entry:=⟨289,pcT (.pair (.int .u8) .unit) (.one .bool) (fun xs=>dJ n xs.1),none,none⟩
theorem yab (n:Nat):EntryOk Tryz.prog gl (lX n):=wa (C6 n) fun xs y h=>ja tys_ok (Xx n) mixed (hint:=fQ n) (n:=n) Tryz.func289 (Ea (G1 n)) (ma (φ:=(fun y=>some (Out.ret (Uc (.one .bool) y)))) (by kernel_rfl) (acb n xs.1 _) h)
def bA (n:Nat):List Entry:=lX n::dw n
theorem GK (n:Nat):AllOk Tryz.prog gl (bA n):=.cons (yab n) (Xx n)
def yp (n:Nat) {R:Type} (s1:BA) (word t6 t7:Int) (kn:BA→Int→Int→Int→Option R) (ko:(Int)→Option R) (kr:(Bool)→Option R) (kp:Int→Option R):Option R:=if (decide (t7<t6))=true then if 0≤t7∧t7<(s1.size:Int) then if ((bt s1 t7)==(46:Int))=true then if (word==(0:Int))=false then if 0≤t7∧t7<(s1.size:Int) then if ((bt s1 t7) !=(46:Int))=true then if 0≤t7∧t7<(s1.size:Int) then (dJ n (bt s1 t7)).bind fun v=>if (!v)=true then kr false else if 0≤t7∧t7<(s1.size:Int) then if ((bt s1 t7)==(46:Int))=true then kn s1 (0:Int) t6 (IntKind.wrap .i64 (t7+(1:Int))) else kn s1 (IntKind.wrap .i64 (word+(1:Int))) t6 (IntKind.wrap .i64 (t7+(1:Int))) else none else none else if 0≤t7∧t7<(s1.size:Int) then if ((bt s1 t7)==(46:Int))=true then kn s1 (0:Int) t6 (IntKind.wrap .i64 (t7+(1:Int))) else kn s1 (IntKind.wrap .i64 (word+(1:Int))) t6 (IntKind.wrap .i64 (t7+(1:Int))) else none else none else kr false else if 0≤t7∧t7<(s1.size:Int) then if ((bt s1 t7) !=(46:Int))=true then if 0≤t7∧t7<(s1.size:Int) then (dJ n (bt s1 t7)).bind fun v1=>if (!v1)=true then kr false else if 0≤t7∧t7<(s1.size:Int) then if ((bt s1 t7)==(46:Int))=true then kn s1 (0:Int) t6 (IntKind.wrap .i64 (t7+(1:Int))) else kn s1 (IntKind.wrap .i64 (word+(1:Int))) t6 (IntKind.wrap .i64 (t7+(1:Int))) else none else none
 else if 0≤t7∧t7<(s1.size:Int) then if ((bt s1 t7)==(46:Int))=true then kn s1 (0:Int) t6 (IntKind.wrap .i64 (t7+(1:Int))) else kn s1 (IntKind.wrap .i64 (word+(1:Int))) t6 (IntKind.wrap .i64 (t7+(1:Int))) else none else none else none else ko word
def Gf (n:Nat):Nat→BA→Int→Int→Int→Option (Lx (Int) (Bool))
 | 0,_,_,_,_=>none
 | m+1,s1,word,t6,t7=>yp n s1 word t6 t7 (Gf n m) (fun a=>some (.out a)) (fun a=>some (.ret a)) (fun p=>some (.pan p))
theorem mY (n m:Nat) {S:Type}:∀ s1 word t6 t7 (φ:_→Option S),(Gf n (m+1) s1 word t6 t7).bind φ=yp n s1 word t6 t7 (fun s1 word t6 t7=>(Gf n m s1 word t6 t7).bind φ) (fun a=>φ (.out a)) (fun a=>φ (.ret a)) (fun p=>φ (.pan p)):=by
  intros;first | (simp only [Gf,yp,fa,ba,iB,bB,oL,oX,nB,Option.bind_some]) | rfl
def my:List Sl:=.dat .str::.top::.top::.dat (.int .i64)::.top::.top::.dat (.int .i64)::.dat (.int .i64)::tp 32 []
def jy:List RS:=[]
def UK:List Sl:=.top::.top::.top::.dat (.int .i64)::tp 36 []
def TK:List RS:=[]
def WK:List Sl:=.top::.top::.dat .bool::tp 37 []
def VK:List RS:=[]
def ai (K:XE→List AV→ia→Option Out):Lx (Int) (Bool)→Option Out:=fun x=>onL x (fun a=>Ye UK TK (a,()) () (K (.exit 0))) (fun a=>Ye WK VK (a,()) () (K .ret)) (fun _=>none)
def cG (n:Nat) {R:Type} (s:BA) (k:Bool→Option R):Option R:=(Gf n n s (0:Int) (s.size:Int) (0:Int)).bind fun x_1=>onL x_1 (fun a_2=>k (decide (a_2>(0:Int)))) (fun a_3=>k a_3) (fun _=>none)
def Aw (n:Nat) (s:BA):Option Bool:=cG n s some
theorem Bab (n:Nat) {S:Type}:∀ s (φ:_→Option S),(Aw n s).bind φ=cG n s φ:=by
  intros;unfold Aw cG;first | (simp only [fa,ba,iB,bB,oL,oX,nB,Option.bind_some]) | rfl
def ft (n:Nat):Hint Out:={ live:=fun c=>(cond (Nat.beq c 0) (lv [0,3,6,7]) []),run:=fun c=>(cond (Nat.beq c 0) (some (Zl my jy fun σ ρ K=>(Gf n n σ.1 σ.2.1 σ.2.2.1 σ.2.2.2.1).bind (ai K))) none),xm:=fun c q=>(cond (Nat.beq c 0&&Nat.beq (q.getD 1000000) 0&&q.isSome) (some [(3,none)]) (cond (Nat.beq c 1&&q.isNone) (some [(2,none)]) none)) }
def dt (n:Nat) (K:XE→List AV→ia→Option Out) (m:Nat) (s1:BA) (word:Int) (t6:Int) (t7:Int):Option Out:=rd tys (da Out (bA n)) (ft n) n (ta [1,1,0,1,0,0] (aa Tryz.f274)) 0 my jy K m (s1,(word,(t6,(t7,())))) ()
theorem SK (n:Nat) (K:XE→List AV→ia→Option Out):∀ (m:Nat) s1 word t6 t7,dt n K m s1 word t6 t7=(Gf n m s1 word t6 t7).bind (ai K)
  | 0,_,_,_,_=>by kernel_rfl
  | m+1,s1,word,t6,t7=>by
    have h1:dt n K (m+1) s1 word t6 t7=yp n s1 word t6 t7 (dt n K m) (fun a=>ai K (.out a)) (fun a=>ai K (.ret a)) (fun p=>ai K (.pan p)):=by kernel_rfl
    have h2:dt n K m=fun s1 word t6 t7=>(Gf n m s1 word t6 t7).bind (ai K):=by
      repeat (refine funext fun _=>?_)
      exact SK n K m _ _ _ _
    rw [h1,h2];exact (mY n m _ _ _ _ (ai K)).symm
theorem zV (n:Nat):Vc tys (da Out (bA n)) (ft n) n (ta [1,1,0,1,0,0] (aa Tryz.f274)) 0:=Ca (sp:=my) (rp:=jy) (by kernel_rfl) fun K σ ρ=>SK n K n σ.1 σ.2.1 σ.2.2.1 σ.2.2.2.1
theorem nY (n:Nat):qa tys (da Out (bA n)) (ft n) n (aa Tryz.f274) 0:=⟨trivial,⟨trivial,⟨⟨trivial,⟨zV n,⟨trivial,⟨⟨trivial,trivial⟩,⟨⟨trivial,⟨⟨trivial,⟨⟨trivial,trivial⟩,trivial⟩⟩,⟨trivial,⟨trivial,⟨trivial,trivial⟩⟩⟩⟩⟩,trivial⟩⟩⟩⟩⟩,⟨trivial,trivial⟩⟩⟩⟩
theorem Q1 (n:Nat):Enters Tryz.prog 274:=enters_of (c:=aa Tryz.f274) Tryz.func274 (by kernel_rfl) (by kernel_rfl)
def HS (n:Nat):Entry:=⟨274,pcT (.pair .str .unit) (.one .bool) (fun xs=>Aw n xs.1),none,none⟩
theorem F6 (n:Nat):EntryOk Tryz.prog gl (HS n):=wa (Q1 n) fun xs y h=>ja tys_ok (GK n) mixed (hint:=ft n) (n:=n) Tryz.func274 (Ea (nY n)) (ma (φ:=(fun y=>some (Out.ret (Uc (.one .bool) y)))) (by kernel_rfl) (Bab n xs.1 _) h)
def ru (n:Nat):List Entry:=HS n::bA n
theorem kI (n:Nat):AllOk Tryz.prog gl (ru n):=.cons (F6 n) (GK n)
def Mj (n:Nat) {R:Type} (s1:BA) (t10 t11:Int) (r1:(Sq Int)) (kn:BA→Int→Int→(Sq Int)→Option R) (ko:((Sq Int))→Option R) (kr:Unit→Option R) (kp:Int→Option R):Option R:=if (decide (t11<t10))=true then if 0≤t11∧t11<(s1.size:Int) then if ((bt s1 t11)==(34:Int))=false then if 0≤t11∧t11<(s1.size:Int) then if ((bt s1 t11)==(92:Int))=true then (pb n (92:Int) r1).bind fun v2=>if 0≤t11∧t11<(s1.size:Int) then (pb n (bt s1 t11) v2.1).bind fun v3=>kn s1 t10 (IntKind.wrap .i64 (t11+(1:Int))) v3.1 else none else if 0≤t11∧t11<(s1.size:Int) then (pb n (bt s1 t11) r1).bind fun v4=>kn s1 t10 (IntKind.wrap .i64 (t11+(1:Int))) v4.1 else none else none else (pb n (92:Int) r1).bind fun v5=>if 0≤t11∧t11<(s1.size:Int) then (pb n (bt s1 t11) v5.1).bind fun v6=>kn s1 t10 (IntKind.wrap .i64 (t11+(1:Int))) v6.1 else none else none else ko r1
def Yd (n:Nat):Nat→BA→Int→Int→(Sq Int)→Option (Lx ((Sq Int)) Unit)
 | 0,_,_,_,_=>none
 | m+1,s1,t10,t11,r1=>Mj n s1 t10 t11 r1 (Yd n m) (fun a=>some (.out a)) (fun a=>some (.ret a)) (fun p=>some (.pan p))
theorem oY (n m:Nat) {S:Type}:∀ s1 t10 t11 r1 (φ:_→Option S),(Yd n (m+1) s1 t10 t11 r1).bind φ=Mj n s1 t10 t11 r1 (fun s1 t10 t11 r1=>(Yd n m s1 t10 t11 r1).bind φ) (fun a=>φ (.out a)) (fun a=>φ (.ret a)) (fun p=>φ (.pan p)):=by
  intros;first | (simp only [Yd,Mj,fa,ba,iB,bB,oL,oX,nB,Option.bind_some]) | rfl
def oy:List Sl:=.dat .str::.top::.top::.ptr 0 0 0::tp 6 (.dat (.int .i64)::.dat (.int .i64)::tp 20 [])
def ny:List RS:=[.box 252 2 false [.ptr 0 0 0,.row 1],.row 5 1 (.int .u8) true false]
def ZK:List Sl:=.top::.top::.top::.ptr 0 0 0::tp 28 []
def YK:List RS:=[.box 252 2 false [.ptr 0 0 0,.row 1],.row 5 1 (.int .u8) true false]
def bi (K:XE→List AV→ia→Option Out):Lx ((Sq Int)) Unit→Option Out:=fun x=>onL x (fun a=>Ye ZK YK () ((),(a,())) (K (.exit 0))) (fun _=>none) (fun _=>none)
def eG (n:Nat) {R:Type} (s:BA) (k:BA→Option R):Option R:=(Aw n s).bind fun v=>if v=true then k s else (Sc n (34:Int)).bind fun v1=>(Yd n n s (s.size:Int) (0:Int) v1.1).bind fun x_1=>onL x_1 (fun a_2=>(Uh n a_2).bind fun v7=>if zj v7.1 (⟨#[34]⟩:BA)=true then k (v7.1++(⟨#[34]⟩:BA)) else none) (fun _=>none) (fun _=>none)
def dG (n:Nat) (s:BA):Option BA:=eG n s some
theorem Cab (n:Nat) {S:Type}:∀ s (φ:_→Option S),(dG n s).bind φ=eG n s φ:=by
  intros;unfold dG eG;first | (simp only [fa,ba,iB,bB,oL,oX,nB,Option.bind_some]) | rfl
def mt (n:Nat):Hint Out:={ live:=fun c=>(cond (Nat.beq c 0) (lv [0,3,10,11]) []),run:=fun c=>(cond (Nat.beq c 0) (some (Zl oy ny fun σ ρ K=>(Yd n n σ.1 σ.2.1 σ.2.2.1 ρ.2.1).bind (bi K))) none),xm:=fun c q=>(cond (Nat.beq c 0&&Nat.beq (q.getD 1000000) 0&&q.isSome) (some [(3,none)]) none) }
def jt (n:Nat) (K:XE→List AV→ia→Option Out) (m:Nat) (s1:BA) (t10:Int) (t11:Int) (r1:(Sq Int)):Option Out:=rd tys (da Out (ru n)) (mt n) n (ta [1,1,1,1,0,1,0,0] (aa Tryz.f272)) 0 oy ny K m (s1,(t10,(t11,()))) ((),(r1,()))
theorem XK (n:Nat) (K:XE→List AV→ia→Option Out):∀ (m:Nat) s1 t10 t11 r1,jt n K m s1 t10 t11 r1=(Yd n m s1 t10 t11 r1).bind (bi K)
  | 0,_,_,_,_=>by kernel_rfl
  | m+1,s1,t10,t11,r1=>by
    have h1:jt n K (m+1) s1 t10 t11 r1=Mj n s1 t10 t11 r1 (jt n K m) (fun a=>bi K (.out a)) (fun a=>bi K (.ret a)) (fun p=>bi K (.pan p)):=by kernel_rfl
    have h2:jt n K m=fun s1 t10 t11 r1=>(Yd n m s1 t10 t11 r1).bind (bi K):=by
      repeat (refine funext fun _=>?_)
      exact XK n K m _ _ _ _
    rw [h1,h2];exact (oY n m _ _ _ _ (bi K)).symm
theorem BV (n:Nat):Vc tys (da Out (ru n)) (mt n) n (ta [1,1,1,1,0,1,0,0] (aa Tryz.f272)) 0:=Ca (sp:=oy) (rp:=ny) (by kernel_rfl) fun K σ ρ=>XK n K n σ.1 σ.2.1 σ.2.2.1 ρ.2.1
theorem pY (n:Nat):qa tys (da Out (ru n)) (mt n) n (aa Tryz.f272) 0:=⟨trivial,⟨⟨trivial,⟨⟨trivial,trivial⟩,trivial⟩⟩,⟨trivial,⟨trivial,⟨⟨trivial,⟨BV n,⟨trivial,⟨⟨trivial,trivial⟩,⟨⟨trivial,⟨⟨trivial,⟨trivial,trivial⟩⟩,trivial⟩⟩,trivial⟩⟩⟩⟩⟩,⟨trivial,trivial⟩⟩⟩⟩⟩⟩
theorem R1 (n:Nat):Enters Tryz.prog 272:=enters_of (c:=aa Tryz.f272) Tryz.func272 (by kernel_rfl) (by kernel_rfl)
def IS (n:Nat):Entry:=⟨272,pcT (.pair .str .unit) (.one .str) (fun xs=>dG n xs.1),none,none⟩
theorem G6 (n:Nat):EntryOk Tryz.prog gl (IS n):=wa (R1 n) fun xs y h=>ja tys_ok (kI n) mixed (hint:=mt n) (n:=n) Tryz.func272 (Ea (pY n)) (ma (φ:=(fun y=>some (Out.ret (Uc (.one .str) y)))) (by kernel_rfl) (Cab n xs.1 _) h)
def eJ (n:Nat):List Entry:=IS n::ru n
theorem qy (n:Nat):AllOk Tryz.prog gl (eJ n):=.cons (G6 n) (kI n)
def Om (n:Nat) {R:Type} (s:BA) (k:(BA×BA×Unit)→Option R) (kp:Int→Option R):Option R:=(Ee n s (⟨#[34]⟩:BA)).bind fun v=>if v=true then (Hf n s).bind fun x_1=>onX x_1 (fun p=>kp p) (fun v1=>(dG n v1.1).bind fun v2=>k (v2,(v1.2.1,()))) else (Yh n s (64:Int)).bind fun v3=>if (decide (v3≥(0:Int)))=true then if 0≤v3∧v3≤(s.size:Int) then (Aw n (s.extract (Int.toNat (0:Int)) (Int.toNat v3))).bind fun v4=>(Xc n v4).bind fun x_2=>onX x_2 (fun p1=>kp p1) (fun v5=>if 0≤v3∧v3≤(s.size:Int) then if 0≤v3∧v3≤(s.size:Int) then k ((s.extract (Int.toNat (0:Int)) (Int.toNat v3)),((s.extract (Int.toNat v3) (Int.toNat (s.size:Int))),())) else none else none) else none else (Xc n false).bind fun x_3=>onX x_3 (fun p2=>kp p2) (fun v6=>if 0≤v3∧v3≤(s.size:Int) then if 0≤v3∧v3≤(s.size:Int) then k ((s.extract (Int.toNat (0:Int)) (Int.toNat v3)),((s.extract (Int.toNat v3) (Int.toNat (s.size:Int))),())) else none else none)
def xn (n:Nat) (s:BA):Option (Except Int (BA×BA×Unit)):=Om n s (fun y=>some (.ok y)) (fun p=>some (.error p))
theorem mX (n:Nat) {S:Type}:∀ s (φ:_→Option S),(xn n s).bind φ=Om n s (fun y=>φ (.ok y)) (fun p=>φ (.error p)):=by
  intros;unfold xn Om;first | (simp only [fa,ba,iB,bB,oL,oX,nB,Option.bind_some]) | rfl
def BB (n:Nat):Hint Out:={ live:=fun c=>[],run:=fun c=>none,xm:=fun c q=>none }
theorem PK (n:Nat):qa tys (da Out (eJ n)) (BB n) n (aa Tryz.f240) 0:=oa (fun _=>rfl) _ _ (by kernel_rfl)
theorem O1 (n:Nat):Enters Tryz.prog 240:=enters_of (c:=aa Tryz.f240) Tryz.func240 (by kernel_rfl) (by kernel_rfl)
def GS (n:Nat):Entry:=⟨240,pcX 244 (.pair .str .unit) (.many (.pair .str (.pair .str .unit))) (fun xs=>xn n xs.1),none,none⟩
theorem D6 (n:Nat):EntryOk Tryz.prog gl (GS n):=L9 (O1 n) (fun xs y h=>ja tys_ok (qy n) mixed (hint:=BB n) (n:=n) Tryz.func240 (Ea (PK n)) (ma (φ:=(fun r=>onX r (fun p=>some (Out.pan (aG 244 p))) fun y=>some (Out.ret (Uc (.many (.pair .str (.pair .str .unit))) y)))) (by kernel_rfl) (mX n xs.1 _) h)) (fun xs p h=>ja tys_ok (qy n) mixed (hint:=BB n) (n:=n) Tryz.func240 (Ea (PK n)) (ma (φ:=(fun r=>onX r (fun p=>some (Out.pan (aG 244 p))) fun y=>some (Out.ret (Uc (.many (.pair .str (.pair .str .unit))) y)))) (by kernel_rfl) (mX n xs.1 _) h))
def qu (n:Nat):List Entry:=GS n::eJ n
theorem jI (n:Nat):AllOk Tryz.prog gl (qu n):=.cons (D6 n) (qy n)
def Nj (n:Nat) {R:Type} (t9 t10:Int) (b:(Sq Int)) (kn:Int→Int→(Sq Int)→Option R) (ko:((Sq Int))→Option R) (kr:Unit→Option R) (kp:Int→Option R):Option R:=if (decide (t10<t9))=true then if 0≤t10∧t10<(b.n:Int) then if (decide ((b.at' (Int.toNat t10))≥(65:Int)))=true then if (decide ((b.at' (Int.toNat t10))≤(90:Int)))=true then if 0≤t10∧t10<(b.n:Int) then kn t9 (IntKind.wrap .i64 (t10+(1:Int))) (⟨b.n,fun q=>if q=(Int.toNat t10)∧q<b.n then (IntKind.wrap .u8 ((IntKind.wrap .u8 ((b.at' (Int.toNat t10))+(97:Int))) - (65:Int))) else b.at' q⟩:Sq Int) else none else kn t9 (IntKind.wrap .i64 (t10+(1:Int))) b else kn t9 (IntKind.wrap .i64 (t10+(1:Int))) b else none else ko b
def ud (n:Nat):Nat→Int→Int→(Sq Int)→Option (Lx ((Sq Int)) Unit)
 | 0,_,_,_=>none
 | m+1,t9,t10,b=>Nj n t9 t10 b (ud n m) (fun a=>some (.out a)) (fun a=>some (.ret a)) (fun p=>some (.pan p))
theorem sY (n m:Nat) {S:Type}:∀ t9 t10 b (φ:_→Option S),(ud n (m+1) t9 t10 b).bind φ=Nj n t9 t10 b (fun t9 t10 b=>(ud n m t9 t10 b).bind φ) (fun a=>φ (.out a)) (fun a=>φ (.ret a)) (fun p=>φ (.pan p)):=by
  intros;first | (simp only [ud,Nj,fa,ba,iB,bB,oL,oX,nB,Option.bind_some]) | rfl
def sy:List Sl:=.top::.top::.top::.row 0::tp 4 (.row 0::.dat (.int .i64)::.dat (.int .i64)::tp 19 [])
def ry:List RS:=[.row 5 1 (.int .u8) false true]
def eL:List Sl:=.top::.top::.top::.row 0::tp 26 []
def dL:List RS:=[.row 5 1 (.int .u8) false true]
def ci (K:XE→List AV→ia→Option Out):Lx ((Sq Int)) Unit→Option Out:=fun x=>onL x (fun a=>Ye eL dL () (a,()) (K (.exit 0))) (fun _=>none) (fun _=>none)
def fG (n:Nat) {R:Type} (s:BA) (k:BA→Option R):Option R:=(ud n n (s.size:Int) (0:Int) (⟨s.size,fun q=>bt s q⟩:Sq Int)).bind fun x_1=>onL x_1 (fun a_2=>k (MN a_2.n a_2.at')) (fun _=>none) (fun _=>none)
def Bw (n:Nat) (s:BA):Option BA:=fG n s some
theorem Fab (n:Nat) {S:Type}:∀ s (φ:_→Option S),(Bw n s).bind φ=fG n s φ:=by
  intros;unfold Bw fG;first | (simp only [fa,ba,iB,bB,oL,oX,nB,Option.bind_some]) | rfl
def ot (n:Nat):Hint Out:={ live:=fun c=>(cond (Nat.beq c 0) [(3,some (.sl (.int .u8))),(8,some (.sl (.int .u8))),(9,none),(10,none)] []),run:=fun c=>(cond (Nat.beq c 0) (some (Zl sy ry fun σ ρ K=>(ud n n σ.1 σ.2.1 ρ.1).bind (ci K))) none),xm:=fun c q=>(cond (Nat.beq c 0&&Nat.beq (q.getD 1000000) 0&&q.isSome) (some [(3,some (.sl (.int .u8)))]) none) }
def nt (n:Nat) (K:XE→List AV→ia→Option Out) (m:Nat) (t9:Int) (t10:Int) (b:(Sq Int)):Option Out:=rd tys (da Out (qu n)) (ot n) n (ta [1,1,0,1,0,0] (aa Tryz.f242)) 0 sy ry K m (t9,(t10,())) (b,())
theorem cL (n:Nat) (K:XE→List AV→ia→Option Out):∀ (m:Nat) t9 t10 b,nt n K m t9 t10 b=(ud n m t9 t10 b).bind (ci K)
  | 0,_,_,_=>by kernel_rfl
  | m+1,t9,t10,b=>by
    have h1:nt n K (m+1) t9 t10 b=Nj n t9 t10 b (nt n K m) (fun a=>ci K (.out a)) (fun a=>ci K (.ret a)) (fun p=>ci K (.pan p)):=by kernel_rfl
    have h2:nt n K m=fun t9 t10 b=>(ud n m t9 t10 b).bind (ci K):=by
      repeat (refine funext fun _=>?_)
      exact cL n K m _ _ _
    rw [h1,h2];exact (sY n m _ _ _ (ci K)).symm
theorem DV (n:Nat):Vc tys (da Out (qu n)) (ot n) n (ta [1,1,0,1,0,0] (aa Tryz.f242)) 0:=Ca (sp:=sy) (rp:=ry) (by kernel_rfl) fun K σ ρ=>cL n K n σ.1 σ.2.1 ρ.1
theorem tY (n:Nat):qa tys (da Out (qu n)) (ot n) n (aa Tryz.f242) 0:=⟨trivial,⟨trivial,⟨⟨trivial,⟨DV n,⟨trivial,⟨⟨trivial,trivial⟩,⟨⟨trivial,⟨trivial,⟨trivial,trivial⟩⟩⟩,trivial⟩⟩⟩⟩⟩,⟨trivial,trivial⟩⟩⟩⟩
theorem Z1 (n:Nat):Enters Tryz.prog 242:=enters_of (c:=aa Tryz.f242) Tryz.func242 (by kernel_rfl) (by kernel_rfl)
def LS (n:Nat):Entry:=⟨242,pcT (.pair .str .unit) (.one .str) (fun xs=>Bw n xs.1),none,none⟩
theorem J6 (n:Nat):EntryOk Tryz.prog gl (LS n):=wa (Z1 n) fun xs y h=>ja tys_ok (jI n) mixed (hint:=ot n) (n:=n) Tryz.func242 (Ea (tY n)) (ma (φ:=(fun y=>some (Out.ret (Uc (.one .str) y)))) (by kernel_rfl) (Fab n xs.1 _) h)
def jJ (n:Nat):List Entry:=LS n::qu n
theorem nI (n:Nat):AllOk Tryz.prog gl (jJ n):=.cons (J6 n) (jI n)
def dq (n:Nat) {R:Type} (s:BA) (k:Bool→Option R):Option R:=(Ee n s (⟨#[91]⟩:BA)).bind fun v=>k v
def qg (n:Nat) (s:BA):Option Bool:=dq n s some
theorem uV (n:Nat) {S:Type}:∀ s (φ:_→Option S),(qg n s).bind φ=dq n s φ:=by
  intros;unfold qg dq;first | (simp only [fa,ba,iB,bB,oL,oX,nB,Option.bind_some]) | rfl
def aA (n:Nat):Hint Out:={ live:=fun c=>[],run:=fun c=>none,xm:=fun c q=>none }
theorem ZN (n:Nat):qa tys (da Out (jJ n)) (aA n) n (aa Tryz.f150) 0:=oa (fun _=>rfl) _ _ (by kernel_rfl)
theorem IQ (n:Nat):Enters Tryz.prog 150:=enters_of (c:=aa Tryz.f150) Tryz.func150 (by kernel_rfl) (by kernel_rfl)
def TD (n:Nat):Entry:=⟨150,pcT (.pair .str .unit) (.one .bool) (fun xs=>qg n xs.1),none,none⟩
theorem UD (n:Nat):EntryOk Tryz.prog gl (TD n):=wa (IQ n) fun xs y h=>ja tys_ok (nI n) mixed (hint:=aA n) (n:=n) Tryz.func150 (Ea (ZN n)) (ma (φ:=(fun y=>some (Out.ret (Uc (.one .bool) y)))) (by kernel_rfl) (uV n xs.1 _) h)
def nu (n:Nat):List Entry:=TD n::jJ n
theorem ww (n:Nat):AllOk Tryz.prog gl (nu n):=.cons (UD n) (nI n)
def iq (n:Nat) {R:Type} (s suffix:BA) (k:Bool→Option R):Option R:=if (decide ((s.size:Int)≥(suffix.size:Int)))=true then if 0≤(IntKind.wrap .i64 ((s.size:Int) - (suffix.size:Int)))∧(IntKind.wrap .i64 ((s.size:Int) - (suffix.size:Int)))≤(s.size:Int) then k ((s.extract (Int.toNat (IntKind.wrap .i64 ((s.size:Int) - (suffix.size:Int)))) (Int.toNat (s.size:Int))).toList==suffix.toList) else none else k false
def Iq (n:Nat) (s suffix:BA):Option Bool:=iq n s suffix some
theorem SV (n:Nat) {S:Type}:∀ s suffix (φ:_→Option S),(Iq n s suffix).bind φ=iq n s suffix φ:=by
  intros;unfold Iq iq;first | (simp only [fa,ba,iB,bB,oL,oX,nB,Option.bind_some]) | rfl
def jA (n:Nat):Hint Out:={ live:=fun c=>[],run:=fun c=>none,xm:=fun c q=>none }
theorem uO (n:Nat):qa tys (da Out (nu n)) (jA n) n (aa Tryz.f195) 0:=oa (fun _=>rfl) _ _ (by kernel_rfl)
theorem XQ (n:Nat):Enters Tryz.prog 195:=enters_of (c:=aa Tryz.f195) Tryz.func195 (by kernel_rfl) (by kernel_rfl)
def qE (n:Nat):Entry:=⟨195,pcT (.pair .str (.pair .str .unit)) (.one .bool) (fun xs=>Iq n xs.1 xs.2.1),none,none⟩
theorem pT (n:Nat):EntryOk Tryz.prog gl (qE n):=wa (XQ n) fun xs y h=>ja tys_ok (ww n) mixed (hint:=jA n) (n:=n) Tryz.func195 (Ea (uO n)) (ma (φ:=(fun y=>some (Out.ret (Uc (.one .bool) y)))) (by kernel_rfl) (SV n xs.1 xs.2.1 _) h)
def Hu (n:Nat):List Entry:=qE n::nu n
theorem Ow (n:Nat):AllOk Tryz.prog gl (Hu n):=.cons (pT n) (ww n)
def yq (n:Nat) {R:Type} (s suffix:BA) (k:Bool→Option R):Option R:=(Iq n s suffix).bind fun v=>k v
def Xh (n:Nat) (s suffix:BA):Option Bool:=yq n s suffix some
theorem WW (n:Nat) {S:Type}:∀ s suffix (φ:_→Option S),(Xh n s suffix).bind φ=yq n s suffix φ:=by
  intros;unfold Xh yq;first | (simp only [fa,ba,iB,bB,oL,oX,nB,Option.bind_some]) | rfl
def rB (n:Nat):Hint Out:={ live:=fun c=>[],run:=fun c=>none,xm:=fun c q=>none }
theorem OP (n:Nat):qa tys (da Out (Hu n)) (rB n) n (aa Tryz.f151) 0:=oa (fun _=>rfl) _ _ (by kernel_rfl)
theorem RR (n:Nat):Enters Tryz.prog 151:=enters_of (c:=aa Tryz.f151) Tryz.func151 (by kernel_rfl) (by kernel_rfl)
def OF (n:Nat):Entry:=⟨151,pcT (.pair .str (.pair .str .unit)) (.one .bool) (fun xs=>Xh n xs.1 xs.2.1),none,none⟩
theorem QF (n:Nat):EntryOk Tryz.prog gl (OF n):=wa (RR n) fun xs y h=>ja tys_ok (Ow n) mixed (hint:=rB n) (n:=n) Tryz.func151 (Ea (OP n)) (ma (φ:=(fun y=>some (Out.ret (Uc (.one .bool) y)))) (by kernel_rfl) (WW n xs.1 xs.2.1 _) h)
def PF (n:Nat):List Entry:=OF n::Hu n
theorem JN (n:Nat):AllOk Tryz.prog gl (PF n):=.cons (QF n) (Ow n)
theorem rO:Tryz.prog.funcs[250]?=some Tryz.f250:=by kernel_rfl
theorem sO:EntryOk Tryz.prog gl ⟨250,Ct,some (.flat pab),none⟩:=R6 rO (by kernel_rfl) (by kernel_rfl) (by kernel_rfl) (by kernel_rfl)
def gA (n:Nat):List Entry:=⟨250,Ct,some (.flat pab),none⟩::PF n
theorem XG (n:Nat):AllOk Tryz.prog gl (gA n):=.cons sO (JN n)
def sJ (n:Nat):List Entry:=⟨238,pcT (.pair .str (.pair .str .unit)) (.one (.int .i64)) (fun xs=>uI xs.1 xs.2.1),none,none⟩::gA n
theorem tI (n:Nat):AllOk Tryz.prog gl (sJ n):=.cons Kcb (XG n)
def JG (n:Nat) {R:Type} (s substr:BA) (k:Int→Option R):Option R:=(uI s substr).bind fun v=>k v
def zq (n:Nat) (s substr:BA):Option Int:=JG n s substr some
theorem zbb (n:Nat) {S:Type}:∀ s substr (φ:_→Option S),(zq n s substr).bind φ=JG n s substr φ:=by
  intros;unfold zq JG;first | (simp only [fa,ba,iB,bB,oL,oX,nB,Option.bind_some]) | rfl
def KN (n:Nat):Hint Out:={ live:=fun c=>[],run:=fun c=>none,xm:=fun c q=>none }
theorem x0 (n:Nat):qa tys (da Out (sJ n)) (KN n) n (aa Tryz.f225) 0:=oa (fun _=>rfl) _ _ (by kernel_rfl)
theorem P5 (n:Nat):Enters Tryz.prog 225:=enters_of (c:=aa Tryz.f225) Tryz.func225 (by kernel_rfl) (by kernel_rfl)
def UU (n:Nat):Entry:=⟨225,pcT (.pair .str (.pair .str .unit)) (.one (.int .i64)) (fun xs=>zq n xs.1 xs.2.1),none,none⟩
theorem VU (n:Nat):EntryOk Tryz.prog gl (UU n):=wa (P5 n) fun xs y h=>ja tys_ok (tI n) mixed (hint:=KN n) (n:=n) Tryz.func225 (Ea (x0 n)) (ma (φ:=(fun y=>some (Out.ret (Uc (.one (.int .i64)) y)))) (by kernel_rfl) (zbb n xs.1 xs.2.1 _) h)
def ew (n:Nat):List Entry:=UU n::sJ n
theorem YI (n:Nat):AllOk Tryz.prog gl (ew n):=.cons (VU n) (tI n)
def zC (n:Nat) {R:Type} (s1 substr1:BA) (n0:Int) (kn:BA→BA→Int→Option R) (ko:Unit→Option R) (kr:(Int)→Option R) (kp:Int→Option R):Option R:=(zq n s1 substr1).bind fun v=>if (v==(-1:Int))=true then kr n0 else if 0≤(IntKind.wrap .i64 (v+(substr1.size:Int)))∧(IntKind.wrap .i64 (v+(substr1.size:Int)))≤(s1.size:Int) then kn (s1.extract (Int.toNat (IntKind.wrap .i64 (v+(substr1.size:Int)))) (Int.toNat (s1.size:Int))) substr1 (IntKind.wrap .i64 (n0+(1:Int))) else none
def Hk (n:Nat):Nat→BA→BA→Int→Option (Lx Unit (Int))
 | 0,_,_,_=>none
 | m+1,s1,substr1,n0=>zC n s1 substr1 n0 (Hk n m) (fun a=>some (.out a)) (fun a=>some (.ret a)) (fun p=>some (.pan p))
theorem s0 (n m:Nat) {S:Type}:∀ s1 substr1 n0 (φ:_→Option S),(Hk n (m+1) s1 substr1 n0).bind φ=zC n s1 substr1 n0 (fun s1 substr1 n0=>(Hk n m s1 substr1 n0).bind φ) (fun a=>φ (.out a)) (fun a=>φ (.ret a)) (fun p=>φ (.pan p)):=by
  intros;first | (simp only [Hk,zC,fa,ba,iB,bB,oL,oX,nB,Option.bind_some]) | rfl
def Sz:List Sl:=.dat .str::.dat .str::.top::.top::.top::.dat (.int .i64)::tp 28 []
def Rz:List RS:=[]
def FN:List Sl:=tp 4 (.dat (.int .i64)::tp 29 [])
def EN:List RS:=[]
def Si (K:XE→List AV→ia→Option Out):Lx Unit (Int)→Option Out:=fun x=>onL x (fun _=>none) (fun a=>Ye FN EN (a,()) () (K .ret)) (fun _=>none)
def IG (n:Nat) {R:Type} (s substr:BA) (k:Int→Option R):Option R:=if ((substr.size:Int)==(0:Int))=true then none else if ((substr.size:Int)==(1:Int))=true then if 0≤(0:Int)∧(0:Int)<(substr.size:Int) then k ((Lib.countByte s.data.toList (Nat.toUInt8 (Int.toNat (bt substr (0:Int)))):Nat):Int) else none else (Hk n n s substr (0:Int)).bind fun x_1=>onL x_1 (fun _=>none) (fun a_2=>k a_2) (fun _=>none)
def HG (n:Nat) (s substr:BA):Option Int:=IG n s substr some
theorem xbb (n:Nat) {S:Type}:∀ s substr (φ:_→Option S),(HG n s substr).bind φ=IG n s substr φ:=by
  intros;unfold HG IG;first | (simp only [fa,ba,iB,bB,oL,oX,nB,Option.bind_some]) | rfl
def bu (n:Nat):Hint Out:={ live:=fun c=>(cond (Nat.beq c 0) (lv [0,1,5]) []),run:=fun c=>(cond (Nat.beq c 0) (some (Zl Sz Rz fun σ ρ K=>(Hk n n σ.1 σ.2.1 σ.2.2.1).bind (Si K))) none),xm:=fun c q=>(cond (Nat.beq c 1&&q.isNone) (some [(4,none)]) none) }
def au (n:Nat) (K:XE→List AV→ia→Option Out) (m:Nat) (s1:BA) (substr1:BA) (n0:Int):Option Out:=rd tys (da Out (ew n)) (bu n) n (ta [1,1,1,1,0,0] (aa Tryz.f224)) 0 Sz Rz K m (s1,(substr1,(n0,()))) ()
theorem DN (n:Nat) (K:XE→List AV→ia→Option Out):∀ (m:Nat) s1 substr1 n0,au n K m s1 substr1 n0=(Hk n m s1 substr1 n0).bind (Si K)
  | 0,_,_,_=>by kernel_rfl
  | m+1,s1,substr1,n0=>by
    have h1:au n K (m+1) s1 substr1 n0=zC n s1 substr1 n0 (au n K m) (fun a=>Si K (.out a)) (fun a=>Si K (.ret a)) (fun p=>Si K (.pan p)):=by kernel_rfl
    have h2:au n K m=fun s1 substr1 n0=>(Hk n m s1 substr1 n0).bind (Si K):=by
      repeat (refine funext fun _=>?_)
      exact DN n K m _ _ _
    rw [h1,h2];exact (s0 n m _ _ _ (Si K)).symm
theorem UW (n:Nat):Vc tys (da Out (ew n)) (bu n) n (ta [1,1,1,1,0,0] (aa Tryz.f224)) 0:=Ca (sp:=Sz) (rp:=Rz) (by kernel_rfl) fun K σ ρ=>DN n K n σ.1 σ.2.1 σ.2.2.1
theorem u0 (n:Nat):qa tys (da Out (ew n)) (bu n) n (aa Tryz.f224) 0:=⟨trivial,⟨⟨trivial,⟨⟨trivial,trivial⟩,trivial⟩⟩,⟨⟨trivial,⟨⟨trivial,trivial⟩,trivial⟩⟩,⟨trivial,⟨UW n,⟨trivial,⟨⟨trivial,⟨⟨trivial,trivial⟩,trivial⟩⟩,⟨trivial,trivial⟩⟩⟩⟩⟩⟩⟩⟩
theorem L5 (n:Nat):Enters Tryz.prog 224:=enters_of (c:=aa Tryz.f224) Tryz.func224 (by kernel_rfl) (by kernel_rfl)
def QU (n:Nat):Entry:=⟨224,pcT (.pair .str (.pair .str .unit)) (.one (.int .i64)) (fun xs=>HG n xs.1 xs.2.1),none,none⟩
theorem j8 (n:Nat):EntryOk Tryz.prog gl (QU n):=wa (L5 n) fun xs y h=>ja tys_ok (YI n) mixed (hint:=bu n) (n:=n) Tryz.func224 (Ea (u0 n)) (ma (φ:=(fun y=>some (Out.ret (Uc (.one (.int .i64)) y)))) (by kernel_rfl) (xbb n xs.1 xs.2.1 _) h)
def bw (n:Nat):List Entry:=QU n::ew n
theorem XI (n:Nat):AllOk Tryz.prog gl (bw n):=.cons (j8 n) (YI n)
def qj (n:Nat) {R:Type} (s1 sep1:BA) (sepSave1 n01 i:Int) (a:(Sq BA)) (kn:BA→BA→Int→Int→Int→(Sq BA)→Option R) (ko:U11→Option R) (kr:Unit→Option R) (kp:Int→Option R):Option R:=if (decide (i<n01))=true then (zq n s1 sep1).bind fun v1=>if (decide (v1<(0:Int)))=true then ko (s1,i,a) else if 0≤(IntKind.wrap .i64 (v1+sepSave1))∧(IntKind.wrap .i64 (v1+sepSave1))≤(s1.size:Int) then if 0≤i∧i<(a.n:Int) then if 0≤(IntKind.wrap .i64 (v1+(sep1.size:Int)))∧(IntKind.wrap .i64 (v1+(sep1.size:Int)))≤(s1.size:Int) then kn (s1.extract (Int.toNat (IntKind.wrap .i64 (v1+(sep1.size:Int)))) (Int.toNat (s1.size:Int))) sep1 sepSave1 n01 (IntKind.wrap .i64 (i+(1:Int))) (⟨a.n,fun q=>if q=(Int.toNat i)∧q<a.n then (s1.extract (Int.toNat (0:Int)) (Int.toNat (IntKind.wrap .i64 (v1+sepSave1)))) else a.at' q⟩:Sq BA) else none else none else none else ko (s1,i,a)
def Dc (n:Nat):Nat→BA→BA→Int→Int→Int→(Sq BA)→Option (Lx U11 Unit)
 | 0,_,_,_,_,_,_=>none
 | m+1,s1,sep1,sepSave1,n01,i,a=>qj n s1 sep1 sepSave1 n01 i a (Dc n m) (fun a=>some (.out a)) (fun a=>some (.ret a)) (fun p=>some (.pan p))
theorem TR (n m:Nat) {S:Type}:∀ s1 sep1 sepSave1 n01 i a (φ:_→Option S),(Dc n (m+1) s1 sep1 sepSave1 n01 i a).bind φ=qj n s1 sep1 sepSave1 n01 i a (fun s1 sep1 sepSave1 n01 i a=>(Dc n m s1 sep1 sepSave1 n01 i a).bind φ) (fun a=>φ (.out a)) (fun a=>φ (.ret a)) (fun p=>φ (.pan p)):=by
  intros;first | (simp only [Dc,qj,fa,ba,iB,bB,oL,oX,nB,Option.bind_some]) | rfl
def cq:List Sl:=.dat .str::.dat .str::.dat (.int .i64)::.dat (.int .i64)::tp 5 (.row 0::.dat (.int .i64)::tp 55 [])
def bq:List RS:=[.row 9 1 .str false false]
def TF:List Sl:=.dat .str::tp 8 (.row 0::.dat (.int .i64)::tp 55 [])
def SF:List RS:=[.row 9 1 .str false false]
def Se (K:XE→List AV→ia→Option Out):Lx U11 Unit→Option Out:=fun x=>onL x (fun a=>Ye TF SF (a.1,(a.2.1,())) (a.2.2,()) (K (.exit 0))) (fun _=>none) (fun _=>none)
def cu (n:Nat) {R:Type} (s sep:BA) (sepSave n0:Int) (k:(Sq BA)→Option R):Option R:=if (n0==(0:Int))=true then k (⟨0,fun _=>Ba .str⟩:Sq BA) else if (sep.toList==(⟨#[]⟩:BA).toList)=true then none else if (decide (n0<(0:Int)))=true then (HG n s sep).bind fun v=>if 0≤(if (IntKind.wrap .i64 ((s.size:Int)+(1:Int)))<(IntKind.wrap .i64 (v+(1:Int))) then (IntKind.wrap .i64 ((s.size:Int)+(1:Int))) else (IntKind.wrap .i64 (v+(1:Int))))∧(if (IntKind.wrap .i64 ((s.size:Int)+(1:Int)))<(IntKind.wrap .i64 (v+(1:Int))) then (IntKind.wrap .i64 ((s.size:Int)+(1:Int))) else (IntKind.wrap .i64 (v+(1:Int))))≤(if (IntKind.wrap .i64 ((s.size:Int)+(1:Int)))<(IntKind.wrap .i64 (v+(1:Int))) then (IntKind.wrap .i64 ((s.size:Int)+(1:Int))) else (IntKind.wrap .i64 (v+(1:Int)))) then if Rb (Int.toNat (if (IntKind.wrap .i64 ((s.size:Int)+(1:Int)))<(IntKind.wrap .i64 (v+(1:Int))) then (IntKind.wrap .i64 ((s.size:Int)+(1:Int))) else (IntKind.wrap .i64 (v+(1:Int))))) 16=true then (Dc n n s sep sepSave (IntKind.wrap .i64 ((if (IntKind.wrap .i64 ((s.size:Int)+(1:Int)))<(IntKind.wrap .i64 (v+(1:Int))) then (IntKind.wrap .i64 ((s.size:Int)+(1:Int))) else (IntKind.wrap .i64 (v+(1:Int)))) - (1:Int))) (0:Int) (⟨(Int.toNat (if (IntKind.wrap .i64 ((s.size:Int)+(1:Int)))<(IntKind.wrap .i64 (v+(1:Int))) then (IntKind.wrap .i64 ((s.size:Int)+(1:Int))) else (IntKind.wrap .i64 (v+(1:Int))))),fun _=>(⟨#[]⟩:BA)⟩:Sq BA)).bind fun x_1=>onL x_1
 (fun a_2=>if 0≤a_2.2.1∧a_2.2.1<(a_2.2.2.n:Int) then if 0≤(IntKind.wrap .i64 (a_2.2.1+(1:Int)))∧(IntKind.wrap .i64 (a_2.2.1+(1:Int)))≤(a_2.2.2.n:Int) then k (⟨((Int.toNat (IntKind.wrap .i64 (a_2.2.1+(1:Int)))) - (Int.toNat (0:Int))),fun j_0=>(fun q=>if q=(Int.toNat a_2.2.1)∧q<a_2.2.2.n then a_2.1 else a_2.2.2.at' q) ((Int.toNat (0:Int))+j_0)⟩:Sq BA) else none else none) (fun _=>none) (fun _=>none) else none else none else if 0≤(if (IntKind.wrap .i64 ((s.size:Int)+(1:Int)))<n0 then (IntKind.wrap .i64 ((s.size:Int)+(1:Int))) else n0)∧(if (IntKind.wrap .i64 ((s.size:Int)+(1:Int)))<n0 then (IntKind.wrap .i64 ((s.size:Int)+(1:Int))) else n0)≤(if (IntKind.wrap .i64 ((s.size:Int)+(1:Int)))<n0 then (IntKind.wrap .i64 ((s.size:Int)+(1:Int))) else n0) then if Rb (Int.toNat (if (IntKind.wrap .i64 ((s.size:Int)+(1:Int)))<n0 then (IntKind.wrap .i64 ((s.size:Int)+(1:Int))) else n0)) 16=true then (Dc n n s sep sepSave (IntKind.wrap .i64 ((if (IntKind.wrap .i64 ((s.size:Int)+(1:Int)))<n0 then (IntKind.wrap .i64 ((s.size:Int)+(1:Int))) else n0) - (1:Int))) (0:Int) (⟨(Int.toNat (if (IntKind.wrap .i64 ((s.size:Int)+(1:Int)))<n0 then (IntKind.wrap .i64 ((s.size:Int)+(1:Int))) else n0)),fun _=>(⟨#[]⟩:BA)⟩:Sq BA)).bind fun x_3=>onL x_3 (fun a_4=>if 0≤a_4.2.1∧a_4.2.1<(a_4.2.2.n:Int) then if 0≤(IntKind.wrap .i64 (a_4.2.1+(1:Int)))∧(IntKind.wrap .i64 (a_4.2.1+(1:Int)))≤(a_4.2.2.n:Int) then
 k (⟨((Int.toNat (IntKind.wrap .i64 (a_4.2.1+(1:Int)))) - (Int.toNat (0:Int))),fun j_0=>(fun q=>if q=(Int.toNat a_4.2.1)∧q<a_4.2.2.n then a_4.1 else a_4.2.2.at' q) ((Int.toNat (0:Int))+j_0)⟩:Sq BA) else none else none) (fun _=>none) (fun _=>none) else none else none
def fw (n:Nat) (s sep:BA) (sepSave n0:Int):Option (Sq BA):=cu n s sep sepSave n0 some
theorem C0 (n:Nat) {S:Type}:∀ s sep sepSave n0 (φ:_→Option S),(fw n s sep sepSave n0).bind φ=cu n s sep sepSave n0 φ:=by
  intros;unfold fw cu;first | (simp only [fa,ba,iB,bB,oL,oX,nB,Option.bind_some]) | rfl
def Dm (n:Nat):Hint Out:={ live:=fun c=>(cond (Nat.beq c 0) [(0,none),(1,none),(2,none),(3,none),(9,some (.sl .str)),(10,none)] []),run:=fun c=>(cond (Nat.beq c 0) (some (Zl cq bq fun σ ρ K=>(Dc n n σ.1 σ.2.1 σ.2.2.1 σ.2.2.2.1 σ.2.2.2.2.1 ρ.1).bind (Se K))) none),xm:=fun c q=>(cond (Nat.beq c 0&&Nat.beq (q.getD 1000000) 0&&q.isSome) (some [(0,none),(9,some (.sl .str)),(10,none)]) (cond (Nat.beq c 1&&Nat.beq (q.getD 1000000) 0&&q.isSome) (some [(0,none),(9,some (.sl .str)),(10,none)]) none)) }
def Cm (n:Nat) (K:XE→List AV→ia→Option Out) (m:Nat) (s1:BA) (sep1:BA) (sepSave1:Int) (n01:Int) (i:Int) (a:(Sq BA)):Option Out:=rd tys (da Out (bw n)) (Dm n) n (ta [1,1,1,1,1,1,1,1,0,0,0] (aa Tryz.f193)) 0 cq bq K m (s1,(sep1,(sepSave1,(n01,(i,()))))) (a,())
theorem lD (n:Nat) (K:XE→List AV→ia→Option Out):∀ (m:Nat) s1 sep1 sepSave1 n01 i a,Cm n K m s1 sep1 sepSave1 n01 i a=(Dc n m s1 sep1 sepSave1 n01 i a).bind (Se K)
  | 0,_,_,_,_,_,_=>by kernel_rfl
  | m+1,s1,sep1,sepSave1,n01,i,a=>by
    have h1:Cm n K (m+1) s1 sep1 sepSave1 n01 i a=qj n s1 sep1 sepSave1 n01 i a (Cm n K m) (fun a=>Se K (.out a)) (fun a=>Se K (.ret a)) (fun p=>Se K (.pan p)):=by kernel_rfl
    have h2:Cm n K m=fun s1 sep1 sepSave1 n01 i a=>(Dc n m s1 sep1 sepSave1 n01 i a).bind (Se K):=by
      repeat (refine funext fun _=>?_)
      exact lD n K m _ _ _ _ _ _
    rw [h1,h2];exact (TR n m _ _ _ _ _ _ (Se K)).symm
theorem QP (n:Nat):Vc tys (da Out (bw n)) (Dm n) n (ta [1,1,1,1,1,1,1,1,0,0,0] (aa Tryz.f193)) 0:=Ca (sp:=cq) (rp:=bq) (by kernel_rfl) fun K σ ρ=>lD n K n σ.1 σ.2.1 σ.2.2.1 σ.2.2.2.1 σ.2.2.2.2.1 ρ.1
theorem UR (n:Nat):qa tys (da Out (bw n)) (Dm n) n (aa Tryz.f193) 0:=⟨trivial,⟨⟨trivial,⟨⟨trivial,trivial⟩,trivial⟩⟩,⟨⟨trivial,⟨⟨trivial,trivial⟩,trivial⟩⟩,⟨⟨trivial,⟨trivial,trivial⟩⟩,⟨trivial,⟨trivial,⟨trivial,⟨trivial,⟨⟨QP n,⟨⟨trivial,⟨trivial,trivial⟩⟩,⟨trivial,⟨⟨trivial,⟨trivial,trivial⟩⟩,⟨trivial,⟨trivial,trivial⟩⟩⟩⟩⟩⟩,⟨trivial,⟨trivial,trivial⟩⟩⟩⟩⟩⟩⟩⟩⟩⟩⟩
theorem YU (n:Nat):Enters Tryz.prog 193:=enters_of (c:=aa Tryz.f193) Tryz.func193 (by kernel_rfl) (by kernel_rfl)
def ZI (n:Nat):Entry:=⟨193,pcT K13 (.one (.sl .str)) (fun xs=>fw n xs.1 xs.2.1 xs.2.2.1 xs.2.2.2.1),none,none⟩
theorem ZW (n:Nat):EntryOk Tryz.prog gl (ZI n):=wa (YU n) fun xs y h=>ja tys_ok (XI n) mixed (hint:=Dm n) (n:=n) Tryz.func193 (Ea (UR n)) (ma (φ:=(fun y=>some (Out.ret (Uc (.one (.sl .str)) y)))) (by kernel_rfl) (C0 n xs.1 xs.2.1 xs.2.2.1 xs.2.2.2.1 _) h)
def Tz (n:Nat):List Entry:=ZI n::bw n
theorem tB (n:Nat):AllOk Tryz.prog gl (Tz n):=.cons (ZW n) (XI n)
def LG (n:Nat) {R:Type} (s sep:BA) (k:(Sq BA)→Option R):Option R:=(fw n s sep (0:Int) (-1:Int)).bind fun v=>k v
def KG (n:Nat) (s sep:BA):Option (Sq BA):=LG n s sep some
theorem Abb (n:Nat) {S:Type}:∀ s sep (φ:_→Option S),(KG n s sep).bind φ=LG n s sep φ:=by
  intros;unfold KG LG;first | (simp only [fa,ba,iB,bB,oL,oX,nB,Option.bind_some]) | rfl
def LN (n:Nat):Hint Out:={ live:=fun c=>[],run:=fun c=>none,xm:=fun c q=>none }
theorem B0 (n:Nat):qa tys (da Out (Tz n)) (LN n) n (aa Tryz.f149) 0:=oa (fun _=>rfl) _ _ (by kernel_rfl)
theorem Q5 (n:Nat):Enters Tryz.prog 149:=enters_of (c:=aa Tryz.f149) Tryz.func149 (by kernel_rfl) (by kernel_rfl)
def WU (n:Nat):Entry:=⟨149,pcT (.pair .str (.pair .str .unit)) (.one (.sl .str)) (fun xs=>KG n xs.1 xs.2.1),none,none⟩
theorem n8 (n:Nat):EntryOk Tryz.prog gl (WU n):=wa (Q5 n) fun xs y h=>ja tys_ok (tB n) mixed (hint:=LN n) (n:=n) Tryz.func149 (Ea (B0 n)) (ma (φ:=(fun y=>some (Out.ret (Uc (.one (.sl .str)) y)))) (by kernel_rfl) (Abb n xs.1 xs.2.1 _) h)
def XU (n:Nat):List Entry:=WU n::Tz n
theorem YW (n:Nat):AllOk Tryz.prog gl (XU n):=.cons (n8 n) (tB n)
def UF (n:Nat):List Entry:=⟨196,fun {R}=>ldb (R:=R) 260,none,none⟩::XU n
theorem NN (n:Nat):AllOk Tryz.prog gl (UF n):=.cons qhb (YW n)
def Ik (n:Nat):List Entry:=⟨157,pcT (.pair (.int .i64) .unit) (.one .str) (fun xs=>Ocb xs.1),none,none⟩::UF n
theorem Yx (n:Nat):AllOk Tryz.prog gl (Ik n):=.cons Rhb (NN n)
def Mk (n:Nat) {R:Type} (l t10:(Sq BA)) (t11 t12:Int) (kn:(Sq BA)→(Sq BA)→Int→Int→Option R) (ko:((Sq BA))→Option R) (kr:(Bool)→Option R) (kp:Int→Option R):Option R:=if (decide (t12<t11))=true then if 0≤t12∧t12<(t10.n:Int) then (geb (t10.at' (Int.toNat t12))).bind fun v1=>if v1.2=true then if (decide (v1.1<(0:Int)))=false then if (decide (v1.1>(255:Int)))=false then (Ocb v1.1).bind fun v2=>if (!(v2.toList==(t10.at' (Int.toNat t12)).toList))=true then kr false else kn l t10 t11 (IntKind.wrap .i64 (t12+(1:Int))) else kr false else kr false else kr false else none else ko l
def td (n:Nat):Nat→(Sq BA)→(Sq BA)→Int→Int→Option (Lx ((Sq BA)) (Bool))
 | 0,_,_,_,_=>none
 | m+1,l,t10,t11,t12=>Mk n l t10 t11 t12 (td n m) (fun a=>some (.out a)) (fun a=>some (.ret a)) (fun p=>some (.pan p))
theorem ES (n m:Nat) {S:Type}:∀ l t10 t11 t12 (φ:_→Option S),(td n (m+1) l t10 t11 t12).bind φ=Mk n l t10 t11 t12 (fun l t10 t11 t12=>(td n m l t10 t11 t12).bind φ) (fun a=>φ (.out a)) (fun a=>φ (.ret a)) (fun p=>φ (.pan p)):=by
  intros;first | (simp only [td,Mk,fa,ba,iB,bB,oL,oX,nB,Option.bind_some]) | rfl
def Br:List Sl:=.top::.top::.top::.dat (.sl .str)::tp 6 (.dat (.sl .str)::.dat (.int .i64)::.dat (.int .i64)::tp 28 [])
def Ar:List RS:=[]
def OG:List Sl:=.top::.top::.top::.dat (.sl .str)::tp 37 []
def NG:List RS:=[]
def QG:List Sl:=.top::.top::.dat .bool::tp 38 []
def PG:List RS:=[]
def Ff (K:XE→List AV→ia→Option Out):Lx ((Sq BA)) (Bool)→Option Out:=fun x=>onL x (fun a=>Ye OG NG (a,()) () (K (.exit 0))) (fun a=>Ye QG PG (a,()) () (K .ret)) (fun _=>none)
def zw (n:Nat) {R:Type} (s:BA) (k:Bool→Option R):Option R:=(KG n s (⟨#[46]⟩:BA)).bind fun v=>(td n n v v (v.n:Int) (0:Int)).bind fun x_1=>onL x_1 (fun a_2=>k ((a_2.n:Int)==(4:Int))) (fun a_3=>k a_3) (fun _=>none)
def xp (n:Nat) (s:BA):Option Bool:=zw n s some
theorem J1 (n:Nat) {S:Type}:∀ s (φ:_→Option S),(xp n s).bind φ=zw n s φ:=by
  intros;unfold xp zw;first | (simp only [fa,ba,iB,bB,oL,oX,nB,Option.bind_some]) | rfl
def wn (n:Nat):Hint Out:={ live:=fun c=>(cond (Nat.beq c 0) [(3,some (.sl .str)),(10,some (.sl .str)),(11,none),(12,none)] []),run:=fun c=>(cond (Nat.beq c 0) (some (Zl Br Ar fun σ ρ K=>(td n n σ.1 σ.2.1 σ.2.2.1 σ.2.2.2.1).bind (Ff K))) none),xm:=fun c q=>(cond (Nat.beq c 0&&Nat.beq (q.getD 1000000) 0&&q.isSome) (some [(3,some (.sl .str))]) (cond (Nat.beq c 1&&q.isNone) (some [(2,none)]) none)) }
def un (n:Nat) (K:XE→List AV→ia→Option Out) (m:Nat) (l:(Sq BA)) (t10:(Sq BA)) (t11:Int) (t12:Int):Option Out:=rd tys (da Out (Ik n)) (wn n) n (ta [1,1,0,1,0,0] (aa Tryz.f152)) 0 Br Ar K m (l,(t10,(t11,(t12,())))) ()
theorem VD (n:Nat) (K:XE→List AV→ia→Option Out):∀ (m:Nat) l t10 t11 t12,un n K m l t10 t11 t12=(td n m l t10 t11 t12).bind (Ff K)
  | 0,_,_,_,_=>by kernel_rfl
  | m+1,l,t10,t11,t12=>by
    have h1:un n K (m+1) l t10 t11 t12=Mk n l t10 t11 t12 (un n K m) (fun a=>Ff K (.out a)) (fun a=>Ff K (.ret a)) (fun p=>Ff K (.pan p)):=by kernel_rfl
    have h2:un n K m=fun l t10 t11 t12=>(td n m l t10 t11 t12).bind (Ff K):=by
      repeat (refine funext fun _=>?_)
      exact VD n K m _ _ _ _
    rw [h1,h2];exact (ES n m _ _ _ _ (Ff K)).symm
theorem JQ (n:Nat):Vc tys (da Out (Ik n)) (wn n) n (ta [1,1,0,1,0,0] (aa Tryz.f152)) 0:=Ca (sp:=Br) (rp:=Ar) (by kernel_rfl) fun K σ ρ=>VD n K n σ.1 σ.2.1 σ.2.2.1 σ.2.2.2.1
theorem FS (n:Nat):qa tys (da Out (Ik n)) (wn n) n (aa Tryz.f152) 0:=⟨trivial,⟨trivial,⟨⟨trivial,⟨JQ n,⟨trivial,⟨⟨trivial,trivial⟩,⟨⟨trivial,⟨trivial,⟨trivial,⟨⟨trivial,trivial⟩,trivial⟩⟩⟩⟩,trivial⟩⟩⟩⟩⟩,⟨trivial,trivial⟩⟩⟩⟩
theorem yV (n:Nat):Enters Tryz.prog 152:=enters_of (c:=aa Tryz.f152) Tryz.func152 (by kernel_rfl) (by kernel_rfl)
def NK (n:Nat):Entry:=⟨152,pcT (.pair .str .unit) (.one .bool) (fun xs=>xp n xs.1),none,none⟩
theorem OK (n:Nat):EntryOk Tryz.prog gl (NK n):=wa (yV n) fun xs y h=>ja tys_ok (Yx n) mixed (hint:=wn n) (n:=n) Tryz.func152 (Ea (FS n)) (ma (φ:=(fun y=>some (Out.ret (Uc (.one .bool) y)))) (by kernel_rfl) (J1 n xs.1 _) h)
def vn (n:Nat):List Entry:=NK n::Ik n
theorem DC (n:Nat):AllOk Tryz.prog gl (vn n):=.cons (OK n) (Yx n)
end
end Go.Proofs.YtdhehcnfkcibiaaGreatDoor.AM
