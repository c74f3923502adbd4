/- Typed functions that tell what the Go functions of this seat answer, and proofs of it, by program (gen.py). -/
import Derived.Test.YtdhehcnfkcibiaaGreatDoorKT
import Derived.Test.YtdhehcnfkcibiaaGreatDoorKB
import Derived.Test.YtdhehcnfkcibiaaGreatDoorKL
import Derived.Test.YtdhehcnfkcibiaaGreatDoorKM
import Derived.Test.YtdhehcnfkcibiaaGreatDoorKN
set_option linter.all false
set_option linter.unusedVariables false
set_option linter.unusedSimpArgs false
set_option maxRecDepth 1000000
set_option maxHeartbeats 0
namespace Go.Proofs.YtdhehcnfkcibiaaGreatDoor.AM
open Go Go.RowKit
noncomputable section
abbrev K0:CTy:=(.pair (.pair .str (.pair .str .unit)) (.pair (.int .i64) (.pair (.int .i64) (.pair (.int .i64) (.pair (.int .i64) .unit)))))
abbrev K1:CTy:=(.pair (.int .i64) (.pair (.int .i64) (.pair .bool (.pair (.pair .str (.pair .str .unit)) (.pair (.sl K0) (.pair .str (.pair (.int .i64) (.pair .bool (.pair .bool .unit)))))))))
abbrev K2:CTy:=(.pair K1 .unit)
abbrev K3:CTy:=(.pair (.int .i64) (.pair (.sl K1) .unit))
abbrev K4:CTy:=(.pair K3 .unit)
abbrev K5:CTy:=(.pair (.int .i64) (.pair (.int .i64) (.pair (.int .i64) (.pair (.int .i64) (.pair (.int .i64) .unit)))))
abbrev K6:CTy:=(.pair .str (.pair (.int .i64) (.pair (.int .i64) (.pair (.int .i64) (.pair K5 (.pair .bool .unit))))))
abbrev K7:CTy:=(.pair (.sl K6) (.pair .str (.pair (.int .i64) (.pair (.int .i64) (.pair (.sl (.int .i64)) (.pair (.int .i64) (.pair (.int .i64) (.pair (.flt .f64) .unit))))))))
abbrev K8:CTy:=(.pair K7 .unit)
abbrev K9:CTy:=(.pair (.int .i64) (.pair (.int .i64) (.pair (.int .i64) (.pair K1 (.pair .bool .unit)))))
abbrev j6:CTy:=(.pair K3 (.pair K7 (.pair (.sl K9) .unit)))
abbrev l6:CTy:=(.pair j6 .unit)
abbrev m6:CTy:=(.pair K5 .unit)
abbrev n6:CTy:=(.pair .str (.pair .str (.pair (.int .i64) (.pair (.int .i64) .unit))))
abbrev o6:CTy:=(.pair K0 .unit)
abbrev q6:CTy:=(.pair (.sl K0) .unit)
abbrev r6:CTy:=(.pair K6 .unit)
abbrev u6:CTy:=(.pair K1 (.pair (.sl (.int .i64)) .unit))
abbrev w6:CTy:=(.pair K3 (.pair (.int .i64) .unit))
abbrev x6:CTy:=(.pair K3 (.pair K7 (.pair (.int .i64) (.pair (.int .i64) .unit))))
abbrev y6:CTy:=(.pair K3 (.pair K7 (.pair K1 .unit)))
abbrev U2:Type:=(BA×(BA×Unit))
abbrev U3:Type:=(Int×(Int×(Int×(Int×Unit))))
abbrev T0:Type:=(U2×U3)
abbrev T1:Type:=(Int×(Int×(Bool×(U2×((Sq T0)×(BA×(Int×(Bool×(Bool×Unit)))))))))
abbrev T2:Type:=(BA×(Int×(Int×(Int×((Int×U3)×(Bool×Unit))))))
abbrev T3:Type:=((Sq T2)×(BA×(Int×(Int×((Sq Int)×(Int×(Int×(Nat×Unit))))))))
abbrev U0:Type:=(Sq (Int×(Int×(Int×(T1×(Bool×Unit))))))
abbrev U1:Type:=(Int×((Sq T1)×Unit))
abbrev T4:Type:=(U1×(T3×(U0×Unit)))
abbrev U4:Type:=((Sq Int)×Unit)
def NY (n:Nat):List Entry:=[]
theorem uR (n:Nat):AllOk Tryz.prog gl (NY n):=.nil
def se (n:Nat) {R:Type} (n0 i m01 m02:Int) (m03:Bool) (m04 m05:BA) (m06:(Sq T0)) (m07:BA) (m08:Int) (m09 m010:Bool) (kn:Int→Int→Int→Int→Bool→BA→BA→(Sq T0)→BA→Int→Bool→Bool→Option R) (ko:(Int)→Option R) (kr:Unit→Option R) (kp:Int→Option R):Option R:=if (decide (i<(m06.n:Int)))=true then if (decide (n0<(1048576:Int)))=true then if 0≤i∧i<(m06.n:Int) then if 0≤i∧i<(m06.n:Int) then kn (IntKind.wrap .i64 ((IntKind.wrap .i64 ((IntKind.wrap .i64 (n0+(1:Int)))+(((((m06.at' (Int.toNat i))).1).1).size:Int)))+((((((m06.at' (Int.toNat i))).1).2).1).size:Int))) (IntKind.wrap .i64 (i+(1:Int))) m01 m02 m03 m04 m05 m06 m07 m08 m09 m010 else none else none else ko n0 else ko n0
def Ab (n:Nat):Nat→Int→Int→Int→Int→Bool→BA→BA→(Sq T0)→BA→Int→Bool→Bool→Option (Lx (Int) Unit)
 | 0,_,_,_,_,_,_,_,_,_,_,_,_=>none
 | m+1,n0,i,m01,m02,m03,m04,m05,m06,m07,m08,m09,m010=>se n n0 i m01 m02 m03 m04 m05 m06 m07 m08 m09 m010 (Ab n m) (fun a=>some (.out a)) (fun a=>some (.ret a)) (fun p=>some (.pan p))
theorem wB (n m:Nat) {S:Type}:∀ n0 i m01 m02 m03 m04 m05 m06 m07 m08 m09 m010 (φ:_→Option S),(Ab n (m+1) n0 i m01 m02 m03 m04 m05 m06 m07 m08 m09 m010).bind φ=se n n0 i m01 m02 m03 m04 m05 m06 m07 m08 m09 m010 (fun n0 i m01 m02 m03 m04 m05 m06 m07 m08 m09 m010=>(Ab n m n0 i m01 m02 m03 m04 m05 m06 m07 m08 m09 m010).bind φ) (fun a=>φ (.out a)) (fun a=>φ (.ret a)) (fun p=>φ (.pan p)):=by
  intros;first | (simp only [Ab,se,ia,ba,iB,bB,oL,oX,nB,Option.bind_some]) | rfl
def ei:List Sl:=.top::.ptr 0 0 0::.top::.dat (.int .i64)::.dat (.int .i64)::tp 45 []
def di:List RS:=[.box 59 10 true [.dat (.int .i64),.dat (.int .i64),.dat .bool,.dat .str,.dat .str,.dat (.sl K0),.dat .str,.dat (.int .i64),.dat .bool,.dat .bool]]
def Ss:List Sl:=.top::.top::.top::.dat (.int .i64)::tp 46 []
def Rs:List RS:=[]
def Fc (K:XE→List AV→ja→Option Out):Lx (Int) Unit→Option Out:=fun x=>W7 x (fun a=>tj Ss Rs (a,()) () (K (.exit 0))) (fun _=>none) (fun _=>none)
def ij (n:Nat) {R:Type} (m0:T1) (k:Int→Option R):Option R:=(Ab n n (IntKind.wrap .i64 ((IntKind.wrap .i64 ((m0.2.2.2.2.2.1.size:Int)+(m0.2.2.2.1.1.size:Int)))+(m0.2.2.2.1.2.1.size:Int))) (0:Int) m0.1 m0.2.1 m0.2.2.1 m0.2.2.2.1.1 m0.2.2.2.1.2.1 m0.2.2.2.2.1 m0.2.2.2.2.2.1 m0.2.2.2.2.2.2.1 m0.2.2.2.2.2.2.2.1 m0.2.2.2.2.2.2.2.2.1).bind fun x_1=>W7 x_1 (fun a_2=>k a_2) (fun _=>none) (fun _=>none)
def Yf (n:Nat) (m0:T1):Option Int:=ij n m0 some
theorem KG (n:Nat) {S:Type}:∀ m0 (φ:_→Option S),(Yf n m0).bind φ=ij n m0 φ:=by
  intros;unfold Yf ij;first | (simp only [ia,ba,iB,bB,oL,oX,nB,Option.bind_some]) | rfl
def Ig (n:Nat):Hint Out:={ live:=fun c=>(cond (Nat.beq c 0) (lv [1,3,4]) []),run:=fun c=>(cond (Nat.beq c 0) (some (Ds ei di fun σ ρ K=>(Ab n n σ.1 σ.2.1 ρ.1.1 ρ.1.2.1 ρ.1.2.2.1 ρ.1.2.2.2.1 ρ.1.2.2.2.2.1 ρ.1.2.2.2.2.2.1 ρ.1.2.2.2.2.2.2.1 ρ.1.2.2.2.2.2.2.2.1 ρ.1.2.2.2.2.2.2.2.2.1 ρ.1.2.2.2.2.2.2.2.2.2.1).bind (Fc K))) none),xm:=fun c q=>(cond (Nat.beq c 0&&Nat.beq (q.getD 1000000) 0&&q.isSome) (some [(3,none)]) none) }
def Hg (n:Nat) (K:XE→List AV→ja→Option Out) (m:Nat) (n0:Int) (i:Int) (m01:Int) (m02:Int) (m03:Bool) (m04:BA) (m05:BA) (m06:(Sq T0)) (m07:BA) (m08:Int) (m09:Bool) (m010:Bool):Option Out:=Jg tys (da Out (NY n)) (Ig n) n (Ba [1,1,0,1,0,0] (aa Tryz.f80)) 0 ei di K m (n0,(i,())) ((m01,(m02,(m03,(m04,(m05,(m06,(m07,(m08,(m09,(m010,())))))))))),())
theorem Qp (n:Nat) (K:XE→List AV→ja→Option Out):∀ (m:Nat) n0 i m01 m02 m03 m04 m05 m06 m07 m08 m09 m010,Hg n K m n0 i m01 m02 m03 m04 m05 m06 m07 m08 m09 m010=(Ab n m n0 i m01 m02 m03 m04 m05 m06 m07 m08 m09 m010).bind (Fc K)
  | 0,_,_,_,_,_,_,_,_,_,_,_,_=>by kernel_rfl
  | m+1,n0,i,m01,m02,m03,m04,m05,m06,m07,m08,m09,m010=>by
    have h1:Hg n K (m+1) n0 i m01 m02 m03 m04 m05 m06 m07 m08 m09 m010=se n n0 i m01 m02 m03 m04 m05 m06 m07 m08 m09 m010 (Hg n K m) (fun a=>Fc K (.out a)) (fun a=>Fc K (.ret a)) (fun p=>Fc K (.pan p)):=by kernel_rfl
    have h2:Hg n K m=fun n0 i m01 m02 m03 m04 m05 m06 m07 m08 m09 m010=>(Ab n m n0 i m01 m02 m03 m04 m05 m06 m07 m08 m09 m010).bind (Fc K):=by
      repeat (refine funext fun _=>?_)
      exact Qp n K m _ _ _ _ _ _ _ _ _ _ _ _
    rw [h1,h2];exact (wB n m _ _ _ _ _ _ _ _ _ _ _ _ (Fc K)).symm
theorem kz (n:Nat):dg tys (da Out (NY n)) (Ig n) n (Ba [1,1,0,1,0,0] (aa Tryz.f80)) 0:=Wa (sp:=ei) (rp:=di) (by kernel_rfl) fun K σ ρ=>Qp n K n σ.1 σ.2.1 ρ.1.1 ρ.1.2.1 ρ.1.2.2.1 ρ.1.2.2.2.1 ρ.1.2.2.2.2.1 ρ.1.2.2.2.2.2.1 ρ.1.2.2.2.2.2.2.1 ρ.1.2.2.2.2.2.2.2.1 ρ.1.2.2.2.2.2.2.2.2.1 ρ.1.2.2.2.2.2.2.2.2.2.1
theorem xB (n:Nat):ra tys (da Out (NY n)) (Ig n) n (aa Tryz.f80) 0:=⟨trivial,⟨trivial,⟨⟨trivial,⟨kz n,⟨⟨trivial,⟨trivial,trivial⟩⟩,⟨trivial,trivial⟩⟩⟩⟩,⟨trivial,trivial⟩⟩⟩⟩
theorem KC (n:Nat):Enters Tryz.prog 80:=enters_of (c:=aa Tryz.f80) Tryz.func80 (by kernel_rfl) (by kernel_rfl)
def It (n:Nat):Entry:=⟨80,e8 K2 (.one (.int .i64)) (fun xs=>Yf n xs.1),none,none⟩
theorem mE (n:Nat):EntryOk Tryz.prog gl (It n):=Ca (KC n) fun xs y h=>la tys_ok (uR n) mixed (hint:=Ig n) (n:=n) Tryz.func80 (Va (xB n)) (pa (φ:=(fun y=>some (Out.ret (me (.one (.int .i64)) y)))) (by kernel_rfl) (KG n xs.1 _) h)
def pg (n:Nat):List Entry:=It n::NY n
theorem zo (n:Nat):AllOk Tryz.prog gl (pg n):=.cons (mE n) (uR n)
def Md (n:Nat) {R:Type} (n0 i s1:Int) (s2:(Sq T1)) (kn:Int→Int→Int→(Sq T1)→Option R) (ko:(Int)→Option R) (kr:Unit→Option R) (kp:Int→Option R):Option R:=if (decide (i<(s2.n:Int)))=true then if (decide (n0<(1048576:Int)))=true then if 0≤i∧i<(s2.n:Int) then (Yf n (((s2.at' (Int.toNat i))).1,((((s2.at' (Int.toNat i))).2).1,(((((s2.at' (Int.toNat i))).2).2).1,((((((((s2.at' (Int.toNat i))).2).2).2).1).1,((((((((s2.at' (Int.toNat i))).2).2).2).1).2).1,())),((((((((s2.at' (Int.toNat i))).2).2).2).2).1),((((((((s2.at' (Int.toNat i))).2).2).2).2).2).1,(((((((((s2.at' (Int.toNat i))).2).2).2).2).2).2).1,((((((((((s2.at' (Int.toNat i))).2).2).2).2).2).2).2).1,(((((((((((s2.at' (Int.toNat i))).2).2).2).2).2).2).2).2).1,())))))))))).bind fun v=>kn (IntKind.wrap .i64 (n0+v)) (IntKind.wrap .i64 (i+(1:Int))) s1 s2 else none else ko n0 else ko n0
def mb (n:Nat):Nat→Int→Int→Int→(Sq T1)→Option (Lx (Int) Unit)
 | 0,_,_,_,_=>none
 | m+1,n0,i,s1,s2=>Md n n0 i s1 s2 (mb n m) (fun a=>some (.out a)) (fun a=>some (.ret a)) (fun p=>some (.pan p))
theorem lz (n m:Nat) {S:Type}:∀ n0 i s1 s2 (φ:_→Option S),(mb n (m+1) n0 i s1 s2).bind φ=Md n n0 i s1 s2 (fun n0 i s1 s2=>(mb n m n0 i s1 s2).bind φ) (fun a=>φ (.out a)) (fun a=>φ (.ret a)) (fun p=>φ (.pan p)):=by
  intros;first | (simp only [mb,Md,ia,ba,iB,bB,oL,oX,nB,Option.bind_some]) | rfl
def Lh:List Sl:=.top::.ptr 0 0 0::.top::.dat (.int .i64)::.dat (.int .i64)::tp 23 []
def Kh:List RS:=[.box 24 2 true [.dat (.int .i64),.dat (.sl K1)]]
def Hr:List Sl:=.top::.top::.top::.dat (.int .i64)::tp 24 []
def Gr:List RS:=[]
def Zb (K:XE→List AV→ja→Option Out):Lx (Int) Unit→Option Out:=fun x=>W7 x (fun a=>tj Hr Gr (a,()) () (K (.exit 0))) (fun _=>none) (fun _=>none)
def Xh (n:Nat) {R:Type} (s:U1) (k:Int→Option R):Option R:=(mb n n (s.2.1.n:Int) (0:Int) s.1 s.2.1).bind fun x_1=>W7 x_1 (fun a_2=>k a_2) (fun _=>none) (fun _=>none)
def ug (n:Nat) (s:U1):Option Int:=Xh n s some
theorem nE (n:Nat) {S:Type}:∀ s (φ:_→Option S),(ug n s).bind φ=Xh n s φ:=by
  intros;unfold ug Xh;first | (simp only [ia,ba,iB,bB,oL,oX,nB,Option.bind_some]) | rfl
def bg (n:Nat):Hint Out:={ live:=fun c=>(cond (Nat.beq c 0) (lv [1,3,4]) []),run:=fun c=>(cond (Nat.beq c 0) (some (Ds Lh Kh fun σ ρ K=>(mb n n σ.1 σ.2.1 ρ.1.1 ρ.1.2.1).bind (Zb K))) none),xm:=fun c q=>(cond (Nat.beq c 0&&Nat.beq (q.getD 1000000) 0&&q.isSome) (some [(3,none)]) none) }
def Zf (n:Nat) (K:XE→List AV→ja→Option Out) (m:Nat) (n0:Int) (i:Int) (s1:Int) (s2:(Sq T1)):Option Out:=Jg tys (da Out (pg n)) (bg n) n (Ba [1,1,0,1,0,0] (aa Tryz.f57)) 0 Lh Kh K m (n0,(i,())) ((s1,(s2,())),())
theorem Ao (n:Nat) (K:XE→List AV→ja→Option Out):∀ (m:Nat) n0 i s1 s2,Zf n K m n0 i s1 s2=(mb n m n0 i s1 s2).bind (Zb K)
  | 0,_,_,_,_=>by kernel_rfl
  | m+1,n0,i,s1,s2=>by
    have h1:Zf n K (m+1) n0 i s1 s2=Md n n0 i s1 s2 (Zf n K m) (fun a=>Zb K (.out a)) (fun a=>Zb K (.ret a)) (fun p=>Zb K (.pan p)):=by kernel_rfl
    have h2:Zf n K m=fun n0 i s1 s2=>(mb n m n0 i s1 s2).bind (Zb K):=by
      repeat (refine funext fun _=>?_)
      exact Ao n K m _ _ _ _
    rw [h1,h2];exact (lz n m _ _ _ _ (Zb K)).symm
theorem gx (n:Nat):dg tys (da Out (pg n)) (bg n) n (Ba [1,1,0,1,0,0] (aa Tryz.f57)) 0:=Wa (sp:=Lh) (rp:=Kh) (by kernel_rfl) fun K σ ρ=>Ao n K n σ.1 σ.2.1 ρ.1.1 ρ.1.2.1
theorem mz (n:Nat):ra tys (da Out (pg n)) (bg n) n (aa Tryz.f57) 0:=⟨trivial,⟨trivial,⟨⟨trivial,⟨gx n,⟨⟨trivial,⟨trivial,trivial⟩⟩,⟨trivial,trivial⟩⟩⟩⟩,⟨trivial,trivial⟩⟩⟩⟩
theorem yB (n:Nat):Enters Tryz.prog 57:=enters_of (c:=aa Tryz.f57) Tryz.func57 (by kernel_rfl) (by kernel_rfl)
def Ir (n:Nat):Entry:=⟨57,e8 K4 (.one (.int .i64)) (fun xs=>ug n xs.1),none,none⟩
theorem LC (n:Nat):EntryOk Tryz.prog gl (Ir n):=Ca (yB n) fun xs y h=>la tys_ok (zo n) mixed (hint:=bg n) (n:=n) Tryz.func57 (Va (mz n)) (pa (φ:=(fun y=>some (Out.ret (me (.one (.int .i64)) y)))) (by kernel_rfl) (nE n xs.1 _) h)
def jf (n:Nat):List Entry:=Ir n::pg n
theorem Nl (n:Nat):AllOk Tryz.prog gl (jf n):=.cons (LC n) (zo n)
def pd (n:Nat) {R:Type} (n0 i:Int) (c1:(Sq T2)) (c2:BA) (c3 c4:Int) (c5:(Sq Int)) (c6 c7:Int) (c8:Nat) (kn:Int→Int→(Sq T2)→BA→Int→Int→(Sq Int)→Int→Int→Nat→Option R) (ko:(Int)→Option R) (kr:Unit→Option R) (kp:Int→Option R):Option R:=if (decide (i<(c1.n:Int)))=true then if (decide (n0<(1048576:Int)))=true then if 0≤i∧i<(c1.n:Int) then kn (IntKind.wrap .i64 (n0+((((c1.at' (Int.toNat i))).1).size:Int))) (IntKind.wrap .i64 (i+(1:Int))) c1 c2 c3 c4 c5 c6 c7 c8 else none else ko n0 else ko n0
def db (n:Nat):Nat→Int→Int→(Sq T2)→BA→Int→Int→(Sq Int)→Int→Int→Nat→Option (Lx (Int) Unit)
 | 0,_,_,_,_,_,_,_,_,_,_=>none
 | m+1,n0,i,c1,c2,c3,c4,c5,c6,c7,c8=>pd n n0 i c1 c2 c3 c4 c5 c6 c7 c8 (db n m) (fun a=>some (.out a)) (fun a=>some (.ret a)) (fun p=>some (.pan p))
theorem dx (n m:Nat) {S:Type}:∀ n0 i c1 c2 c3 c4 c5 c6 c7 c8 (φ:_→Option S),(db n (m+1) n0 i c1 c2 c3 c4 c5 c6 c7 c8).bind φ=pd n n0 i c1 c2 c3 c4 c5 c6 c7 c8 (fun n0 i c1 c2 c3 c4 c5 c6 c7 c8=>(db n m n0 i c1 c2 c3 c4 c5 c6 c7 c8).bind φ) (fun a=>φ (.out a)) (fun a=>φ (.ret a)) (fun p=>φ (.pan p)):=by
  intros;first | (simp only [db,pd,ia,ba,iB,bB,oL,oX,nB,Option.bind_some]) | rfl
def kh:List Sl:=.top::.ptr 0 0 0::.top::.dat (.int .i64)::.dat (.int .i64)::tp 32 []
def jh:List RS:=[.box 29 8 true [.dat (.sl K6),.dat .str,.dat (.int .i64),.dat (.int .i64),.dat (.sl (.int .i64)),.dat (.int .i64),.dat (.int .i64),.dat (.flt .f64)]]
def Hq:List Sl:=.top::.top::.top::.dat (.int .i64)::tp 33 []
def Gq:List RS:=[]
def Rb (K:XE→List AV→ja→Option Out):Lx (Int) Unit→Option Out:=fun x=>W7 x (fun a=>tj Hq Gq (a,()) () (K (.exit 0))) (fun _=>none) (fun _=>none)
def Ch (n:Nat) {R:Type} (c:T3) (k:Int→Option R):Option R:=(db n n (IntKind.wrap .i64 ((IntKind.wrap .i64 ((c.2.1.size:Int)+(c.2.2.2.2.1.n:Int)))+(c.1.n:Int))) (0:Int) c.1 c.2.1 c.2.2.1 c.2.2.2.1 c.2.2.2.2.1 c.2.2.2.2.2.1 c.2.2.2.2.2.2.1 c.2.2.2.2.2.2.2.1).bind fun x_1=>W7 x_1 (fun a_2=>k a_2) (fun _=>none) (fun _=>none)
def gf (n:Nat) (c:T3):Option Int:=Ch n c some
theorem JC (n:Nat) {S:Type}:∀ c (φ:_→Option S),(gf n c).bind φ=Ch n c φ:=by
  intros;unfold gf Ch;first | (simp only [ia,ba,iB,bB,oL,oX,nB,Option.bind_some]) | rfl
def Ue (n:Nat):Hint Out:={ live:=fun c=>(cond (Nat.beq c 0) (lv [1,3,4]) []),run:=fun c=>(cond (Nat.beq c 0) (some (Ds kh jh fun σ ρ K=>(db n n σ.1 σ.2.1 ρ.1.1 ρ.1.2.1 ρ.1.2.2.1 ρ.1.2.2.2.1 ρ.1.2.2.2.2.1 ρ.1.2.2.2.2.2.1 ρ.1.2.2.2.2.2.2.1 ρ.1.2.2.2.2.2.2.2.1).bind (Rb K))) none),xm:=fun c q=>(cond (Nat.beq c 0&&Nat.beq (q.getD 1000000) 0&&q.isSome) (some [(3,none)]) none) }
def Te (n:Nat) (K:XE→List AV→ja→Option Out) (m:Nat) (n0:Int) (i:Int) (c1:(Sq T2)) (c2:BA) (c3:Int) (c4:Int) (c5:(Sq Int)) (c6:Int) (c7:Int) (c8:Nat):Option Out:=Jg tys (da Out (jf n)) (Ue n) n (Ba [1,1,0,1,0,0] (aa Tryz.f58)) 0 kh jh K m (n0,(i,())) ((c1,(c2,(c3,(c4,(c5,(c6,(c7,(c8,())))))))),())
theorem Ml (n:Nat) (K:XE→List AV→ja→Option Out):∀ (m:Nat) n0 i c1 c2 c3 c4 c5 c6 c7 c8,Te n K m n0 i c1 c2 c3 c4 c5 c6 c7 c8=(db n m n0 i c1 c2 c3 c4 c5 c6 c7 c8).bind (Rb K)
  | 0,_,_,_,_,_,_,_,_,_,_=>by kernel_rfl
  | m+1,n0,i,c1,c2,c3,c4,c5,c6,c7,c8=>by
    have h1:Te n K (m+1) n0 i c1 c2 c3 c4 c5 c6 c7 c8=pd n n0 i c1 c2 c3 c4 c5 c6 c7 c8 (Te n K m) (fun a=>Rb K (.out a)) (fun a=>Rb K (.ret a)) (fun p=>Rb K (.pan p)):=by kernel_rfl
    have h2:Te n K m=fun n0 i c1 c2 c3 c4 c5 c6 c7 c8=>(db n m n0 i c1 c2 c3 c4 c5 c6 c7 c8).bind (Rb K):=by
      repeat (refine funext fun _=>?_)
      exact Ml n K m _ _ _ _ _ _ _ _ _ _
    rw [h1,h2];exact (dx n m _ _ _ _ _ _ _ _ _ _ (Rb K)).symm
theorem Jv (n:Nat):dg tys (da Out (jf n)) (Ue n) n (Ba [1,1,0,1,0,0] (aa Tryz.f58)) 0:=Wa (sp:=kh) (rp:=jh) (by kernel_rfl) fun K σ ρ=>Ml n K n σ.1 σ.2.1 ρ.1.1 ρ.1.2.1 ρ.1.2.2.1 ρ.1.2.2.2.1 ρ.1.2.2.2.2.1 ρ.1.2.2.2.2.2.1 ρ.1.2.2.2.2.2.2.1 ρ.1.2.2.2.2.2.2.2.1
theorem fx (n:Nat):ra tys (da Out (jf n)) (Ue n) n (aa Tryz.f58) 0:=⟨trivial,⟨trivial,⟨⟨trivial,⟨Jv n,⟨⟨trivial,⟨trivial,trivial⟩⟩,⟨trivial,trivial⟩⟩⟩⟩,⟨trivial,trivial⟩⟩⟩⟩
theorem jz (n:Nat):Enters Tryz.prog 58:=enters_of (c:=aa Tryz.f58) Tryz.func58 (by kernel_rfl) (by kernel_rfl)
def Pp (n:Nat):Entry:=⟨58,e8 K8 (.one (.int .i64)) (fun xs=>gf n xs.1),none,none⟩
theorem vB (n:Nat):EntryOk Tryz.prog gl (Pp n):=Ca (jz n) fun xs y h=>la tys_ok (Nl n) mixed (hint:=Ue n) (n:=n) Tryz.func58 (Va (fx n)) (pa (φ:=(fun y=>some (Out.ret (me (.one (.int .i64)) y)))) (by kernel_rfl) (JC n xs.1 _) h)
def De (n:Nat):List Entry:=Pp n::jf n
theorem Xk (n:Nat):AllOk Tryz.prog gl (De n):=.cons (vB n) (Nl n)
def Oc (n:Nat) {R:Type} (n0 i p1:Int) (p2:(Sq T1)) (p3:(Sq T2)) (p4:BA) (p5 p6:Int) (p7:(Sq Int)) (p8 p9:Int) (p10:Nat) (p11:U0) (kn:Int→Int→Int→(Sq T1)→(Sq T2)→BA→Int→Int→(Sq Int)→Int→Int→Nat→U0→Option R) (ko:(Int×Int×(Sq T1)×(Sq T2)×BA×Int×Int×(Sq Int)×Int×Int×Nat×U0)→Option R) (kr:Unit→Option R) (kp:Int→Option R):Option R:=if (decide (i<(p11.n:Int)))=true then if (decide (n0<(1048576:Int)))=true then if 0≤i∧i<(p11.n:Int) then (Yf n (((((((p11.at' (Int.toNat i))).2).2).2).1).1,((((((((p11.at' (Int.toNat i))).2).2).2).1).2).1,(((((((((p11.at' (Int.toNat i))).2).2).2).1).2).2).1,((((((((((((p11.at' (Int.toNat i))).2).2).2).1).2).2).2).1).1,((((((((((((p11.at' (Int.toNat i))).2).2).2).1).2).2).2).1).2).1,())),((((((((((((p11.at' (Int.toNat i))).2).2).2).1).2).2).2).2).1),((((((((((((p11.at' (Int.toNat i))).2).2).2).1).2).2).2).2).2).1,(((((((((((((p11.at' (Int.toNat i))).2).2).2).1).2).2).2).2).2).2).1,((((((((((((((p11.at' (Int.toNat i))).2).2).2).1).2).2).2).2).2).2).2).1,(((((((((((((((p11.at' (Int.toNat i))).2).2).2).1).2).2).2).2).2).2).2).2).1,())))))))))).bind fun v2=>kn (IntKind.wrap .i64 ((IntKind.wrap .i64 (n0+(1:Int)))+v2)) (IntKind.wrap .i64 (i+(1:Int))) p1 p2 p3 p4 p5 p6 p7 p8 p9 p10 p11
 else none else ko (n0,p1,p2,p3,p4,p5,p6,p7,p8,p9,p10,p11) else ko (n0,p1,p2,p3,p4,p5,p6,p7,p8,p9,p10,p11)
def Sa (n:Nat):Nat→Int→Int→Int→(Sq T1)→(Sq T2)→BA→Int→Int→(Sq Int)→Int→Int→Nat→U0→Option (Lx (Int×Int×(Sq T1)×(Sq T2)×BA×Int×Int×(Sq Int)×Int×Int×Nat×U0) Unit)
 | 0,_,_,_,_,_,_,_,_,_,_,_,_,_=>none
 | m+1,n0,i,p1,p2,p3,p4,p5,p6,p7,p8,p9,p10,p11=>Oc n n0 i p1 p2 p3 p4 p5 p6 p7 p8 p9 p10 p11 (Sa n m) (fun a=>some (.out a)) (fun a=>some (.ret a)) (fun p=>some (.pan p))
theorem Hu (n m:Nat) {S:Type}:∀ n0 i p1 p2 p3 p4 p5 p6 p7 p8 p9 p10 p11 (φ:_→Option S),(Sa n (m+1) n0 i p1 p2 p3 p4 p5 p6 p7 p8 p9 p10 p11).bind φ=Oc n n0 i p1 p2 p3 p4 p5 p6 p7 p8 p9 p10 p11 (fun n0 i p1 p2 p3 p4 p5 p6 p7 p8 p9 p10 p11=>(Sa n m n0 i p1 p2 p3 p4 p5 p6 p7 p8 p9 p10 p11).bind φ) (fun a=>φ (.out a)) (fun a=>φ (.ret a)) (fun p=>φ (.pan p)):=by
  intros;first | (simp only [Sa,Oc,ia,ba,iB,bB,oL,oX,nB,Option.bind_some]) | rfl
def wg:List Sl:=.top::.ptr 0 0 0::.top::.dat (.int .i64)::.dat (.int .i64)::tp 36 []
def vg:List RS:=[.box 77 11 true [.dat (.int .i64),.dat (.sl K1),.dat (.sl K6),.dat .str,.dat (.int .i64),.dat (.int .i64),.dat (.sl (.int .i64)),.dat (.int .i64),.dat (.int .i64),.dat (.flt .f64),.dat (.sl K9)]]
def Ho:List Sl:=.top::.ptr 0 0 0::.top::.dat (.int .i64)::tp 37 []
def Fo:List RS:=[.box 77 11 true [.dat (.int .i64),.dat (.sl K1),.dat (.sl K6),.dat .str,.dat (.int .i64),.dat (.int .i64),.dat (.sl (.int .i64)),.dat (.int .i64),.dat (.int .i64),.dat (.flt .f64),.dat (.sl K9)]]
def Kb (K:XE→List AV→ja→Option Out):Lx (Int×Int×(Sq T1)×(Sq T2)×BA×Int×Int×(Sq Int)×Int×Int×Nat×U0) Unit→Option Out:=fun x=>W7 x (fun a=>tj Ho Fo (a.1,()) ((a.2.1,(a.2.2.1,(a.2.2.2.1,(a.2.2.2.2.1,(a.2.2.2.2.2.1,(a.2.2.2.2.2.2.1,(a.2.2.2.2.2.2.2.1,(a.2.2.2.2.2.2.2.2.1,(a.2.2.2.2.2.2.2.2.2.1,(a.2.2.2.2.2.2.2.2.2.2.1,(a.2.2.2.2.2.2.2.2.2.2.2,()))))))))))),()) (K (.exit 0))) (fun _=>none) (fun _=>none)
def Ag (n:Nat) {R:Type} (p:T4) (k:Bool→Option R):Option R:=(ug n (p.1.1,(p.1.2.1,()))).bind fun v=>(gf n (p.2.1.1,(p.2.1.2.1,(p.2.1.2.2.1,(p.2.1.2.2.2.1,(p.2.1.2.2.2.2.1,(p.2.1.2.2.2.2.2.1,(p.2.1.2.2.2.2.2.2.1,(p.2.1.2.2.2.2.2.2.2.1,()))))))))).bind fun v1=>(Sa n n (IntKind.wrap .i64 (v+v1)) (0:Int) p.1.1 p.1.2.1 p.2.1.1 p.2.1.2.1 p.2.1.2.2.1 p.2.1.2.2.2.1 p.2.1.2.2.2.2.1 p.2.1.2.2.2.2.2.1 p.2.1.2.2.2.2.2.2.1 p.2.1.2.2.2.2.2.2.2.1 p.2.2.1).bind fun x_1=>W7 x_1 (fun a_2=>if (decide (a_2.1>(30000:Int)))=false then k (decide ((a_2.2.2.2.2.2.2.2.2.2.2.2.n:Int)>(100:Int))) else k true) (fun _=>none) (fun _=>none)
def oe (n:Nat) (p:T4):Option Bool:=Ag n p some
theorem wA (n:Nat) {S:Type}:∀ p (φ:_→Option S),(oe n p).bind φ=Ag n p φ:=by
  intros;unfold oe Ag;first | (simp only [ia,ba,iB,bB,oL,oX,nB,Option.bind_some]) | rfl
def we (n:Nat):Hint Out:={ live:=fun c=>(cond (Nat.beq c 0) (lv [1,3,4]) []),run:=fun c=>(cond (Nat.beq c 0) (some (Ds wg vg fun σ ρ K=>(Sa n n σ.1 σ.2.1 ρ.1.1 ρ.1.2.1 ρ.1.2.2.1 ρ.1.2.2.2.1 ρ.1.2.2.2.2.1 ρ.1.2.2.2.2.2.1 ρ.1.2.2.2.2.2.2.1 ρ.1.2.2.2.2.2.2.2.1 ρ.1.2.2.2.2.2.2.2.2.1 ρ.1.2.2.2.2.2.2.2.2.2.1 ρ.1.2.2.2.2.2.2.2.2.2.2.1).bind (Kb K))) none),xm:=fun c q=>(cond (Nat.beq c 0&&Nat.beq (q.getD 1000000) 0&&q.isSome) (some [(1,none),(3,none)]) none) }
def ve (n:Nat) (K:XE→List AV→ja→Option Out) (m:Nat) (n0:Int) (i:Int) (p1:Int) (p2:(Sq T1)) (p3:(Sq T2)) (p4:BA) (p5:Int) (p6:Int) (p7:(Sq Int)) (p8:Int) (p9:Int) (p10:Nat) (p11:U0):Option Out:=Jg tys (da Out (De n)) (we n) n (Ba [1,1,0,1,0,0] (aa Tryz.f35)) 0 wg vg K m (n0,(i,())) ((p1,(p2,(p3,(p4,(p5,(p6,(p7,(p8,(p9,(p10,(p11,()))))))))))),())
theorem Kk (n:Nat) (K:XE→List AV→ja→Option Out):∀ (m:Nat) n0 i p1 p2 p3 p4 p5 p6 p7 p8 p9 p10 p11,ve n K m n0 i p1 p2 p3 p4 p5 p6 p7 p8 p9 p10 p11=(Sa n m n0 i p1 p2 p3 p4 p5 p6 p7 p8 p9 p10 p11).bind (Kb K)
  | 0,_,_,_,_,_,_,_,_,_,_,_,_,_=>by kernel_rfl
  | m+1,n0,i,p1,p2,p3,p4,p5,p6,p7,p8,p9,p10,p11=>by
    have h1:ve n K (m+1) n0 i p1 p2 p3 p4 p5 p6 p7 p8 p9 p10 p11=Oc n n0 i p1 p2 p3 p4 p5 p6 p7 p8 p9 p10 p11 (ve n K m) (fun a=>Kb K (.out a)) (fun a=>Kb K (.ret a)) (fun p=>Kb K (.pan p)):=by kernel_rfl
    have h2:ve n K m=fun n0 i p1 p2 p3 p4 p5 p6 p7 p8 p9 p10 p11=>(Sa n m n0 i p1 p2 p3 p4 p5 p6 p7 p8 p9 p10 p11).bind (Kb K):=by
      repeat (refine funext fun _=>?_)
      exact Kk n K m _ _ _ _ _ _ _ _ _ _ _ _ _
    rw [h1,h2];exact (Hu n m _ _ _ _ _ _ _ _ _ _ _ _ _ (Kb K)).symm
theorem Jt (n:Nat):dg tys (da Out (De n)) (we n) n (Ba [1,1,0,1,0,0] (aa Tryz.f35)) 0:=Wa (sp:=wg) (rp:=vg) (by kernel_rfl) fun K σ ρ=>Kk n K n σ.1 σ.2.1 ρ.1.1 ρ.1.2.1 ρ.1.2.2.1 ρ.1.2.2.2.1 ρ.1.2.2.2.2.1 ρ.1.2.2.2.2.2.1 ρ.1.2.2.2.2.2.2.1 ρ.1.2.2.2.2.2.2.2.1 ρ.1.2.2.2.2.2.2.2.2.1 ρ.1.2.2.2.2.2.2.2.2.2.1 ρ.1.2.2.2.2.2.2.2.2.2.2.1
theorem Iu (n:Nat):ra tys (da Out (De n)) (we n) n (aa Tryz.f35) 0:=⟨trivial,⟨trivial,⟨⟨trivial,⟨Jt n,⟨⟨trivial,⟨trivial,trivial⟩⟩,⟨trivial,trivial⟩⟩⟩⟩,⟨trivial,trivial⟩⟩⟩⟩
theorem Gw (n:Nat):Enters Tryz.prog 35:=enters_of (c:=aa Tryz.f35) Tryz.func35 (by kernel_rfl) (by kernel_rfl)
def zn (n:Nat):Entry:=⟨35,e8 l6 (.one .bool) (fun xs=>oe n xs.1),none,none⟩
theorem xy (n:Nat):EntryOk Tryz.prog gl (zn n):=Ca (Gw n) fun xs y h=>la tys_ok (Xk n) mixed (hint:=we n) (n:=n) Tryz.func35 (Va (Iu n)) (pa (φ:=(fun y=>some (Out.ret (me (.one .bool) y)))) (by kernel_rfl) (wA n xs.1 _) h)
def Td (n:Nat):List Entry:=zn n::De n
theorem uj (n:Nat):AllOk Tryz.prog gl (Td n):=.cons (xy n) (Xk n)
def Oj (n:Nat) {R:Type} (s1:BA) (by01 from0 i:Int) (l:(Sq BA)) (kn:BA→Int→Int→Int→(Sq BA)→Option R) (ko:((Sq BA))→Option R) (kr:Unit→Option R) (kp:Int→Option R):Option R:=if (decide (i≤(s1.size:Int)))=true then if (i==(s1.size:Int))=false then if 0≤i∧i<(s1.size:Int) then if ((bt s1 i)==by01)=true then if 0≤i∧i≤(s1.size:Int) then if 0≤from0∧from0≤i then if wc (l.n+1) 16=true then kn s1 by01 (IntKind.wrap .i64 (i+(1:Int))) (IntKind.wrap .i64 (i+(1:Int))) (⟨(l.n+1),fun q=>if q<l.n then l.at' q else (fun q=>List.getD (α:=BA) [(s1.extract (Int.toNat from0) (Int.toNat i))] q (Ea .str)) (q - l.n)⟩:Sq BA) else none else none else none else kn s1 by01 from0 (IntKind.wrap .i64 (i+(1:Int))) l else none else if 0≤i∧i≤(s1.size:Int) then if 0≤from0∧from0≤i then if wc (l.n+1) 16=true then kn s1 by01 (IntKind.wrap .i64 (i+(1:Int))) (IntKind.wrap .i64 (i+(1:Int))) (⟨(l.n+1),fun q=>if q<l.n then l.at' q else (fun q=>List.getD (α:=BA) [(s1.extract (Int.toNat from0) (Int.toNat i))] q (Ea .str)) (q - l.n)⟩:Sq BA) else none else none else none else ko l
def Ud (n:Nat):Nat→BA→Int→Int→Int→(Sq BA)→Option (Lx ((Sq BA)) Unit)
 | 0,_,_,_,_,_=>none
 | m+1,s1,by01,from0,i,l=>Oj n s1 by01 from0 i l (Ud n m) (fun a=>some (.out a)) (fun a=>some (.ret a)) (fun p=>some (.pan p))
theorem OJ (n m:Nat) {S:Type}:∀ s1 by01 from0 i l (φ:_→Option S),(Ud n (m+1) s1 by01 from0 i l).bind φ=Oj n s1 by01 from0 i l (fun s1 by01 from0 i l=>(Ud n m s1 by01 from0 i l).bind φ) (fun a=>φ (.out a)) (fun a=>φ (.ret a)) (fun p=>φ (.pan p)):=by
  intros;first | (simp only [Ud,Oj,ia,ba,iB,bB,oL,oX,nB,Option.bind_some]) | rfl
def sq:List Sl:=.dat .str::.dat (.int .u8)::.top::.top::.top::.row 0::.dat (.int .i64)::.dat (.int .i64)::tp 27 []
def rq:List RS:=[.row 9 1 .str true false]
def GA:List Sl:=tp 5 (.row 0::tp 29 [])
def FA:List RS:=[.row 9 1 .str true false]
def Nf (K:XE→List AV→ja→Option Out):Lx ((Sq BA)) Unit→Option Out:=fun x=>W7 x (fun a=>tj GA FA () (a,()) (K (.exit 0))) (fun _=>none) (fun _=>none)
def cw (n:Nat) {R:Type} (s:BA) (by0:Int) (k:(Sq BA)→Option R):Option R:=(Ud n n s by0 (0:Int) (0:Int) (⟨0,fun _=>Ea .str⟩:Sq BA)).bind fun x_1=>W7 x_1 (fun a_2=>k a_2) (fun _=>none) (fun _=>none)
def ss (n:Nat) (s:BA) (by0:Int):Option (Sq BA):=cw n s by0 some
theorem lQ (n:Nat) {S:Type}:∀ s by0 (φ:_→Option S),(ss n s by0).bind φ=cw n s by0 φ:=by
  intros;unfold ss cw;first | (simp only [ia,ba,iB,bB,oL,oX,nB,Option.bind_some]) | rfl
def mm (n:Nat):Hint Out:={ live:=fun c=>(cond (Nat.beq c 0) [(0,none),(1,none),(5,some (.sl .str)),(6,none),(7,none)] []),run:=fun c=>(cond (Nat.beq c 0) (some (Ds sq rq fun σ ρ K=>(Ud n n σ.1 σ.2.1 σ.2.2.1 σ.2.2.2.1 ρ.1).bind (Nf K))) none),xm:=fun c q=>(cond (Nat.beq c 0&&Nat.beq (q.getD 1000000) 0&&q.isSome) (some [(5,some (.sl .str))]) none) }
def lm (n:Nat) (K:XE→List AV→ja→Option Out) (m:Nat) (s1:BA) (by01:Int) (from0:Int) (i:Int) (l:(Sq BA)):Option Out:=Jg tys (da Out (Td n)) (mm n) n (Ba [1,1,1,0,1,0,0] (aa Tryz.f112)) 0 sq rq K m (s1,(by01,(from0,(i,())))) (l,())
theorem EA (n:Nat) (K:XE→List AV→ja→Option Out):∀ (m:Nat) s1 by01 from0 i l,lm n K m s1 by01 from0 i l=(Ud n m s1 by01 from0 i l).bind (Nf K)
  | 0,_,_,_,_,_=>by kernel_rfl
  | m+1,s1,by01,from0,i,l=>by
    have h1:lm n K (m+1) s1 by01 from0 i l=Oj n s1 by01 from0 i l (lm n K m) (fun a=>Nf K (.out a)) (fun a=>Nf K (.ret a)) (fun p=>Nf K (.pan p)):=by kernel_rfl
    have h2:lm n K m=fun s1 by01 from0 i l=>(Ud n m s1 by01 from0 i l).bind (Nf K):=by
      repeat (refine funext fun _=>?_)
      exact EA n K m _ _ _ _ _
    rw [h1,h2];exact (OJ n m _ _ _ _ _ (Nf K)).symm
theorem zH (n:Nat):dg tys (da Out (Td n)) (mm n) n (Ba [1,1,1,0,1,0,0] (aa Tryz.f112)) 0:=Wa (sp:=sq) (rp:=rq) (by kernel_rfl) fun K σ ρ=>EA n K n σ.1 σ.2.1 σ.2.2.1 σ.2.2.2.1 ρ.1
theorem PJ (n:Nat):ra tys (da Out (Td n)) (mm n) n (aa Tryz.f112) 0:=⟨trivial,⟨trivial,⟨trivial,⟨⟨trivial,⟨zH n,⟨⟨trivial,⟨trivial,trivial⟩⟩,⟨⟨trivial,⟨⟨trivial,trivial⟩,trivial⟩⟩,trivial⟩⟩⟩⟩,⟨trivial,trivial⟩⟩⟩⟩⟩
theorem TL (n:Nat):Enters Tryz.prog 112:=enters_of (c:=aa Tryz.f112) Tryz.func112 (by kernel_rfl) (by kernel_rfl)
def WF (n:Nat):Entry:=⟨112,e8 (.pair .str (.pair (.int .u8) .unit)) (.one (.sl .str)) (fun xs=>ss n xs.1 xs.2.1),none,none⟩
theorem CN (n:Nat):EntryOk Tryz.prog gl (WF n):=Ca (TL n) fun xs y h=>la tys_ok (uj n) mixed (hint:=mm n) (n:=n) Tryz.func112 (Va (PJ n)) (pa (φ:=(fun y=>some (Out.ret (me (.one (.sl .str)) y)))) (by kernel_rfl) (lQ n xs.1 xs.2.1 _) h)
def Un (n:Nat):List Entry:=WF n::Td n
theorem Kx (n:Nat):AllOk Tryz.prog gl (Un n):=.cons (CN n) (uj n)
def Xg (n:Nat) {R:Type} (s1:BA) (n0 i:Int) (kn:BA→Int→Int→Option R) (ko:(Int)→Option R) (kr:(Int×Bool)→Option R) (kp:Int→Option R):Option R:=if (decide (i<(s1.size:Int)))=true then if 0≤i∧i<(s1.size:Int) then if (decide ((bt s1 i)<(48:Int)))=false then if 0≤i∧i<(s1.size:Int) then if (decide ((bt s1 i)>(57:Int)))=true then kr ((0:Int),false) else if 0≤i∧i<(s1.size:Int) then kn s1 (IntKind.wrap .i64 ((IntKind.wrap .i64 ((10:Int)*n0))+(IntKind.wrap .i64 (IntKind.wrap .u8 ((bt s1 i) - (48:Int)))))) (IntKind.wrap .i64 (i+(1:Int))) else none else none else kr ((0:Int),false) else none else ko n0
def uc (n:Nat):Nat→BA→Int→Int→Option (Lx (Int) (Int×Bool))
 | 0,_,_,_=>none
 | m+1,s1,n0,i=>Xg n s1 n0 i (uc n m) (fun a=>some (.out a)) (fun a=>some (.ret a)) (fun p=>some (.pan p))
theorem QJ (n m:Nat) {S:Type}:∀ s1 n0 i (φ:_→Option S),(uc n (m+1) s1 n0 i).bind φ=Xg n s1 n0 i (fun s1 n0 i=>(uc n m s1 n0 i).bind φ) (fun a=>φ (.out a)) (fun a=>φ (.ret a)) (fun p=>φ (.pan p)):=by
  intros;first | (simp only [uc,Xg,ia,ba,iB,bB,oL,oX,nB,Option.bind_some]) | rfl
def uq:List Sl:=.dat .str::.top::.top::.top::.dat (.int .i64)::.dat (.int .i64)::tp 42 []
def tq:List RS:=[]
def JA:List Sl:=tp 4 (.dat (.int .i64)::tp 43 [])
def IA:List RS:=[]
def LA:List Sl:=.top::.top::.dat (.int .i64)::.dat .bool::tp 44 []
def KA:List RS:=[]
def Of (K:XE→List AV→ja→Option Out):Lx (Int) (Int×Bool)→Option Out:=fun x=>W7 x (fun a=>tj JA IA (a,()) () (K (.exit 0))) (fun a=>tj LA KA (a.1,(a.2,())) () (K .ret)) (fun _=>none)
def ew (n:Nat) {R:Type} (s:BA) (k:(Int×Bool×Unit)→Option R):Option R:=if (s.toList==(⟨#[]⟩:BA).toList)=false then if (decide ((s.size:Int)>(16:Int)))=false then if (decide ((s.size:Int)>(1:Int)))=true then if 0≤(0:Int)∧(0:Int)<(s.size:Int) then if ((bt s (0:Int))==(48:Int))=true then k ((0:Int),(false,())) else (uc n n s (0:Int) (0:Int)).bind fun x_1=>W7 x_1 (fun a_2=>k (a_2,(true,()))) (fun a_3=>k (a_3.1,(a_3.2,()))) (fun _=>none) else none else (uc n n s (0:Int) (0:Int)).bind fun x_4=>W7 x_4 (fun a_5=>k (a_5,(true,()))) (fun a_6=>k (a_6.1,(a_6.2,()))) (fun _=>none) else k ((0:Int),(false,())) else k ((0:Int),(false,()))
def dw (n:Nat) (s:BA):Option (Int×Bool×Unit):=ew n s some
theorem mQ (n:Nat) {S:Type}:∀ s (φ:_→Option S),(dw n s).bind φ=ew n s φ:=by
  intros;unfold dw ew;first | (simp only [ia,ba,iB,bB,oL,oX,nB,Option.bind_some]) | rfl
def qm (n:Nat):Hint Out:={ live:=fun c=>(cond (Nat.beq c 0) (lv [0,4,5]) []),run:=fun c=>(cond (Nat.beq c 0) (some (Ds uq tq fun σ ρ K=>(uc n n σ.1 σ.2.1 σ.2.2.1).bind (Of K))) none),xm:=fun c q=>(cond (Nat.beq c 0&&Nat.beq (q.getD 1000000) 0&&q.isSome) (some [(4,none)]) (cond (Nat.beq c 1&&q.isNone) (some [(2,none),(3,none)]) none)) }
def om (n:Nat) (K:XE→List AV→ja→Option Out) (m:Nat) (s1:BA) (n0:Int) (i:Int):Option Out:=Jg tys (da Out (Un n)) (qm n) n (Ba [1,1,1,0,1,0,0] (aa Tryz.f162)) 0 uq tq K m (s1,(n0,(i,()))) ()
theorem HA (n:Nat) (K:XE→List AV→ja→Option Out):∀ (m:Nat) s1 n0 i,om n K m s1 n0 i=(uc n m s1 n0 i).bind (Of K)
  | 0,_,_,_=>by kernel_rfl
  | m+1,s1,n0,i=>by
    have h1:om n K (m+1) s1 n0 i=Xg n s1 n0 i (om n K m) (fun a=>Of K (.out a)) (fun a=>Of K (.ret a)) (fun p=>Of K (.pan p)):=by kernel_rfl
    have h2:om n K m=fun s1 n0 i=>(uc n m s1 n0 i).bind (Of K):=by
      repeat (refine funext fun _=>?_)
      exact HA n K m _ _ _
    rw [h1,h2];exact (QJ n m _ _ _ (Of K)).symm
theorem AH (n:Nat):dg tys (da Out (Un n)) (qm n) n (Ba [1,1,1,0,1,0,0] (aa Tryz.f162)) 0:=Wa (sp:=uq) (rp:=tq) (by kernel_rfl) fun K σ ρ=>HA n K n σ.1 σ.2.1 σ.2.2.1
theorem RJ (n:Nat):ra tys (da Out (Un n)) (qm n) n (aa Tryz.f162) 0:=⟨trivial,⟨⟨trivial,⟨⟨trivial,trivial⟩,trivial⟩⟩,⟨trivial,⟨⟨trivial,⟨AH n,⟨⟨trivial,⟨trivial,trivial⟩⟩,⟨⟨⟨trivial,⟨⟨trivial,trivial⟩,trivial⟩⟩,trivial⟩,trivial⟩⟩⟩⟩,⟨trivial,trivial⟩⟩⟩⟩⟩
theorem UL (n:Nat):Enters Tryz.prog 162:=enters_of (c:=aa Tryz.f162) Tryz.func162 (by kernel_rfl) (by kernel_rfl)
def XF (n:Nat):Entry:=⟨162,e8 (.pair .str .unit) (.many (.pair (.int .i64) (.pair .bool .unit))) (fun xs=>dw n xs.1),none,none⟩
theorem DN (n:Nat):EntryOk Tryz.prog gl (XF n):=Ca (UL n) fun xs y h=>la tys_ok (Kx n) mixed (hint:=qm n) (n:=n) Tryz.func162 (Va (RJ n)) (pa (φ:=(fun y=>some (Out.ret (me (.many (.pair (.int .i64) (.pair .bool .unit))) y)))) (by kernel_rfl) (mQ n xs.1 _) h)
def Vn (n:Nat):List Entry:=XF n::Un n
theorem Mx (n:Nat):AllOk Tryz.prog gl (Vn n):=.cons (DN n) (Kx n)
def vh (n:Nat) {R:Type} (l:(Sq BA)) (i:Int) (kn:(Sq BA)→Int→Option R) (ko:((Sq BA))→Option R) (kr:(Bool)→Option R) (kp:Int→Option R):Option R:=if (decide (i<(l.n:Int)))=true then if 0≤i∧i<(l.n:Int) then (dw n (l.at' (Int.toNat i))).bind fun v1=>if (!v1.2.1)=false then if (decide (v1.1>(255:Int)))=true then kr false else kn l (IntKind.wrap .i64 (i+(1:Int))) else kr false else none else ko l
def vc (n:Nat):Nat→(Sq BA)→Int→Option (Lx ((Sq BA)) (Bool))
 | 0,_,_=>none
 | m+1,l,i=>vh n l i (vc n m) (fun a=>some (.out a)) (fun a=>some (.ret a)) (fun p=>some (.pan p))
theorem aG (n m:Nat) {S:Type}:∀ l i (φ:_→Option S),(vc n (m+1) l i).bind φ=vh n l i (fun l i=>(vc n m l i).bind φ) (fun a=>φ (.out a)) (fun a=>φ (.ret a)) (fun p=>φ (.pan p)):=by
  intros;first | (simp only [vc,vh,ia,ba,iB,bB,oL,oX,nB,Option.bind_some]) | rfl
def vl:List Sl:=.top::.top::.top::.dat (.sl .str)::.dat (.int .i64)::tp 47 []
def ul:List RS:=[]
def Qw:List Sl:=.top::.top::.top::.dat (.sl .str)::tp 48 []
def Pw:List RS:=[]
def Sw:List Sl:=.top::.top::.dat .bool::tp 49 []
def Rw:List RS:=[]
def Vd (K:XE→List AV→ja→Option Out):Lx ((Sq BA)) (Bool)→Option Out:=fun x=>W7 x (fun a=>tj Qw Pw (a,()) () (K (.exit 0))) (fun a=>tj Sw Rw (a,()) () (K .ret)) (fun _=>none)
def pp (n:Nat) {R:Type} (s:BA) (k:Bool→Option R):Option R:=if (decide ((s.size:Int)<(2:Int)))=false then if 0≤(0:Int)∧(0:Int)<(s.size:Int) then if ((bt s (0:Int)) !=(91:Int))=false then if 0≤(IntKind.wrap .i64 ((s.size:Int) - (1:Int)))∧(IntKind.wrap .i64 ((s.size:Int) - (1:Int)))<(s.size:Int) then if ((bt s (IntKind.wrap .i64 ((s.size:Int) - (1:Int)))) !=(93:Int))=true then k false else if 0≤(IntKind.wrap .i64 ((s.size:Int) - (1:Int)))∧(IntKind.wrap .i64 ((s.size:Int) - (1:Int)))≤(s.size:Int) then if 0≤(1:Int)∧(1:Int)≤(IntKind.wrap .i64 ((s.size:Int) - (1:Int))) then (ss n (s.extract (Int.toNat (1:Int)) (Int.toNat (IntKind.wrap .i64 ((s.size:Int) - (1:Int))))) (46:Int)).bind fun v=>(vc n n v (0:Int)).bind fun x_1=>W7 x_1 (fun a_2=>k ((a_2.n:Int)==(4:Int))) (fun a_3=>k a_3) (fun _=>none) else none else none else none else k false else none else k false
def Pj (n:Nat) (s:BA):Option Bool:=pp n s some
theorem XL (n:Nat) {S:Type}:∀ s (φ:_→Option S),(Pj n s).bind φ=pp n s φ:=by
  intros;unfold Pj pp;first | (simp only [ia,ba,iB,bB,oL,oX,nB,Option.bind_some]) | rfl
def Pi (n:Nat):Hint Out:={ live:=fun c=>(cond (Nat.beq c 0) [(3,some (.sl .str)),(4,none)] []),run:=fun c=>(cond (Nat.beq c 0) (some (Ds vl ul fun σ ρ K=>(vc n n σ.1 σ.2.1).bind (Vd K))) none),xm:=fun c q=>(cond (Nat.beq c 0&&Nat.beq (q.getD 1000000) 0&&q.isSome) (some [(3,some (.sl .str))]) (cond (Nat.beq c 1&&q.isNone) (some [(2,none)]) none)) }
def Oi (n:Nat) (K:XE→List AV→ja→Option Out) (m:Nat) (l:(Sq BA)) (i:Int):Option Out:=Jg tys (da Out (Vn n)) (Pi n) n (Ba [1,1,1,0,1,0,0] (aa Tryz.f111)) 0 vl ul K m (l,(i,())) ()
theorem Ru (n:Nat) (K:XE→List AV→ja→Option Out):∀ (m:Nat) l i,Oi n K m l i=(vc n m l i).bind (Vd K)
  | 0,_,_=>by kernel_rfl
  | m+1,l,i=>by
    have h1:Oi n K (m+1) l i=vh n l i (Oi n K m) (fun a=>Vd K (.out a)) (fun a=>Vd K (.ret a)) (fun p=>Vd K (.pan p)):=by kernel_rfl
    have h2:Oi n K m=fun l i=>(vc n m l i).bind (Vd K):=by
      repeat (refine funext fun _=>?_)
      exact Ru n K m _ _
    rw [h1,h2];exact (aG n m _ _ (Vd K)).symm
theorem RD (n:Nat):dg tys (da Out (Vn n)) (Pi n) n (Ba [1,1,1,0,1,0,0] (aa Tryz.f111)) 0:=Wa (sp:=vl) (rp:=ul) (by kernel_rfl) fun K σ ρ=>Ru n K n σ.1 σ.2.1
theorem bG (n:Nat):ra tys (da Out (Vn n)) (Pi n) n (aa Tryz.f111) 0:=⟨trivial,⟨⟨trivial,⟨⟨trivial,trivial⟩,trivial⟩⟩,⟨trivial,⟨⟨trivial,⟨RD n,⟨⟨trivial,⟨trivial,trivial⟩⟩,⟨⟨trivial,⟨trivial,⟨⟨trivial,trivial⟩,trivial⟩⟩⟩,trivial⟩⟩⟩⟩,⟨trivial,trivial⟩⟩⟩⟩⟩
theorem EH (n:Nat):Enters Tryz.prog 111:=enters_of (c:=aa Tryz.f111) Tryz.func111 (by kernel_rfl) (by kernel_rfl)
def OA (n:Nat):Entry:=⟨111,e8 (.pair .str .unit) (.one .bool) (fun xs=>Pj n xs.1),none,none⟩
theorem TJ (n:Nat):EntryOk Tryz.prog gl (OA n):=Ca (EH n) fun xs y h=>la tys_ok (Mx n) mixed (hint:=Pi n) (n:=n) Tryz.func111 (Va (bG n)) (pa (φ:=(fun y=>some (Out.ret (me (.one .bool) y)))) (by kernel_rfl) (XL n xs.1 _) h)
def As (n:Nat):List Entry:=OA n::Vn n
theorem Ct (n:Nat):AllOk Tryz.prog gl (As n):=.cons (TJ n) (Mx n)
def fw (n:Nat) {R:Type} (c:Int) (k:Bool→Option R):Option R:=if (decide (c≥(48:Int)))=true then k (decide (c≤(57:Int))) else k false
def Bs (n:Nat) (c:Int):Option Bool:=fw n c some
theorem oQ (n:Nat) {S:Type}:∀ c (φ:_→Option S),(Bs n c).bind φ=fw n c φ:=by
  intros;unfold Bs fw;first | (simp only [ia,ba,iB,bB,oL,oX,nB,Option.bind_some]) | rfl
def PA (n:Nat):Hint Out:={ live:=fun c=>[],run:=fun c=>none,xm:=fun c q=>none }
theorem UJ (n:Nat):ra tys (da Out (As n)) (PA n) n (aa Tryz.f113) 0:=qa (fun _=>rfl) _ _ (by kernel_rfl)
theorem YL (n:Nat):Enters Tryz.prog 113:=enters_of (c:=aa Tryz.f113) Tryz.func113 (by kernel_rfl) (by kernel_rfl)
def cG (n:Nat):Entry:=⟨113,e8 (.pair (.int .u8) .unit) (.one .bool) (fun xs=>Bs n xs.1),none,none⟩
theorem GN (n:Nat):EntryOk Tryz.prog gl (cG n):=Ca (YL n) fun xs y h=>la tys_ok (Ct n) mixed (hint:=PA n) (n:=n) Tryz.func113 (Va (UJ n)) (pa (φ:=(fun y=>some (Out.ret (me (.one .bool) y)))) (by kernel_rfl) (oQ n xs.1 _) h)
def Zh (n:Nat):List Entry:=cG n::As n
theorem Px (n:Nat):AllOk Tryz.prog gl (Zh n):=.cons (GN n) (Ct n)
def mi (n:Nat) {R:Type} (l1:(Sq BA)) (i1:Int) (w:BA) (k0:Int) (kn:(Sq BA)→Int→BA→Int→Option R) (ko:((Sq BA)×Int)→Option R) (kr:(Bool)→Option R) (kp:Int→Option R):Option R:=if (decide (k0<(w.size:Int)))=true then if 0≤k0∧k0<(w.size:Int) then if (decide ((bt w k0)≥(97:Int)))=true then if 0≤k0∧k0<(w.size:Int) then if (!(decide ((bt w k0)≤(122:Int))))=true then if 0≤k0∧k0<(w.size:Int) then (Bs n (bt w k0)).bind fun v2=>if (!v2)=true then if 0≤k0∧k0<(w.size:Int) then if ((bt w k0) !=(45:Int))=true then kr false else kn l1 i1 w (IntKind.wrap .i64 (k0+(1:Int))) else none else kn l1 i1 w (IntKind.wrap .i64 (k0+(1:Int))) else none else kn l1 i1 w (IntKind.wrap .i64 (k0+(1:Int))) else none else if 0≤k0∧k0<(w.size:Int) then (Bs n (bt w k0)).bind fun v3=>if (!v3)=true then if 0≤k0∧k0<(w.size:Int) then if ((bt w k0) !=(45:Int))=true then kr false else kn l1 i1 w (IntKind.wrap .i64 (k0+(1:Int))) else none else kn l1 i1 w (IntKind.wrap .i64 (k0+(1:Int))) else none else none else ko (l1,i1)
def Yc (n:Nat):Nat→(Sq BA)→Int→BA→Int→Option (Lx ((Sq BA)×Int) (Bool))
 | 0,_,_,_,_=>none
 | m+1,l1,i1,w,k0=>mi n l1 i1 w k0 (Yc n m) (fun a=>some (.out a)) (fun a=>some (.ret a)) (fun p=>some (.pan p))
theorem CH (n m:Nat) {S:Type}:∀ l1 i1 w k0 (φ:_→Option S),(Yc n (m+1) l1 i1 w k0).bind φ=mi n l1 i1 w k0 (fun l1 i1 w k0=>(Yc n m l1 i1 w k0).bind φ) (fun a=>φ (.out a)) (fun a=>φ (.ret a)) (fun p=>φ (.pan p)):=by
  intros;first | (simp only [Yc,mi,ia,ba,iB,bB,oL,oX,nB,Option.bind_some]) | rfl
def Zn:List Sl:=.top::.top::.top::.dat (.sl .str)::.dat (.int .i64)::.dat .str::.dat (.int .i64)::tp 68 []
def Yn:List RS:=[]
def Ky:List Sl:=.top::.top::.top::.dat (.sl .str)::.dat (.int .i64)::tp 70 []
def Jy:List RS:=[]
def My:List Sl:=.top::.top::.dat .bool::tp 72 []
def Ly:List RS:=[]
def Ie (K:XE→List AV→ja→Option Out):Lx ((Sq BA)×Int) (Bool)→Option Out:=fun x=>W7 x (fun a=>tj Ky Jy (a.1,(a.2,())) () (K (.exit 2))) (fun a=>tj My Ly (a,()) () (K .ret)) (fun _=>none)
def li (n:Nat) {R:Type} (l:(Sq BA)) (i:Int) (kn:(Sq BA)→Int→Option R) (ko:(Unit)→Option R) (kr:(Bool)→Option R) (kp:Int→Option R):Option R:=if (decide (i<(l.n:Int)))=true then if 0≤i∧i<(l.n:Int) then if (decide (((l.at' (Int.toNat i)).size:Int)<(1:Int)))=false then if (decide (((l.at' (Int.toNat i)).size:Int)>(63:Int)))=false then if 0≤(0:Int)∧(0:Int)<((l.at' (Int.toNat i)).size:Int) then if ((bt (l.at' (Int.toNat i)) (0:Int))==(45:Int))=false then if 0≤(IntKind.wrap .i64 (((l.at' (Int.toNat i)).size:Int) - (1:Int)))∧(IntKind.wrap .i64 (((l.at' (Int.toNat i)).size:Int) - (1:Int)))<((l.at' (Int.toNat i)).size:Int) then if ((bt (l.at' (Int.toNat i)) (IntKind.wrap .i64 (((l.at' (Int.toNat i)).size:Int) - (1:Int))))==(45:Int))=true then kr false else (Yc n n l i (l.at' (Int.toNat i)) (0:Int)).bind fun x_1=>W7 x_1 (fun a_2=>kn a_2.1 (IntKind.wrap .i64 (a_2.2+(1:Int)))) (fun a_3=>kr a_3) (fun _=>none) else none else kr false else none else kr false else kr false else none else ko ()
def Xc (n:Nat):Nat→(Sq BA)→Int→Option (Lx (Unit) (Bool))
 | 0,_,_=>none
 | m+1,l,i=>li n l i (Xc n m) (fun a=>some (.out a)) (fun a=>some (.ret a)) (fun p=>some (.pan p))
theorem BH (n m:Nat) {S:Type}:∀ l i (φ:_→Option S),(Xc n (m+1) l i).bind φ=li n l i (fun l i=>(Xc n m l i).bind φ) (fun a=>φ (.out a)) (fun a=>φ (.ret a)) (fun p=>φ (.pan p)):=by
  intros;first | (simp only [Xc,li,ia,ba,iB,bB,oL,oX,nB,Option.bind_some]) | rfl
def Xn:List Sl:=.top::.top::.top::.dat (.sl .str)::.dat (.int .i64)::tp 70 []
def Wn:List RS:=[]
def Gy:List Sl:=tp 75 []
def Fy:List RS:=[]
def Iy:List Sl:=.top::.top::.dat .bool::tp 72 []
def Hy:List RS:=[]
def He (K:XE→List AV→ja→Option Out):Lx (Unit) (Bool)→Option Out:=fun x=>W7 x (fun a=>tj Gy Fy () () (K (.exit 0))) (fun a=>tj Iy Hy (a,()) () (K .ret)) (fun _=>none)
def ws (n:Nat) {R:Type} (s:BA) (k:Bool→Option R):Option R:=if (decide ((s.size:Int)>(255:Int)))=true then k false else (Pj n s).bind fun v=>if v=true then k true else (ss n s (46:Int)).bind fun v1=>(Xc n n v1 (0:Int)).bind fun x_1=>W7 x_1 (fun a_2=>k true) (fun a_3=>k a_3) (fun _=>none)
def qr (n:Nat) (s:BA):Option Bool:=ws n s some
theorem EN (n:Nat) {S:Type}:∀ s (φ:_→Option S),(qr n s).bind φ=ws n s φ:=by
  intros;unfold qr ws;first | (simp only [ia,ba,iB,bB,oL,oX,nB,Option.bind_some]) | rfl
def rg (n:Nat):Hint Out:={ live:=fun c=>(cond (Nat.beq c 0) [(3,some (.sl .str)),(4,none)] (cond (Nat.beq c 2) [(3,some (.sl .str)),(4,none),(5,none),(6,none)] [])),run:=fun c=>(cond (Nat.beq c 0) (some (Ds Xn Wn fun σ ρ K=>(Xc n n σ.1 σ.2.1).bind (He K))) (cond (Nat.beq c 2) (some (Ds Zn Yn fun σ ρ K=>(Yc n n σ.1 σ.2.1 σ.2.2.1 σ.2.2.2.1).bind (Ie K))) none)),xm:=fun c q=>(cond (Nat.beq c 0&&Nat.beq (q.getD 1000000) 0&&q.isSome) (some []) (cond (Nat.beq c 2&&Nat.beq (q.getD 1000000) 2&&q.isSome) (some [(3,some (.sl .str)),(4,none)]) (cond (Nat.beq c 3&&q.isNone) (some [(2,none)]) (cond (Nat.beq c 1&&q.isNone) (some [(2,none)]) none)))) }
def qk (n:Nat) (K:XE→List AV→ja→Option Out) (m:Nat) (l1:(Sq BA)) (i1:Int) (w:BA) (k0:Int):Option Out:=Jg tys (da Out (Zh n)) (rg n) n (Ba [1,1,1,1,0,1,0,0,1,0,0,1,1,1,0,0] (aa Tryz.f67)) 2 Zn Yn K m (l1,(i1,(w,(k0,())))) ()
theorem Ox (n:Nat) (K:XE→List AV→ja→Option Out):∀ (m:Nat) l1 i1 w k0,qk n K m l1 i1 w k0=(Yc n m l1 i1 w k0).bind (Ie K)
  | 0,_,_,_,_=>by kernel_rfl
  | m+1,l1,i1,w,k0=>by
    have h1:qk n K (m+1) l1 i1 w k0=mi n l1 i1 w k0 (qk n K m) (fun a=>Ie K (.out a)) (fun a=>Ie K (.ret a)) (fun p=>Ie K (.pan p)):=by kernel_rfl
    have h2:qk n K m=fun l1 i1 w k0=>(Yc n m l1 i1 w k0).bind (Ie K):=by
      repeat (refine funext fun _=>?_)
      exact Ox n K m _ _ _ _
    rw [h1,h2];exact (CH n m _ _ _ _ (Ie K)).symm
theorem ZF (n:Nat):dg tys (da Out (Zh n)) (rg n) n (Ba [1,1,1,1,0,1,0,0,1,0,0,1,1,1,0,0] (aa Tryz.f67)) 2:=Wa (sp:=Zn) (rp:=Yn) (by kernel_rfl) fun K σ ρ=>Ox n K n σ.1 σ.2.1 σ.2.2.1 σ.2.2.2.1
def nk (n:Nat) (K:XE→List AV→ja→Option Out) (m:Nat) (l:(Sq BA)) (i:Int):Option Out:=Jg tys (da Out (Zh n)) (rg n) n (Ba [1,1,1,1,0,1,0,0] (aa Tryz.f67)) 0 Xn Wn K m (l,(i,())) ()
theorem Nx (n:Nat) (K:XE→List AV→ja→Option Out):∀ (m:Nat) l i,nk n K m l i=(Xc n m l i).bind (He K)
  | 0,_,_=>by kernel_rfl
  | m+1,l,i=>by
    have h1:nk n K (m+1) l i=li n l i (nk n K m) (fun a=>He K (.out a)) (fun a=>He K (.ret a)) (fun p=>He K (.pan p)):=by kernel_rfl
    have h2:nk n K m=fun l i=>(Xc n m l i).bind (He K):=by
      repeat (refine funext fun _=>?_)
      exact Nx n K m _ _
    rw [h1,h2];exact (BH n m _ _ (He K)).symm
theorem YF (n:Nat):dg tys (da Out (Zh n)) (rg n) n (Ba [1,1,1,1,0,1,0,0] (aa Tryz.f67)) 0:=Wa (sp:=Xn) (rp:=Wn) (by kernel_rfl) fun K σ ρ=>Nx n K n σ.1 σ.2.1
theorem DH (n:Nat):ra tys (da Out (Zh n)) (rg n) n (aa Tryz.f67) 0:=⟨trivial,⟨⟨trivial,⟨⟨trivial,trivial⟩,trivial⟩⟩,⟨⟨trivial,⟨⟨trivial,trivial⟩,trivial⟩⟩,⟨trivial,⟨⟨trivial,⟨YF n,⟨⟨trivial,⟨trivial,trivial⟩⟩,⟨⟨trivial,⟨⟨trivial,⟨⟨trivial,trivial⟩,trivial⟩⟩,⟨trivial,⟨ZF n,⟨⟨trivial,⟨trivial,trivial⟩⟩,⟨⟨trivial,⟨⟨trivial,trivial⟩,trivial⟩⟩,trivial⟩⟩⟩⟩⟩⟩,trivial⟩⟩⟩⟩,⟨trivial,trivial⟩⟩⟩⟩⟩⟩
theorem SJ (n:Nat):Enters Tryz.prog 67:=enters_of (c:=aa Tryz.f67) Tryz.func67 (by kernel_rfl) (by kernel_rfl)
def iD (n:Nat):Entry:=⟨67,e8 (.pair .str .unit) (.one .bool) (fun xs=>qr n xs.1),none,none⟩
theorem VL (n:Nat):EntryOk Tryz.prog gl (iD n):=Ca (SJ n) fun xs y h=>la tys_ok (Px n) mixed (hint:=rg n) (n:=n) Tryz.func67 (Va (DH n)) (pa (φ:=(fun y=>some (Out.ret (me (.one .bool) y)))) (by kernel_rfl) (EN n xs.1 _) h)
def Pu (n:Nat):List Entry:=iD n::Zh n
theorem Qu (n:Nat):AllOk Tryz.prog gl (Pu n):=.cons (VL n) (Px n)
def MA (n:Nat) {R:Type} (s:BA) (k:Bool→Option R):Option R:=(qr n s).bind fun v=>if v=true then (Pj n s).bind fun v1=>k (!v1) else k false
def mC (n:Nat) (s:BA):Option Bool:=MA n s some
theorem sS (n:Nat) {S:Type}:∀ s (φ:_→Option S),(mC n s).bind φ=MA n s φ:=by
  intros;unfold mC MA;first | (simp only [ia,ba,iB,bB,oL,oX,nB,Option.bind_some]) | rfl
def jD (n:Nat):Hint Out:={ live:=fun c=>[],run:=fun c=>none,xm:=fun c q=>none }
theorem WL (n:Nat):ra tys (da Out (Pu n)) (jD n) n (aa Tryz.f81) 0:=qa (fun _=>rfl) _ _ (by kernel_rfl)
theorem FN (n:Nat):Enters Tryz.prog 81:=enters_of (c:=aa Tryz.f81) Tryz.func81 (by kernel_rfl) (by kernel_rfl)
def BI (n:Nat):Entry:=⟨81,e8 (.pair .str .unit) (.one .bool) (fun xs=>mC n xs.1),none,none⟩
theorem nQ (n:Nat):EntryOk Tryz.prog gl (BI n):=Ca (FN n) fun xs y h=>la tys_ok (Qu n) mixed (hint:=jD n) (n:=n) Tryz.func81 (Va (WL n)) (pa (φ:=(fun y=>some (Out.ret (me (.one .bool) y)))) (by kernel_rfl) (sS n xs.1 _) h)
def nC (n:Nat):List Entry:=BI n::Pu n
theorem NA (n:Nat):AllOk Tryz.prog gl (nC n):=.cons (nQ n) (Qu n)
def yE (n:Nat) {R:Type} (n0 most:Int) (k:Bool→Option R):Option R:=if (decide (n0≥(0:Int)))=true then k (decide (n0≤most)) else k false
def np (n:Nat) (n0 most:Int):Option Bool:=yE n n0 most some
theorem OT (n:Nat) {S:Type}:∀ n0 most (φ:_→Option S),(np n n0 most).bind φ=yE n n0 most φ:=by
  intros;unfold np yE;first | (simp only [ia,ba,iB,bB,oL,oX,nB,Option.bind_some]) | rfl
def VF (n:Nat):Hint Out:={ live:=fun c=>[],run:=fun c=>none,xm:=fun c q=>none }
theorem BN (n:Nat):ra tys (da Out (nC n)) (VF n) n (aa Tryz.f22) 0:=qa (fun _=>rfl) _ _ (by kernel_rfl)
theorem kQ (n:Nat):Enters Tryz.prog 22:=enters_of (c:=aa Tryz.f22) Tryz.func22 (by kernel_rfl) (by kernel_rfl)
def SL (n:Nat):Entry:=⟨22,e8 (.pair (.int .i64) (.pair (.int .i64) .unit)) (.one .bool) (fun xs=>np n xs.1 xs.2.1),none,none⟩
theorem rS (n:Nat):EntryOk Tryz.prog gl (SL n):=Ca (kQ n) fun xs y h=>la tys_ok (NA n) mixed (hint:=VF n) (n:=n) Tryz.func22 (Va (BN n)) (pa (φ:=(fun y=>some (Out.ret (me (.one .bool) y)))) (by kernel_rfl) (OT n xs.1 xs.2.1 _) h)
def Ou (n:Nat):List Entry:=SL n::nC n
theorem gD (n:Nat):AllOk Tryz.prog gl (Ou n):=.cons (rS n) (NA n)
def Jc (n:Nat) {R:Type} (l1:(Sq Int)) (i:Int) (kn:(Sq Int)→Int→Option R) (ko:(Unit)→Option R) (kr:(Bool)→Option R) (kp:Int→Option R):Option R:=if (decide (i<(l1.n:Int)))=true then if 0≤i∧i<(l1.n:Int) then if (decide ((l1.at' (Int.toNat i))<(1:Int)))=false then if 0≤i∧i<(l1.n:Int) then if (decide ((l1.at' (Int.toNat i))>(1099511627776:Int)))=true then kr false else kn l1 (IntKind.wrap .i64 (i+(1:Int))) else none else kr false else none else ko ()
def Ma (n:Nat):Nat→(Sq Int)→Int→Option (Lx (Unit) (Bool))
 | 0,_,_=>none
 | m+1,l1,i=>Jc n l1 i (Ma n m) (fun a=>some (.out a)) (fun a=>some (.ret a)) (fun p=>some (.pan p))
theorem Qt (n m:Nat) {S:Type}:∀ l1 i (φ:_→Option S),(Ma n (m+1) l1 i).bind φ=Jc n l1 i (fun l1 i=>(Ma n m l1 i).bind φ) (fun a=>φ (.out a)) (fun a=>φ (.ret a)) (fun p=>φ (.pan p)):=by
  intros;first | (simp only [Ma,Jc,ia,ba,iB,bB,oL,oX,nB,Option.bind_some]) | rfl
def Mf:List Sl:=.dat (.sl (.int .i64))::.top::.top::.dat (.int .i64)::tp 26 []
def Lf:List RS:=[]
def Qn:List Sl:=tp 30 []
def Pn:List RS:=[]
def Sn:List Sl:=.top::.top::.dat .bool::tp 27 []
def Rn:List RS:=[]
def Gb (K:XE→List AV→ja→Option Out):Lx (Unit) (Bool)→Option Out:=fun x=>W7 x (fun a=>tj Qn Pn () () (K (.exit 0))) (fun a=>tj Sn Rn (a,()) () (K .ret)) (fun _=>none)
def Kf (n:Nat) {R:Type} (l:(Sq Int)) (k:Bool→Option R):Option R:=if (decide ((l.n:Int)<(1:Int)))=false then if (decide ((l.n:Int)>(16:Int)))=true then k false else (Ma n n l (0:Int)).bind fun x_1=>W7 x_1 (fun a_2=>k true) (fun a_3=>k a_3) (fun _=>none) else k false
def Ld (n:Nat) (l:(Sq Int)):Option Bool:=Kf n l some
theorem Cy (n:Nat) {S:Type}:∀ l (φ:_→Option S),(Ld n l).bind φ=Kf n l φ:=by
  intros;unfold Ld Kf;first | (simp only [ia,ba,iB,bB,oL,oX,nB,Option.bind_some]) | rfl
def be (n:Nat):Hint Out:={ live:=fun c=>(cond (Nat.beq c 0) [(0,some (.sl (.int .i64))),(3,none)] []),run:=fun c=>(cond (Nat.beq c 0) (some (Ds Mf Lf fun σ ρ K=>(Ma n n σ.1 σ.2.1).bind (Gb K))) none),xm:=fun c q=>(cond (Nat.beq c 0&&Nat.beq (q.getD 1000000) 0&&q.isSome) (some []) (cond (Nat.beq c 1&&q.isNone) (some [(2,none)]) none)) }
def ae (n:Nat) (K:XE→List AV→ja→Option Out) (m:Nat) (l1:(Sq Int)) (i:Int):Option Out:=Jg tys (da Out (Ou n)) (be n) n (Ba [1,1,0,1,0,0] (aa Tryz.f82)) 0 Mf Lf K m (l1,(i,())) ()
theorem yj (n:Nat) (K:XE→List AV→ja→Option Out):∀ (m:Nat) l1 i,ae n K m l1 i=(Ma n m l1 i).bind (Gb K)
  | 0,_,_=>by kernel_rfl
  | m+1,l1,i=>by
    have h1:ae n K (m+1) l1 i=Jc n l1 i (ae n K m) (fun a=>Gb K (.out a)) (fun a=>Gb K (.ret a)) (fun p=>Gb K (.pan p)):=by kernel_rfl
    have h2:ae n K m=fun l1 i=>(Ma n m l1 i).bind (Gb K):=by
      repeat (refine funext fun _=>?_)
      exact yj n K m _ _
    rw [h1,h2];exact (Qt n m _ _ (Gb K)).symm
theorem ks (n:Nat):dg tys (da Out (Ou n)) (be n) n (Ba [1,1,0,1,0,0] (aa Tryz.f82)) 0:=Wa (sp:=Mf) (rp:=Lf) (by kernel_rfl) fun K σ ρ=>yj n K n σ.1 σ.2.1
theorem Rt (n:Nat):ra tys (da Out (Ou n)) (be n) n (aa Tryz.f82) 0:=⟨trivial,⟨⟨trivial,⟨⟨trivial,trivial⟩,trivial⟩⟩,⟨⟨trivial,⟨ks n,⟨⟨trivial,⟨trivial,trivial⟩⟩,⟨⟨trivial,⟨⟨trivial,trivial⟩,trivial⟩⟩,trivial⟩⟩⟩⟩,⟨trivial,trivial⟩⟩⟩⟩
theorem Mu (n:Nat):Enters Tryz.prog 82:=enters_of (c:=aa Tryz.f82) Tryz.func82 (by kernel_rfl) (by kernel_rfl)
def Dl (n:Nat):Entry:=⟨82,e8 (.pair (.sl (.int .i64)) .unit) (.one .bool) (fun xs=>Ld n xs.1),none,none⟩
theorem Nw (n:Nat):EntryOk Tryz.prog gl (Dl n):=Ca (Mu n) fun xs y h=>la tys_ok (gD n) mixed (hint:=be n) (n:=n) Tryz.func82 (Va (Rt n)) (pa (φ:=(fun y=>some (Out.ret (me (.one .bool) y)))) (by kernel_rfl) (Cy n xs.1 _) h)
def ud (n:Nat):List Entry:=Dl n::Ou n
theorem Ni (n:Nat):AllOk Tryz.prog gl (ud n):=.cons (Nw n) (gD n)
def nd (n:Nat) {R:Type} (s1:BA) (i:Int) (kn:BA→Int→Option R) (ko:(BA)→Option R) (kr:(Bool)→Option R) (kp:Int→Option R):Option R:=if (decide (i<(s1.size:Int)))=true then if 0≤i∧i<(s1.size:Int) then if (decide ((bt s1 i)<(97:Int)))=false then if 0≤i∧i<(s1.size:Int) then if (decide ((bt s1 i)>(122:Int)))=true then kr false else kn s1 (IntKind.wrap .i64 (i+(1:Int))) else none else kr false else none else ko s1
def Xa (n:Nat):Nat→BA→Int→Option (Lx (BA) (Bool))
 | 0,_,_=>none
 | m+1,s1,i=>nd n s1 i (Xa n m) (fun a=>some (.out a)) (fun a=>some (.ret a)) (fun p=>some (.pan p))
theorem Lw (n m:Nat) {S:Type}:∀ s1 i (φ:_→Option S),(Xa n (m+1) s1 i).bind φ=nd n s1 i (fun s1 i=>(Xa n m s1 i).bind φ) (fun a=>φ (.out a)) (fun a=>φ (.ret a)) (fun p=>φ (.pan p)):=by
  intros;first | (simp only [Xa,nd,ia,ba,iB,bB,oL,oX,nB,Option.bind_some]) | rfl
def Wg:List Sl:=.dat .str::.top::.top::.dat (.int .i64)::tp 24 []
def Vg:List RS:=[]
def oq:List Sl:=.dat .str::tp 27 []
def nq:List RS:=[]
def qq:List Sl:=.top::.top::.dat .bool::tp 25 []
def pq:List RS:=[]
def Qb (K:XE→List AV→ja→Option Out):Lx (BA) (Bool)→Option Out:=fun x=>W7 x (fun a=>tj oq nq (a,()) () (K (.exit 0))) (fun a=>tj qq pq (a,()) () (K .ret)) (fun _=>none)
def uh (n:Nat) {R:Type} (s:BA) (k:Bool→Option R):Option R:=(Xa n n s (0:Int)).bind fun x_1=>W7 x_1 (fun a_2=>if (decide ((a_2.size:Int)≥(1:Int)))=true then k (decide ((a_2.size:Int)≤(32:Int))) else k false) (fun a_3=>k a_3) (fun _=>none)
def Ye (n:Nat) (s:BA):Option Bool:=uh n s some
theorem lC (n:Nat) {S:Type}:∀ s (φ:_→Option S),(Ye n s).bind φ=uh n s φ:=by
  intros;unfold Ye uh;first | (simp only [ia,ba,iB,bB,oL,oX,nB,Option.bind_some]) | rfl
def Qe (n:Nat):Hint Out:={ live:=fun c=>(cond (Nat.beq c 0) [(0,none),(3,none)] []),run:=fun c=>(cond (Nat.beq c 0) (some (Ds Wg Vg fun σ ρ K=>(Xa n n σ.1 σ.2.1).bind (Qb K))) none),xm:=fun c q=>(cond (Nat.beq c 0&&Nat.beq (q.getD 1000000) 0&&q.isSome) (some [(0,none)]) (cond (Nat.beq c 1&&q.isNone) (some [(2,none)]) none)) }
def Pe (n:Nat) (K:XE→List AV→ja→Option Out) (m:Nat) (s1:BA) (i:Int):Option Out:=Jg tys (da Out (ud n)) (Qe n) n (Ba [1,0,1,0,0] (aa Tryz.f83)) 0 Wg Vg K m (s1,(i,())) ()
theorem Cl (n:Nat) (K:XE→List AV→ja→Option Out):∀ (m:Nat) s1 i,Pe n K m s1 i=(Xa n m s1 i).bind (Qb K)
  | 0,_,_=>by kernel_rfl
  | m+1,s1,i=>by
    have h1:Pe n K (m+1) s1 i=nd n s1 i (Pe n K m) (fun a=>Qb K (.out a)) (fun a=>Qb K (.ret a)) (fun p=>Qb K (.pan p)):=by kernel_rfl
    have h2:Pe n K m=fun s1 i=>(Xa n m s1 i).bind (Qb K):=by
      repeat (refine funext fun _=>?_)
      exact Cl n K m _ _
    rw [h1,h2];exact (Lw n m _ _ (Qb K)).symm
theorem Lu (n:Nat):dg tys (da Out (ud n)) (Qe n) n (Ba [1,0,1,0,0] (aa Tryz.f83)) 0:=Wa (sp:=Wg) (rp:=Vg) (by kernel_rfl) fun K σ ρ=>Cl n K n σ.1 σ.2.1
theorem Mw (n:Nat):ra tys (da Out (ud n)) (Qe n) n (aa Tryz.f83) 0:=⟨trivial,⟨⟨trivial,⟨Lu n,⟨⟨trivial,⟨trivial,trivial⟩⟩,⟨⟨trivial,⟨⟨trivial,trivial⟩,trivial⟩⟩,trivial⟩⟩⟩⟩,⟨trivial,trivial⟩⟩⟩
theorem By (n:Nat):Enters Tryz.prog 83:=enters_of (c:=aa Tryz.f83) Tryz.func83 (by kernel_rfl) (by kernel_rfl)
def lp (n:Nat):Entry:=⟨83,e8 (.pair .str .unit) (.one .bool) (fun xs=>Ye n xs.1),none,none⟩
theorem AA (n:Nat):EntryOk Tryz.prog gl (lp n):=Ca (By n) fun xs y h=>la tys_ok (Ni n) mixed (hint:=Qe n) (n:=n) Tryz.func83 (Va (Mw n)) (pa (φ:=(fun y=>some (Out.ret (me (.one .bool) y)))) (by kernel_rfl) (lC n xs.1 _) h)
def Mi (n:Nat):List Entry:=lp n::ud n
theorem Mk (n:Nat):AllOk Tryz.prog gl (Mi n):=.cons (AA n) (Ni n)
def Bg (n:Nat) {R:Type} (b:(Int×U3)) (k:Bool→Option R):Option R:=(np n b.2.1 (1048576:Int)).bind fun v=>if v=true then (np n b.2.2.1 (1048576:Int)).bind fun v1=>if v1=true then (np n b.1 b.2.1).bind fun v2=>if v2=true then if (decide (b.2.2.2.1≥(1:Int)))=true then if (decide (b.2.2.2.1≤(1048576:Int)))=true then (np n b.2.2.2.2.1 (IntKind.wrap .i64 (b.2.2.2.1 - (1:Int)))).bind fun v3=>k v3 else k false else k false else k false else k false else k false
def qe (n:Nat) (b:(Int×U3)):Option Bool:=Bg n b some
theorem CA (n:Nat) {S:Type}:∀ b (φ:_→Option S),(qe n b).bind φ=Bg n b φ:=by
  intros;unfold qe Bg;first | (simp only [ia,ba,iB,bB,oL,oX,nB,Option.bind_some]) | rfl
def Nk (n:Nat):Hint Out:={ live:=fun c=>[],run:=fun c=>none,xm:=fun c q=>none }
theorem Nu (n:Nat):ra tys (da Out (Mi n)) (Nk n) n (aa Tryz.f84) 0:=qa (fun _=>rfl) _ _ (by kernel_rfl)
theorem Ow (n:Nat):Enters Tryz.prog 84:=enters_of (c:=aa Tryz.f84) Tryz.func84 (by kernel_rfl) (by kernel_rfl)
def Tn (n:Nat):Entry:=⟨84,e8 m6 (.one .bool) (fun xs=>qe n xs.1),none,none⟩
theorem Dy (n:Nat):EntryOk Tryz.prog gl (Tn n):=Ca (Ow n) fun xs y h=>la tys_ok (Mk n) mixed (hint:=Nk n) (n:=n) Tryz.func84 (Va (Nu n)) (pa (φ:=(fun y=>some (Out.ret (me (.one .bool) y)))) (by kernel_rfl) (CA n xs.1 _) h)
def pb (n:Nat):List Entry:=Tn n::Mi n
theorem zj (n:Nat):AllOk Tryz.prog gl (pb n):=.cons (Dy n) (Mk n)
def Gc (n:Nat) {R:Type} (i:Int) (c1:(Sq T2)) (c2:BA) (c3 c4:Int) (c5:(Sq Int)) (c6 c7:Int) (c8:Nat) (kn:Int→(Sq T2)→BA→Int→Int→(Sq Int)→Int→Int→Nat→Option R) (ko:((Sq T2)×BA×Int×Int×(Sq Int)×Int×Int×Nat)→Option R) (kr:(Bool)→Option R) (kp:Int→Option R):Option R:=if (decide (i<(c5.n:Int)))=true then if 0≤i∧i<(c5.n:Int) then if (decide ((c5.at' (Int.toNat i))>(1073741824:Int)))=true then kr false else kn (IntKind.wrap .i64 (i+(1:Int))) c1 c2 c3 c4 c5 c6 c7 c8 else none else ko (c1,c2,c3,c4,c5,c6,c7,c8)
def Ja (n:Nat):Nat→Int→(Sq T2)→BA→Int→Int→(Sq Int)→Int→Int→Nat→Option (Lx ((Sq T2)×BA×Int×Int×(Sq Int)×Int×Int×Nat) (Bool))
 | 0,_,_,_,_,_,_,_,_,_=>none
 | m+1,i,c1,c2,c3,c4,c5,c6,c7,c8=>Gc n i c1 c2 c3 c4 c5 c6 c7 c8 (Ja n m) (fun a=>some (.out a)) (fun a=>some (.ret a)) (fun p=>some (.pan p))
theorem Mt (n m:Nat) {S:Type}:∀ i c1 c2 c3 c4 c5 c6 c7 c8 (φ:_→Option S),(Ja n (m+1) i c1 c2 c3 c4 c5 c6 c7 c8).bind φ=Gc n i c1 c2 c3 c4 c5 c6 c7 c8 (fun i c1 c2 c3 c4 c5 c6 c7 c8=>(Ja n m i c1 c2 c3 c4 c5 c6 c7 c8).bind φ) (fun a=>φ (.out a)) (fun a=>φ (.ret a)) (fun p=>φ (.pan p)):=by
  intros;first | (simp only [Ja,Gc,ia,ba,iB,bB,oL,oX,nB,Option.bind_some]) | rfl
def Ff:List Sl:=.top::.ptr 0 0 0::.top::.dat (.int .i64)::tp 149 []
def Ef:List RS:=[.box 29 8 true [.dat (.sl K6),.dat .str,.dat (.int .i64),.dat (.int .i64),.dat (.sl (.int .i64)),.dat (.int .i64),.dat (.int .i64),.dat (.flt .f64)]]
def En:List Sl:=.top::.ptr 0 0 0::tp 151 []
def Dn:List RS:=[.box 29 8 true [.dat (.sl K6),.dat .str,.dat (.int .i64),.dat (.int .i64),.dat (.sl (.int .i64)),.dat (.int .i64),.dat (.int .i64),.dat (.flt .f64)]]
def Gn:List Sl:=.top::.top::.dat .bool::tp 150 []
def Fn:List RS:=[]
def Db (K:XE→List AV→ja→Option Out):Lx ((Sq T2)×BA×Int×Int×(Sq Int)×Int×Int×Nat) (Bool)→Option Out:=fun x=>W7 x (fun a=>tj En Dn () ((a.1,(a.2.1,(a.2.2.1,(a.2.2.2.1,(a.2.2.2.2.1,(a.2.2.2.2.2.1,(a.2.2.2.2.2.2.1,(a.2.2.2.2.2.2.2,())))))))),()) (K (.exit 0))) (fun a=>tj Gn Fn (a,()) () (K .ret)) (fun _=>none)
def Ic (n:Nat) {R:Type} (i2 k0:Int) (c25:(Sq T2)) (c26:BA) (c27 c28:Int) (c29:(Sq Int)) (c30 c31:Int) (c32:Nat) (t:BA) (t1 t2 t3 t4 t5 t6 t7 t8:Int) (t9:Bool) (kn:Int→Int→(Sq T2)→BA→Int→Int→(Sq Int)→Int→Int→Nat→BA→Int→Int→Int→Int→Int→Int→Int→Int→Bool→Option R) (ko:(Int×(Sq T2)×BA×Int×Int×(Sq Int)×Int×Int×Nat)→Option R) (kr:(Bool)→Option R) (kp:Int→Option R):Option R:=if (decide (k0<i2))=true then if 0≤k0∧k0<(c25.n:Int) then if ((((c25.at' (Int.toNat k0))).1).toList==t.toList)=true then kr false else kn i2 (IntKind.wrap .i64 (k0+(1:Int))) c25 c26 c27 c28 c29 c30 c31 c32 t t1 t2 t3 t4 t5 t6 t7 t8 t9 else none else ko (i2,c25,c26,c27,c28,c29,c30,c31,c32)
def La (n:Nat):Nat→Int→Int→(Sq T2)→BA→Int→Int→(Sq Int)→Int→Int→Nat→BA→Int→Int→Int→Int→Int→Int→Int→Int→Bool→Option (Lx (Int×(Sq T2)×BA×Int×Int×(Sq Int)×Int×Int×Nat) (Bool))
 | 0,_,_,_,_,_,_,_,_,_,_,_,_,_,_,_,_,_,_,_,_=>none
 | m+1,i2,k0,c25,c26,c27,c28,c29,c30,c31,c32,t,t1,t2,t3,t4,t5,t6,t7,t8,t9=>Ic n i2 k0 c25 c26 c27 c28 c29 c30 c31 c32 t t1 t2 t3 t4 t5 t6 t7 t8 t9 (La n m) (fun a=>some (.out a)) (fun a=>some (.ret a)) (fun p=>some (.pan p))
theorem Ot (n m:Nat) {S:Type}:∀ i2 k0 c25 c26 c27 c28 c29 c30 c31 c32 t t1 t2 t3 t4 t5 t6 t7 t8 t9 (φ:_→Option S),(La n (m+1) i2 k0 c25 c26 c27 c28 c29 c30 c31 c32 t t1 t2 t3 t4 t5 t6 t7 t8 t9).bind φ=Ic n i2 k0 c25 c26 c27 c28 c29 c30 c31 c32 t t1 t2 t3 t4 t5 t6 t7 t8 t9 (fun i2 k0 c25 c26 c27 c28 c29 c30 c31 c32 t t1 t2 t3 t4 t5 t6 t7 t8 t9=>(La n m i2 k0 c25 c26 c27 c28 c29 c30 c31 c32 t t1 t2 t3 t4 t5 t6 t7 t8 t9).bind φ) (fun a=>φ (.out a)) (fun a=>φ (.ret a)) (fun p=>φ (.pan p)):=by
  intros;first | (simp only [La,Ic,ia,ba,iB,bB,oL,oX,nB,Option.bind_some]) | rfl
def Jf:List Sl:=.top::.ptr 0 0 0::.top::.top::.dat (.int .i64)::.ptr 1 0 0::.dat (.int .i64)::tp 146 []
def If:List RS:=[.box 29 8 true [.dat (.sl K6),.dat .str,.dat (.int .i64),.dat (.int .i64),.dat (.sl (.int .i64)),.dat (.int .i64),.dat (.int .i64),.dat (.flt .f64)],.box 89 10 true [.dat .str,.dat (.int .i64),.dat (.int .i64),.dat (.int .i64),.dat (.int .i64),.dat (.int .i64),.dat (.int .i64),.dat (.int .i64),.dat (.int .i64),.dat .bool]]
def Mn:List Sl:=.top::.ptr 0 0 0::.top::.top::.dat (.int .i64)::tp 148 []
def Ln:List RS:=[.box 29 8 true [.dat (.sl K6),.dat .str,.dat (.int .i64),.dat (.int .i64),.dat (.sl (.int .i64)),.dat (.int .i64),.dat (.int .i64),.dat (.flt .f64)]]
def On:List Sl:=.top::.top::.dat .bool::tp 150 []
def Nn:List RS:=[]
def Fb (K:XE→List AV→ja→Option Out):Lx (Int×(Sq T2)×BA×Int×Int×(Sq Int)×Int×Int×Nat) (Bool)→Option Out:=fun x=>W7 x (fun a=>tj Mn Ln (a.1,()) ((a.2.1,(a.2.2.1,(a.2.2.2.1,(a.2.2.2.2.1,(a.2.2.2.2.2.1,(a.2.2.2.2.2.2.1,(a.2.2.2.2.2.2.2.1,(a.2.2.2.2.2.2.2.2,())))))))),()) (K (.exit 4))) (fun a=>tj On Nn (a,()) () (K .ret)) (fun _=>none)
def Hc (n:Nat) {R:Type} (i1:Int) (c17:(Sq T2)) (c18:BA) (c19 c20:Int) (c21:(Sq Int)) (c22 c23:Int) (c24:Nat) (kn:Int→(Sq T2)→BA→Int→Int→(Sq Int)→Int→Int→Nat→Option R) (ko:(Unit)→Option R) (kr:(Bool)→Option R) (kp:Int→Option R):Option R:=if (decide (i1<(c17.n:Int)))=true then if 0≤i1∧i1<(c17.n:Int) then (Ye n (((c17.at' (Int.toNat i1))).1)).bind fun v4=>if (!v4)=false then (np n ((((c17.at' (Int.toNat i1))).2).1) (1073741824:Int)).bind fun v5=>if (!v5)=false then (np n (((((c17.at' (Int.toNat i1))).2).2).1) (64:Int)).bind fun v6=>if (!v6)=false then if (decide (((((((c17.at' (Int.toNat i1))).2).2).2).1)<(1:Int)))=false then if (decide (((((((c17.at' (Int.toNat i1))).2).2).2).1)>(16384:Int)))=false then (qe n ((((((((c17.at' (Int.toNat i1))).2).2).2).2).1).1,(((((((((c17.at' (Int.toNat i1))).2).2).2).2).1).2).1,((((((((((c17.at' (Int.toNat i1))).2).2).2).2).1).2).2).1,(((((((((((c17.at' (Int.toNat i1))).2).2).2).2).1).2).2).2).1,((((((((((((c17.at' (Int.toNat i1))).2).2).2).2).1).2).2).2).2).1,())))))).bind fun v7=>if (!v7)=false then if (((((((((c17.at' (Int.toNat i1))).2).2).2).2).1).1) !=(((((((((c17.at' (Int.toNat i1))).2).2).2).2).1).2).1))=false then if (((((((((((((c17.at' (Int.toNat i1))).2).2).2).2).1).2).2).2).2).1) !=(0:Int))=true then kr false else (La n n i1 (0:Int) c17 c18 c19 c20 c21 c22 c23 c24 (((c17.at' (Int.toNat i1))).1) ((((c17.at' (Int.toNat i1))).2).1) (((((c17.at' (Int.toNat i1))).2).2).1) ((((((c17.at' (Int.toNat i1))).2).2).2).1) ((((((((c17.at' (Int.toNat i1))).2).2).2).2).1).1) (((((((((c17.at' (Int.toNat i1))).2).2).2).2).1).2).1) ((((((((((c17.at' (Int.toNat i1))).2).2).2).2).1).2).2).1) (((((((((((c17.at' (Int.toNat i1))).2).2).2).2).1).2).2).2).1) ((((((((((((c17.at' (Int.toNat i1))).2).2).2).2).1).2).2).2).2).1) ((((((((c17.at' (Int.toNat i1))).2).2).2).2).2).1)).bind fun x_1=>W7 x_1
 (fun a_2=>kn (IntKind.wrap .i64 (a_2.1+(1:Int))) a_2.2.1 a_2.2.2.1 a_2.2.2.2.1 a_2.2.2.2.2.1 a_2.2.2.2.2.2.1 a_2.2.2.2.2.2.2.1 a_2.2.2.2.2.2.2.2.1 a_2.2.2.2.2.2.2.2.2) (fun a_3=>kr a_3) (fun _=>none) else kr false else kr false else kr false else kr false else kr false else kr false else kr false else none else ko ()
def Ka (n:Nat):Nat→Int→(Sq T2)→BA→Int→Int→(Sq Int)→Int→Int→Nat→Option (Lx (Unit) (Bool))
 | 0,_,_,_,_,_,_,_,_,_=>none
 | m+1,i1,c17,c18,c19,c20,c21,c22,c23,c24=>Hc n i1 c17 c18 c19 c20 c21 c22 c23 c24 (Ka n m) (fun a=>some (.out a)) (fun a=>some (.ret a)) (fun p=>some (.pan p))
theorem Nt (n m:Nat) {S:Type}:∀ i1 c17 c18 c19 c20 c21 c22 c23 c24 (φ:_→Option S),(Ka n (m+1) i1 c17 c18 c19 c20 c21 c22 c23 c24).bind φ=Hc n i1 c17 c18 c19 c20 c21 c22 c23 c24 (fun i1 c17 c18 c19 c20 c21 c22 c23 c24=>(Ka n m i1 c17 c18 c19 c20 c21 c22 c23 c24).bind φ) (fun a=>φ (.out a)) (fun a=>φ (.ret a)) (fun p=>φ (.pan p)):=by
  intros;first | (simp only [Ka,Hc,ia,ba,iB,bB,oL,oX,nB,Option.bind_some]) | rfl
def Hf:List Sl:=.top::.ptr 0 0 0::.top::.top::.dat (.int .i64)::tp 148 []
def Gf:List RS:=[.box 29 8 true [.dat (.sl K6),.dat .str,.dat (.int .i64),.dat (.int .i64),.dat (.sl (.int .i64)),.dat (.int .i64),.dat (.int .i64),.dat (.flt .f64)]]
def In:List Sl:=tp 153 []
def Hn:List RS:=[]
def Kn:List Sl:=.top::.top::.dat .bool::tp 150 []
def Jn:List RS:=[]
def Eb (K:XE→List AV→ja→Option Out):Lx (Unit) (Bool)→Option Out:=fun x=>W7 x (fun a=>tj In Hn () () (K (.exit 2))) (fun a=>tj Kn Jn (a,()) () (K .ret)) (fun _=>none)
def Df (n:Nat) {R:Type} (c:T3) (k:Bool→Option R):Option R:=if (decide ((c.1.n:Int)<(1:Int)))=false then if (decide ((c.1.n:Int)>(4:Int)))=false then if (decide ((c.2.1.size:Int)>(200:Int)))=false then (mC n c.2.1).bind fun v=>if (!v)=false then (np n c.2.2.1 (1099511627776:Int)).bind fun v1=>if (!v1)=false then if (decide (c.2.2.2.1<(1:Int)))=false then if (decide (c.2.2.2.1>(1099511627776:Int)))=false then (Ld n c.2.2.2.2.1).bind fun v2=>if (!v2)=false then if (decide (c.2.2.2.2.2.1<(1:Int)))=false then if (decide (c.2.2.2.2.2.1>(1048576:Int)))=false then (np n c.2.2.2.2.2.2.1 (1073741824:Int)).bind fun v3=>if (!v3)=true then k false else (Ja n n (0:Int) c.1 c.2.1 c.2.2.1 c.2.2.2.1 c.2.2.2.2.1 c.2.2.2.2.2.1 c.2.2.2.2.2.2.1 c.2.2.2.2.2.2.2.1).bind fun x_1=>W7 x_1 (fun a_2=>(Ka n n (0:Int) a_2.1 a_2.2.1 a_2.2.2.1 a_2.2.2.2.1 a_2.2.2.2.2.1 a_2.2.2.2.2.2.1 a_2.2.2.2.2.2.2.1 a_2.2.2.2.2.2.2.2).bind fun x_3=>W7 x_3 (fun a_4=>k true) (fun a_5=>k a_5) (fun _=>none)) (fun a_6=>k a_6) (fun _=>none) else k false else k false else k false else k false else k false else k false else k false else k false else k false else k false
def Kd (n:Nat) (c:T3):Option Bool:=Df n c some
theorem Ay (n:Nat) {S:Type}:∀ c (φ:_→Option S),(Kd n c).bind φ=Df n c φ:=by
  intros;unfold Kd Df;first | (simp only [ia,ba,iB,bB,oL,oX,nB,Option.bind_some]) | rfl
def ib (n:Nat):Hint Out:={ live:=fun c=>(cond (Nat.beq c 2) [(1,none),(4,none)] (cond (Nat.beq c 4) (lv [1,4,5,6]) (cond (Nat.beq c 0) [(1,none),(3,none)] []))),run:=fun c=>(cond (Nat.beq c 2) (some (Ds Hf Gf fun σ ρ K=>(Ka n n σ.1 ρ.1.1 ρ.1.2.1 ρ.1.2.2.1 ρ.1.2.2.2.1 ρ.1.2.2.2.2.1 ρ.1.2.2.2.2.2.1 ρ.1.2.2.2.2.2.2.1 ρ.1.2.2.2.2.2.2.2.1).bind (Eb K))) (cond (Nat.beq c 4) (some (Ds Jf If fun σ ρ K=>(La n n σ.1 σ.2.1 ρ.1.1 ρ.1.2.1 ρ.1.2.2.1 ρ.1.2.2.2.1 ρ.1.2.2.2.2.1 ρ.1.2.2.2.2.2.1 ρ.1.2.2.2.2.2.2.1 ρ.1.2.2.2.2.2.2.2.1 ρ.2.1.1 ρ.2.1.2.1 ρ.2.1.2.2.1 ρ.2.1.2.2.2.1 ρ.2.1.2.2.2.2.1 ρ.2.1.2.2.2.2.2.1 ρ.2.1.2.2.2.2.2.2.1 ρ.2.1.2.2.2.2.2.2.2.1 ρ.2.1.2.2.2.2.2.2.2.2.1 ρ.2.1.2.2.2.2.2.2.2.2.2.1).bind (Fb K))) (cond (Nat.beq c 0) (some (Ds Ff Ef fun σ ρ K=>(Ja n n σ.1 ρ.1.1 ρ.1.2.1 ρ.1.2.2.1 ρ.1.2.2.2.1 ρ.1.2.2.2.2.1 ρ.1.2.2.2.2.2.1 ρ.1.2.2.2.2.2.2.1 ρ.1.2.2.2.2.2.2.2.1).bind (Db K))) none))),xm:=fun c q=>(cond (Nat.beq c 2&&Nat.beq (q.getD 1000000) 2&&q.isSome) (some []) (cond (Nat.beq c 4&&Nat.beq (q.getD 1000000) 4&&q.isSome) (some [(1,none),(4,none)]) (cond (Nat.beq c 5&&q.isNone) (some [(2,none)]) (cond (Nat.beq c 3&&q.isNone) (some [(2,none)]) (cond (Nat.beq c 0&&Nat.beq (q.getD 1000000) 0&&q.isSome) (some [(1,none)]) (cond (Nat.beq c 1&&q.isNone) (some [(2,none)]) none)))))) }
def Xd (n:Nat) (K:XE→List AV→ja→Option Out) (m:Nat) (i:Int) (c1:(Sq T2)) (c2:BA) (c3:Int) (c4:Int) (c5:(Sq Int)) (c6:Int) (c7:Int) (c8:Nat):Option Out:=Jg tys (da Out (pb n)) (ib n) n (Ba [1,1,0,1,0,0] (aa Tryz.f36)) 0 Ff Ef K m (i,()) ((c1,(c2,(c3,(c4,(c5,(c6,(c7,(c8,())))))))),())
theorem vj (n:Nat) (K:XE→List AV→ja→Option Out):∀ (m:Nat) i c1 c2 c3 c4 c5 c6 c7 c8,Xd n K m i c1 c2 c3 c4 c5 c6 c7 c8=(Ja n m i c1 c2 c3 c4 c5 c6 c7 c8).bind (Db K)
  | 0,_,_,_,_,_,_,_,_,_=>by kernel_rfl
  | m+1,i,c1,c2,c3,c4,c5,c6,c7,c8=>by
    have h1:Xd n K (m+1) i c1 c2 c3 c4 c5 c6 c7 c8=Gc n i c1 c2 c3 c4 c5 c6 c7 c8 (Xd n K m) (fun a=>Db K (.out a)) (fun a=>Db K (.ret a)) (fun p=>Db K (.pan p)):=by kernel_rfl
    have h2:Xd n K m=fun i c1 c2 c3 c4 c5 c6 c7 c8=>(Ja n m i c1 c2 c3 c4 c5 c6 c7 c8).bind (Db K):=by
      repeat (refine funext fun _=>?_)
      exact vj n K m _ _ _ _ _ _ _ _ _
    rw [h1,h2];exact (Mt n m _ _ _ _ _ _ _ _ _ (Db K)).symm
theorem Yr (n:Nat):dg tys (da Out (pb n)) (ib n) n (Ba [1,1,0,1,0,0] (aa Tryz.f36)) 0:=Wa (sp:=Ff) (rp:=Ef) (by kernel_rfl) fun K σ ρ=>vj n K n σ.1 ρ.1.1 ρ.1.2.1 ρ.1.2.2.1 ρ.1.2.2.2.1 ρ.1.2.2.2.2.1 ρ.1.2.2.2.2.2.1 ρ.1.2.2.2.2.2.2.1 ρ.1.2.2.2.2.2.2.2.1
def Zd (n:Nat) (K:XE→List AV→ja→Option Out) (m:Nat) (i2:Int) (k0:Int) (c25:(Sq T2)) (c26:BA) (c27:Int) (c28:Int) (c29:(Sq Int)) (c30:Int) (c31:Int) (c32:Nat) (t:BA) (t1:Int) (t2:Int) (t3:Int) (t4:Int) (t5:Int) (t6:Int) (t7:Int) (t8:Int) (t9:Bool):Option Out:=Jg tys (da Out (pb n)) (ib n) n (Ba [1,1,1,0,1,0,0,1,0,0,1,1,1,0,0] (aa Tryz.f36)) 4 Jf If K m (i2,(k0,())) ((c25,(c26,(c27,(c28,(c29,(c30,(c31,(c32,())))))))),((t,(t1,(t2,(t3,(t4,(t5,(t6,(t7,(t8,(t9,())))))))))),()))
theorem xj (n:Nat) (K:XE→List AV→ja→Option Out):∀ (m:Nat) i2 k0 c25 c26 c27 c28 c29 c30 c31 c32 t t1 t2 t3 t4 t5 t6 t7 t8 t9,Zd n K m i2 k0 c25 c26 c27 c28 c29 c30 c31 c32 t t1 t2 t3 t4 t5 t6 t7 t8 t9=(La n m i2 k0 c25 c26 c27 c28 c29 c30 c31 c32 t t1 t2 t3 t4 t5 t6 t7 t8 t9).bind (Fb K)
  | 0,_,_,_,_,_,_,_,_,_,_,_,_,_,_,_,_,_,_,_,_=>by kernel_rfl
  | m+1,i2,k0,c25,c26,c27,c28,c29,c30,c31,c32,t,t1,t2,t3,t4,t5,t6,t7,t8,t9=>by
    have h1:Zd n K (m+1) i2 k0 c25 c26 c27 c28 c29 c30 c31 c32 t t1 t2 t3 t4 t5 t6 t7 t8 t9=Ic n i2 k0 c25 c26 c27 c28 c29 c30 c31 c32 t t1 t2 t3 t4 t5 t6 t7 t8 t9 (Zd n K m) (fun a=>Fb K (.out a)) (fun a=>Fb K (.ret a)) (fun p=>Fb K (.pan p)):=by kernel_rfl
    have h2:Zd n K m=fun i2 k0 c25 c26 c27 c28 c29 c30 c31 c32 t t1 t2 t3 t4 t5 t6 t7 t8 t9=>(La n m i2 k0 c25 c26 c27 c28 c29 c30 c31 c32 t t1 t2 t3 t4 t5 t6 t7 t8 t9).bind (Fb K):=by
      repeat (refine funext fun _=>?_)
      exact xj n K m _ _ _ _ _ _ _ _ _ _ _ _ _ _ _ _ _ _ _ _
    rw [h1,h2];exact (Ot n m _ _ _ _ _ _ _ _ _ _ _ _ _ _ _ _ _ _ _ _ (Fb K)).symm
theorem js (n:Nat):dg tys (da Out (pb n)) (ib n) n (Ba [1,1,1,0,1,0,0,1,0,0,1,1,1,0,0] (aa Tryz.f36)) 4:=Wa (sp:=Jf) (rp:=If) (by kernel_rfl) fun K σ ρ=>xj n K n σ.1 σ.2.1 ρ.1.1 ρ.1.2.1 ρ.1.2.2.1 ρ.1.2.2.2.1 ρ.1.2.2.2.2.1 ρ.1.2.2.2.2.2.1 ρ.1.2.2.2.2.2.2.1 ρ.1.2.2.2.2.2.2.2.1 ρ.2.1.1 ρ.2.1.2.1 ρ.2.1.2.2.1 ρ.2.1.2.2.2.1 ρ.2.1.2.2.2.2.1 ρ.2.1.2.2.2.2.2.1 ρ.2.1.2.2.2.2.2.2.1 ρ.2.1.2.2.2.2.2.2.2.1 ρ.2.1.2.2.2.2.2.2.2.2.1 ρ.2.1.2.2.2.2.2.2.2.2.2.1
def Yd (n:Nat) (K:XE→List AV→ja→Option Out) (m:Nat) (i1:Int) (c17:(Sq T2)) (c18:BA) (c19:Int) (c20:Int) (c21:(Sq Int)) (c22:Int) (c23:Int) (c24:Nat):Option Out:=Jg tys (da Out (pb n)) (ib n) n (Ba [1,1,1,0,1,0,0] (aa Tryz.f36)) 2 Hf Gf K m (i1,()) ((c17,(c18,(c19,(c20,(c21,(c22,(c23,(c24,())))))))),())
theorem wj (n:Nat) (K:XE→List AV→ja→Option Out):∀ (m:Nat) i1 c17 c18 c19 c20 c21 c22 c23 c24,Yd n K m i1 c17 c18 c19 c20 c21 c22 c23 c24=(Ka n m i1 c17 c18 c19 c20 c21 c22 c23 c24).bind (Eb K)
  | 0,_,_,_,_,_,_,_,_,_=>by kernel_rfl
  | m+1,i1,c17,c18,c19,c20,c21,c22,c23,c24=>by
    have h1:Yd n K (m+1) i1 c17 c18 c19 c20 c21 c22 c23 c24=Hc n i1 c17 c18 c19 c20 c21 c22 c23 c24 (Yd n K m) (fun a=>Eb K (.out a)) (fun a=>Eb K (.ret a)) (fun p=>Eb K (.pan p)):=by kernel_rfl
    have h2:Yd n K m=fun i1 c17 c18 c19 c20 c21 c22 c23 c24=>(Ka n m i1 c17 c18 c19 c20 c21 c22 c23 c24).bind (Eb K):=by
      repeat (refine funext fun _=>?_)
      exact wj n K m _ _ _ _ _ _ _ _ _
    rw [h1,h2];exact (Nt n m _ _ _ _ _ _ _ _ _ (Eb K)).symm
theorem Zr (n:Nat):dg tys (da Out (pb n)) (ib n) n (Ba [1,1,1,0,1,0,0] (aa Tryz.f36)) 2:=Wa (sp:=Hf) (rp:=Gf) (by kernel_rfl) fun K σ ρ=>wj n K n σ.1 ρ.1.1 ρ.1.2.1 ρ.1.2.2.1 ρ.1.2.2.2.1 ρ.1.2.2.2.2.1 ρ.1.2.2.2.2.2.1 ρ.1.2.2.2.2.2.2.1 ρ.1.2.2.2.2.2.2.2.1
theorem Pt (n:Nat):ra tys (da Out (pb n)) (ib n) n (aa Tryz.f36) 0:=⟨trivial,⟨⟨trivial,⟨⟨trivial,trivial⟩,trivial⟩⟩,⟨⟨trivial,⟨Yr n,⟨⟨trivial,⟨trivial,trivial⟩⟩,⟨⟨trivial,⟨⟨trivial,trivial⟩,trivial⟩⟩,trivial⟩⟩⟩⟩,⟨⟨trivial,⟨Zr n,⟨⟨trivial,⟨trivial,trivial⟩⟩,⟨⟨trivial,⟨⟨trivial,⟨⟨trivial,trivial⟩,trivial⟩⟩,⟨trivial,⟨js n,⟨⟨trivial,⟨trivial,trivial⟩⟩,⟨⟨trivial,⟨⟨trivial,trivial⟩,trivial⟩⟩,trivial⟩⟩⟩⟩⟩⟩,trivial⟩⟩⟩⟩,⟨trivial,trivial⟩⟩⟩⟩⟩
theorem Ku (n:Nat):Enters Tryz.prog 36:=enters_of (c:=aa Tryz.f36) Tryz.func36 (by kernel_rfl) (by kernel_rfl)
def Bl (n:Nat):Entry:=⟨36,e8 K8 (.one .bool) (fun xs=>Kd n xs.1),none,none⟩
theorem Kw (n:Nat):EntryOk Tryz.prog gl (Bl n):=Ca (Ku n) fun xs y h=>la tys_ok (zj n) mixed (hint:=ib n) (n:=n) Tryz.func36 (Va (Pt n)) (pa (φ:=(fun y=>some (Out.ret (me (.one .bool) y)))) (by kernel_rfl) (Ay n xs.1 _) h)
def Jh (n:Nat):List Entry:=Bl n::pb n
theorem Li (n:Nat):AllOk Tryz.prog gl (Jh n):=.cons (Kw n) (zj n)
def kq (n:Nat) {R:Type} (k:T1→Option R):Option R:=k ((1:Int),((0:Int),(false,(((⟨#[97]⟩:BA),((⟨#[120]⟩:BA),())),((⟨1,fun q=>List.getD (α:=T0) [(((⟨#[97]⟩:BA),((⟨#[120]⟩:BA),())),((0:Int),((0:Int),((0:Int),((0:Int),())))))] q (Ea K0)⟩:Sq T0),((⟨#[]⟩:BA),((0:Int),(false,(false,())))))))))
def Sg (n:Nat):Option T1:=kq n some
theorem xH (n:Nat) {S:Type}:∀ (φ:_→Option S),(Sg n).bind φ=kq n φ:=by
  intros;unfold Sg kq;first | (simp only [ia,ba,iB,bB,oL,oX,nB,Option.bind_some]) | rfl
def er (n:Nat):Hint Out:={ live:=fun c=>[],run:=fun c=>none,xm:=fun c q=>none }
theorem iC (n:Nat):ra tys (da Out (Jh n)) (er n) n (aa Tryz.f30) 0:=qa (fun _=>rfl) _ _ (by kernel_rfl)
theorem OD (n:Nat):Enters Tryz.prog 30:=enters_of (c:=aa Tryz.f30) Tryz.func30 (by kernel_rfl) (by kernel_rfl)
def Fu (n:Nat):Entry:=⟨30,e8 .unit (.one K1) (fun xs=>Sg n),none,none⟩
theorem SF (n:Nat):EntryOk Tryz.prog gl (Fu n):=Ca (OD n) fun xs y h=>la tys_ok (Li n) mixed (hint:=er n) (n:=n) Tryz.func30 (Va (iC n)) (pa (φ:=(fun y=>some (Out.ret (me (.one K1) y)))) (by kernel_rfl) (xH n  _) h)
def sn (n:Nat):List Entry:=Fu n::Jh n
theorem ip (n:Nat):AllOk Tryz.prog gl (sn n):=.cons (SF n) (Li n)
def Ts (n:Nat) {R:Type} (i n0:Int) (k:Int→Option R):Option R:=if (IntKind.wrap .u64 n0)=0 then none else k (IntKind.wrap .i64 (Int.tmod (IntKind.wrap .u64 i) (IntKind.wrap .u64 n0)))
def Yk (n:Nat) (i n0:Int):Option Int:=Ts n i n0 some
theorem ZN (n:Nat) {S:Type}:∀ i n0 (φ:_→Option S),(Yk n i n0).bind φ=Ts n i n0 φ:=by
  intros;unfold Yk Ts;first | (simp only [ia,ba,iB,bB,oL,oX,nB,Option.bind_some]) | rfl
def Yx (n:Nat):Hint Out:={ live:=fun c=>[],run:=fun c=>none,xm:=fun c q=>none }
theorem ZH (n:Nat):ra tys (da Out (sn n)) (Yx n) n (aa Tryz.f37) 0:=qa (fun _=>rfl) _ _ (by kernel_rfl)
theorem vK (n:Nat):Enters Tryz.prog 37:=enters_of (c:=aa Tryz.f37) Tryz.func37 (by kernel_rfl) (by kernel_rfl)
def qD (n:Nat):Entry:=⟨37,e8 (.pair (.int .i64) (.pair (.int .i64) .unit)) (.one (.int .i64)) (fun xs=>Yk n xs.1 xs.2.1),none,none⟩
theorem vM (n:Nat):EntryOk Tryz.prog gl (qD n):=Ca (vK n) fun xs y h=>la tys_ok (ip n) mixed (hint:=Yx n) (n:=n) Tryz.func37 (Va (ZH n)) (pa (φ:=(fun y=>some (Out.ret (me (.one (.int .i64)) y)))) (by kernel_rfl) (ZN n xs.1 xs.2.1 _) h)
def Kv (n:Nat):List Entry:=qD n::sn n
theorem Lv (n:Nat):AllOk Tryz.prog gl (Kv n):=.cons (vM n) (ip n)
def im (n:Nat) {R:Type} (n0 least most:Int) (k:Bool→Option R):Option R:=if (decide (n0≥least))=true then k (decide (n0≤most)) else k false
def Nc (n:Nat) (n0 least most:Int):Option Bool:=im n n0 least most some
theorem EJ (n:Nat) {S:Type}:∀ n0 least most (φ:_→Option S),(Nc n n0 least most).bind φ=im n n0 least most φ:=by
  intros;unfold Nc im;first | (simp only [ia,ba,iB,bB,oL,oX,nB,Option.bind_some]) | rfl
def At (n:Nat):Hint Out:={ live:=fun c=>[],run:=fun c=>none,xm:=fun c q=>none }
theorem MD (n:Nat):ra tys (da Out (Kv n)) (At n) n (aa Tryz.f127) 0:=qa (fun _=>rfl) _ _ (by kernel_rfl)
theorem LF (n:Nat):Enters Tryz.prog 127:=enters_of (c:=aa Tryz.f127) Tryz.func127 (by kernel_rfl) (by kernel_rfl)
def Gx (n:Nat):Entry:=⟨127,e8 (.pair (.int .i64) (.pair (.int .i64) (.pair (.int .i64) .unit))) (.one .bool) (fun xs=>Nc n xs.1 xs.2.1 xs.2.2.1),none,none⟩
theorem vH (n:Nat):EntryOk Tryz.prog gl (Gx n):=Ca (LF n) fun xs y h=>la tys_ok (Lv n) mixed (hint:=At n) (n:=n) Tryz.func127 (Va (MD n)) (pa (φ:=(fun y=>some (Out.ret (me (.one .bool) y)))) (by kernel_rfl) (EJ n xs.1 xs.2.1 xs.2.2.1 _) h)
def jq (n:Nat):List Entry:=Gx n::Kv n
theorem br (n:Nat):AllOk Tryz.prog gl (jq n):=.cons (vH n) (Lv n)
def oE (n:Nat) {R:Type} (m0:U2) (k:BA→Option R):Option R:=if yo m0.1 (⟨#[64]⟩:BA)=true then if yo (m0.1++(⟨#[64]⟩:BA)) m0.2.1=true then k ((m0.1++(⟨#[64]⟩:BA))++m0.2.1) else none else none
def dI (n:Nat) (m0:U2):Option BA:=oE n m0 some
theorem XS (n:Nat) {S:Type}:∀ m0 (φ:_→Option S),(dI n m0).bind φ=oE n m0 φ:=by
  intros;unfold dI oE;first | (simp only [ia,ba,iB,bB,oL,oX,nB,Option.bind_some]) | rfl
def FE (n:Nat):Hint Out:={ live:=fun c=>[],run:=fun c=>none,xm:=fun c q=>none }
theorem IM (n:Nat):ra tys (da Out (jq n)) (FE n) n (aa Tryz.f175) 0:=qa (fun _=>rfl) _ _ (by kernel_rfl)
theorem zP (n:Nat):Enters Tryz.prog 175:=enters_of (c:=aa Tryz.f175) Tryz.func175 (by kernel_rfl) (by kernel_rfl)
def EK (n:Nat):Entry:=⟨175,e8 (.pair (.pair .str (.pair .str .unit)) .unit) (.one .str) (fun xs=>dI n xs.1),none,none⟩
theorem UQ (n:Nat):EntryOk Tryz.prog gl (EK n):=Ca (zP n) fun xs y h=>la tys_ok (br n) mixed (hint:=FE n) (n:=n) Tryz.func175 (Va (IM n)) (pa (φ:=(fun y=>some (Out.ret (me (.one .str) y)))) (by kernel_rfl) (XS n xs.1 _) h)
def EE (n:Nat):List Entry:=EK n::jq n
theorem PC (n:Nat):AllOk Tryz.prog gl (EE n):=.cons (UQ n) (br n)
def fk (n:Nat) {R:Type} (s prefix0:BA) (k:Bool→Option R):Option R:=if (decide ((s.size:Int)≥(prefix0.size:Int)))=true then if 0≤(prefix0.size:Int)∧(prefix0.size:Int)≤(s.size:Int) then k ((s.extract (Int.toNat (0:Int)) (Int.toNat (prefix0.size:Int))).toList==prefix0.toList) else none else k false
def Ek (n:Nat) (s prefix0:BA):Option Bool:=fk n s prefix0 some
theorem nH (n:Nat) {S:Type}:∀ s prefix0 (φ:_→Option S),(Ek n s prefix0).bind φ=fk n s prefix0 φ:=by
  intros;unfold Ek fk;first | (simp only [ia,ba,iB,bB,oL,oX,nB,Option.bind_some]) | rfl
def Tq (n:Nat):Hint Out:={ live:=fun c=>[],run:=fun c=>none,xm:=fun c q=>none }
theorem WB (n:Nat):ra tys (da Out (EE n)) (Tq n) n (aa Tryz.f226) 0:=qa (fun _=>rfl) _ _ (by kernel_rfl)
theorem DD (n:Nat):Enters Tryz.prog 226:=enters_of (c:=aa Tryz.f226) Tryz.func226 (by kernel_rfl) (by kernel_rfl)
def vu (n:Nat):Entry:=⟨226,e8 (.pair .str (.pair .str .unit)) (.one .bool) (fun xs=>Ek n xs.1 xs.2.1),none,none⟩
theorem yF (n:Nat):EntryOk Tryz.prog gl (vu n):=Ca (DD n) fun xs y h=>la tys_ok (PC n) mixed (hint:=Tq n) (n:=n) Tryz.func226 (Va (WB n)) (pa (φ:=(fun y=>some (Out.ret (me (.one .bool) y)))) (by kernel_rfl) (nH n xs.1 xs.2.1 _) h)
def Vm (n:Nat):List Entry:=vu n::EE n
theorem ap (n:Nat):AllOk Tryz.prog gl (Vm n):=.cons (yF n) (PC n)
def vk (n:Nat) {R:Type} (s prefix0:BA) (k:Bool→Option R):Option R:=(Ek n s prefix0).bind fun v=>k v
def jd (n:Nat) (s prefix0:BA):Option Bool:=vk n s prefix0 some
theorem UH (n:Nat) {S:Type}:∀ s prefix0 (φ:_→Option S),(jd n s prefix0).bind φ=vk n s prefix0 φ:=by
  intros;unfold jd vk;first | (simp only [ia,ba,iB,bB,oL,oX,nB,Option.bind_some]) | rfl
def Br (n:Nat):Hint Out:={ live:=fun c=>[],run:=fun c=>none,xm:=fun c q=>none }
theorem EC (n:Nat):ra tys (da Out (Vm n)) (Br n) n (aa Tryz.f194) 0:=qa (fun _=>rfl) _ _ (by kernel_rfl)
theorem fE (n:Nat):Enters Tryz.prog 194:=enters_of (c:=aa Tryz.f194) Tryz.func194 (by kernel_rfl) (by kernel_rfl)
def Av (n:Nat):Entry:=⟨194,e8 (.pair .str (.pair .str .unit)) (.one .bool) (fun xs=>jd n xs.1 xs.2.1),none,none⟩
theorem xG (n:Nat):EntryOk Tryz.prog gl (Av n):=Ca (fE n) fun xs y h=>la tys_ok (ap n) mixed (hint:=Br n) (n:=n) Tryz.func194 (Va (EC n)) (pa (φ:=(fun y=>some (Out.ret (me (.one .bool) y)))) (by kernel_rfl) (UH n xs.1 xs.2.1 _) h)
def uo (n:Nat):List Entry:=Av n::Vm n
theorem gj (n:Nat):AllOk Tryz.prog gl (uo n):=.cons (xG n) (ap n)
def Bz (n:Nat) {R:Type} (ok:Bool) (k:(Unit)→Option R) (kp:Int→Option R):Option R:=if (!ok)=true then kp (8:Int) else k ()
def Xb (n:Nat) (ok:Bool):Option (Except Int (Unit)):=Bz n ok (fun y=>some (.ok y)) (fun p=>some (.error p))
theorem MK (n:Nat) {S:Type}:∀ ok (φ:_→Option S),(Xb n ok).bind φ=Bz n ok (fun y=>φ (.ok y)) (fun p=>φ (.error p)):=by
  intros;unfold Xb Bz;first | (simp only [ia,ba,iB,bB,oL,oX,nB,Option.bind_some]) | rfl
def bu (n:Nat):Hint Out:={ live:=fun c=>[],run:=fun c=>none,xm:=fun c q=>none }
theorem TC (n:Nat):ra tys (da Out (uo n)) (bu n) n (aa Tryz.f241) 0:=qa (fun _=>rfl) _ _ (by kernel_rfl)
theorem NM (n:Nat):Enters Tryz.prog 241:=enters_of (c:=aa Tryz.f241) Tryz.func241 (by kernel_rfl) (by kernel_rfl)
def gI (n:Nat):Entry:=⟨241,f8 244 (.pair .bool .unit) (.many .unit) (fun xs=>Xb n xs.1),none,none⟩
theorem FP (n:Nat):EntryOk Tryz.prog gl (gI n):=XO (NM n) (fun xs y h=>la tys_ok (gj n) mixed (hint:=bu n) (n:=n) Tryz.func241 (Va (TC n)) (pa (φ:=(fun r=>X7 r (fun p=>some (Out.pan (Mv 244 p))) fun y=>some (Out.ret (me (.many .unit) y)))) (by kernel_rfl) (MK n xs.1 _) h)) (fun xs p h=>la tys_ok (gj n) mixed (hint:=bu n) (n:=n) Tryz.func241 (Va (TC n)) (pa (φ:=(fun r=>X7 r (fun p=>some (Out.pan (Mv 244 p))) fun y=>some (Out.ret (me (.many .unit) y)))) (by kernel_rfl) (MK n xs.1 _) h))
def EB (n:Nat):List Entry:=gI n::uo n
theorem Cz (n:Nat):AllOk Tryz.prog gl (EB n):=.cons (FP n) (gj n)
def rk (n:Nat) {R:Type} (k:(BA×Unit)→Option R):Option R:=if ((0:Nat):Int)=0 then k ((⟨#[]⟩:BA),()) else none
def ni (n:Nat):Option (BA×Unit):=rk n some
theorem IH (n:Nat) {S:Type}:∀ (φ:_→Option S),(ni n).bind φ=rk n φ:=by
  intros;unfold ni rk;first | (simp only [ia,ba,iB,bB,oL,oX,nB,Option.bind_some]) | rfl
def tr (n:Nat):Hint OutS:={ live:=fun c=>[],run:=fun c=>none,xm:=fun c q=>none,sch:=fun c=>(cond (Nat.beq c 1) (some [(0,0),(1,0),(2,0),(5,0),(6,0),(7,0),(3,1),(8,1),(9,0),(4,3),(10,2),(11,0)]) none) }
theorem rC (n:Nat):ra tys (da OutS (EB n)) (tr n) n (aa Tryz.f246) 0:=qa (fun _=>rfl) _ _ (by kernel_rfl)
theorem SD (n:Nat):Enters Tryz.prog 246:=enters_of (c:=aa Tryz.f246) Tryz.func246 (by kernel_rfl) (by kernel_rfl)
def Wu:List RSp:=[.one (.ptr 0 0 0)]
def Vu:List RS:=[.box 252 2 true [.cn .nilp,.cn .nils]]
def TD:List Sl:=[.ptr 0 0 0]
def UD:List RSp:=[.one (.dat .str)]
def Rh:List RS:=[.box 252 2 true [.cn .nilp,.cn .nils]]
def vq (y:(BA×Unit)):OutS:=⟨false,ru (Al Rh ((),())) TD (),BM (kL (Al Rh ((),())) UD ((y.1,()),())),aD (Al Rh ((),())) Rh ((),())⟩
theorem gG (n:Nat):EntryOk Tryz.prog gl ⟨246,Bt,none,some (R6 Wu Vu (fun σ ρ=>ni n) vq)⟩:=ou (SD n) fun σ ρ y h=>mh tys_ok (Cz n) mixed (hint:=tr n) (n:=n) Tryz.func246 (Va (rC n)) (pa (φ:=fun y=>some (vq y)) (by kernel_rfl) (IH n _) h)
def Uu (n:Nat):List Entry:=⟨246,Bt,none,some (R6 Wu Vu (fun σ ρ=>ni n) vq)⟩::EB n
theorem RA (n:Nat):AllOk Tryz.prog gl (Uu n):=.cons (gG n) (Cz n)
theorem Wq:Tryz.prog.funcs[290]?=some Tryz.f290:=by kernel_rfl
theorem Xq:EntryOk Tryz.prog gl ⟨290,Bt,some .ident,none⟩:=wH Wq (by kernel_rfl) (by kernel_rfl) (by kernel_rfl) (by kernel_rfl)
def Ve (n:Nat):List Entry:=⟨290,Bt,some .ident,none⟩::Uu n
theorem Rg (n:Nat):AllOk Tryz.prog gl (Ve n):=.cons Xq (RA n)
def Tj (n:Nat) {R:Type} (k:Unit→Option R):Option R:=k ()
def ah (n:Nat):Option Unit:=Tj n some
theorem vC (n:Nat) {S:Type}:∀ (φ:_→Option S),(ah n).bind φ=Tj n φ:=by
  intros;unfold ah Tj;first | (simp only [ia,ba,iB,bB,oL,oX,nB,Option.bind_some]) | rfl
def Il (n:Nat):Hint OutS:={ live:=fun c=>[],run:=fun c=>none,xm:=fun c q=>none }
theorem Vw (n:Nat):ra tys (da OutS (Ve n)) (Il n) n (aa Tryz.f275) 0:=qa (fun _=>rfl) _ _ (by kernel_rfl)
theorem Uy (n:Nat):Enters Tryz.prog 275:=enters_of (c:=aa Tryz.f275) Tryz.func275 (by kernel_rfl) (by kernel_rfl)
def Cp:List RSp:=[.one (.ptr 0 0 0)]
def Bp:List RS:=[.box 252 2 true [.cn .nilp,.cn .nils]]
def Vy:List Sl:=[.ptr 0 0 0]
def Wy:List RSp:=[]
def Rf:List RS:=[.box 252 2 false [.ptr 0 0 0,.cn .nils]]
def Uj (y:Unit):OutS:=⟨false,ru (Al Rf ((),())) Vy (),BM (kL (Al Rf ((),())) Wy ()),aD (Al Rf ((),())) Rf ((),())⟩
theorem UA (n:Nat):EntryOk Tryz.prog gl ⟨275,Bt,none,some (R6 Cp Bp (fun σ ρ=>ah n) Uj)⟩:=ou (Uy n) fun σ ρ y h=>mh tys_ok (Rg n) mixed (hint:=Il n) (n:=n) Tryz.func275 (Va (Vw n)) (pa (φ:=fun y=>some (Uj y)) (by kernel_rfl) (vC n _) h)
def Ri (n:Nat):List Entry:=⟨275,Bt,none,some (R6 Cp Bp (fun σ ρ=>ah n) Uj)⟩::Ve n
theorem Pk (n:Nat):AllOk Tryz.prog gl (Ri n):=.cons (UA n) (Rg n)
def Qj (n:Nat) {R:Type} (c:Int) (k:U4→Option R):Option R:=(ah n).bind fun v=>if wc (0+1) 1=true then k ((⟨(0+1),fun q=>if q<0 then (fun _=>Ea (.int .u8)) q else (fun q=>List.getD (α:=Int) [c] q (Ea (.int .u8))) (q - 0)⟩:Sq Int),()) else none
def Vb (n:Nat) (c:Int):Option U4:=Qj n c some
theorem tC (n:Nat) {S:Type}:∀ c (φ:_→Option S),(Vb n c).bind φ=Qj n c φ:=by
  intros;unfold Vb Qj;first | (simp only [ia,ba,iB,bB,oL,oX,nB,Option.bind_some]) | rfl
def Gl (n:Nat):Hint OutS:={ live:=fun c=>[],run:=fun c=>none,xm:=fun c q=>none }
theorem Tw (n:Nat):ra tys (da OutS (Ri n)) (Gl n) n (aa Tryz.f288) 0:=qa (fun _=>rfl) _ _ (by kernel_rfl)
theorem Ny (n:Nat):Enters Tryz.prog 288:=enters_of (c:=aa Tryz.f288) Tryz.func288 (by kernel_rfl) (by kernel_rfl)
def yp:List RSp:=[.one (.ptr 0 0 0),.one (.dat (.int .u8))]
def xp:List RS:=[.box 252 2 true [.cn .nilp,.cn .nils]]
def Oy:List Sl:=[.ptr 0 0 0,.top]
def Py:List RSp:=[.one (.cn .nili)]
def Pf:List RS:=[.box 252 2 false [.ptr 0 0 0,.row 1],.row 5 1 (.int .u8) true false]
def Rj (y:U4):OutS:=⟨false,ru (Al Pf ((),(y.1,()))) Oy (),BM (kL (Al Pf ((),(y.1,()))) Py ((),())),aD (Al Pf ((),(y.1,()))) Pf ((),(y.1,()))⟩
theorem SA (n:Nat):EntryOk Tryz.prog gl ⟨288,Bt,none,some (R6 yp xp (fun σ ρ=>Vb n σ.2.1.1) Rj)⟩:=ou (Ny n) fun σ ρ y h=>mh tys_ok (Pk n) mixed (hint:=Gl n) (n:=n) Tryz.func288 (Va (Tw n)) (pa (φ:=fun y=>some (Rj y)) (by kernel_rfl) (tC n σ.2.1.1 _) h)
def Qi (n:Nat):List Entry:=⟨288,Bt,none,some (R6 yp xp (fun σ ρ=>Vb n σ.2.1.1) Rj)⟩::Ri n
theorem Ok (n:Nat):AllOk Tryz.prog gl (Qi n):=.cons (SA n) (Pk n)
def sk (n:Nat) {R:Type} (r1:(Sq Int)) (k:(BA×Unit)→Option R):Option R:=if (r1.n:Int)=(r1.n:Int)∧(r1.n:Int)≤9223372036854775807 then k ((lE r1.n r1.at'),()) else none
def qf (n:Nat) (r1:(Sq Int)):Option (BA×Unit):=sk n r1 some
theorem JH (n:Nat) {S:Type}:∀ r1 (φ:_→Option S),(qf n r1).bind φ=sk n r1 φ:=by
  intros;unfold qf sk;first | (simp only [ia,ba,iB,bB,oL,oX,nB,Option.bind_some]) | rfl
def ur (n:Nat):Hint OutS:={ live:=fun c=>[],run:=fun c=>none,xm:=fun c q=>none,sch:=fun c=>(cond (Nat.beq c 1) (some [(0,0),(1,0),(2,0),(5,0),(6,0),(7,0),(3,1),(8,1),(9,0),(4,3),(10,2),(11,0)]) none) }
theorem sC (n:Nat):ra tys (da OutS (Qi n)) (ur n) n (aa Tryz.f246) 0:=qa (fun _=>rfl) _ _ (by kernel_rfl)
theorem VD (n:Nat):Enters Tryz.prog 246:=enters_of (c:=aa Tryz.f246) Tryz.func246 (by kernel_rfl) (by kernel_rfl)
def Yu:List RSp:=[.one (.ptr 0 0 0)]
def Xu:List RS:=[.box 252 2 false [.ptr 0 0 0,.row 1],.row 5 1 (.int .u8) true false]
def WD:List Sl:=[.ptr 0 0 0]
def XD:List RSp:=[.one (.dat .str)]
def Sh:List RS:=[.box 252 2 false [.ptr 0 0 0,.top]]
def xq (y:(BA×Unit)):OutS:=⟨false,ru (Al Sh ((),())) WD (),BM (kL (Al Sh ((),())) XD ((y.1,()),())),aD (Al Sh ((),())) Sh ((),())⟩
theorem iG (n:Nat):EntryOk Tryz.prog gl ⟨246,Bt,none,some (R6 Yu Xu (fun σ ρ=>qf n ρ.2.1) xq)⟩:=ou (VD n) fun σ ρ y h=>mh tys_ok (Ok n) mixed (hint:=ur n) (n:=n) Tryz.func246 (Va (sC n)) (pa (φ:=fun y=>some (xq y)) (by kernel_rfl) (JH n ρ.2.1 _) h)
def bo (n:Nat):List Entry:=⟨246,Bt,none,some (R6 Yu Xu (fun σ ρ=>qf n ρ.2.1) xq)⟩::Qi n
theorem vp (n:Nat):AllOk Tryz.prog gl (bo n):=.cons (iG n) (Ok n)
def xh (n:Nat) {R:Type} (r1:(Sq Int)) (k:U4→Option R):Option R:=k (r1,())
def af (n:Nat) (r1:(Sq Int)):Option U4:=xh n r1 some
theorem wC (n:Nat) {S:Type}:∀ r1 (φ:_→Option S),(af n r1).bind φ=xh n r1 φ:=by
  intros;unfold af xh;first | (simp only [ia,ba,iB,bB,oL,oX,nB,Option.bind_some]) | rfl
def Jl (n:Nat):Hint OutS:={ live:=fun c=>[],run:=fun c=>none,xm:=fun c q=>none }
theorem Ww (n:Nat):ra tys (da OutS (bo n)) (Jl n) n (aa Tryz.f275) 0:=qa (fun _=>rfl) _ _ (by kernel_rfl)
theorem Xy (n:Nat):Enters Tryz.prog 275:=enters_of (c:=aa Tryz.f275) Tryz.func275 (by kernel_rfl) (by kernel_rfl)
def Ep:List RSp:=[.one (.ptr 0 0 0)]
def Dp:List RS:=[.box 252 2 false [.ptr 0 0 0,.row 1],.row 5 1 (.int .u8) true false]
def Yy:List Sl:=[.ptr 0 0 0]
def Zy:List RSp:=[]
def Sf:List RS:=[.box 252 2 false [.ptr 0 0 0,.row 1],.row 5 1 (.int .u8) true false]
def Vj (y:U4):OutS:=⟨false,ru (Al Sf ((),(y.1,()))) Yy (),BM (kL (Al Sf ((),(y.1,()))) Zy ()),aD (Al Sf ((),(y.1,()))) Sf ((),(y.1,()))⟩
theorem VA (n:Nat):EntryOk Tryz.prog gl ⟨275,Bt,none,some (R6 Ep Dp (fun σ ρ=>af n ρ.2.1) Vj)⟩:=ou (Xy n) fun σ ρ y h=>mh tys_ok (vp n) mixed (hint:=Jl n) (n:=n) Tryz.func275 (Va (Ww n)) (pa (φ:=fun y=>some (Vj y)) (by kernel_rfl) (wC n ρ.2.1 _) h)
def Si (n:Nat):List Entry:=⟨275,Bt,none,some (R6 Ep Dp (fun σ ρ=>af n ρ.2.1) Vj)⟩::bo n
theorem Qk (n:Nat):AllOk Tryz.prog gl (Si n):=.cons (VA n) (vp n)
def wh (n:Nat) {R:Type} (c:Int) (r1:(Sq Int)) (k:U4→Option R):Option R:=(af n r1).bind fun v=>if wc (v.1.n+1) 1=true then k ((⟨(v.1.n+1),fun q=>if q<v.1.n then v.1.at' q else (fun q=>List.getD (α:=Int) [c] q (Ea (.int .u8))) (q - v.1.n)⟩:Sq Int),()) else none
def Ta (n:Nat) (c:Int) (r1:(Sq Int)):Option U4:=wh n c r1 some
theorem uC (n:Nat) {S:Type}:∀ c r1 (φ:_→Option S),(Ta n c r1).bind φ=wh n c r1 φ:=by
  intros;unfold Ta wh;first | (simp only [ia,ba,iB,bB,oL,oX,nB,Option.bind_some]) | rfl
def Hl (n:Nat):Hint OutS:={ live:=fun c=>[],run:=fun c=>none,xm:=fun c q=>none }
theorem Uw (n:Nat):ra tys (da OutS (Si n)) (Hl n) n (aa Tryz.f288) 0:=qa (fun _=>rfl) _ _ (by kernel_rfl)
theorem Qy (n:Nat):Enters Tryz.prog 288:=enters_of (c:=aa Tryz.f288) Tryz.func288 (by kernel_rfl) (by kernel_rfl)
def Ap:List RSp:=[.one (.ptr 0 0 0),.one (.dat (.int .u8))]
def zp:List RS:=[.box 252 2 false [.ptr 0 0 0,.row 1],.row 5 1 (.int .u8) true false]
def Ry:List Sl:=[.ptr 0 0 0,.top]
def Sy:List RSp:=[.one (.cn .nili)]
def Qf:List RS:=[.box 252 2 false [.ptr 0 0 0,.row 1],.row 5 1 (.int .u8) true false]
def Sj (y:U4):OutS:=⟨false,ru (Al Qf ((),(y.1,()))) Ry (),BM (kL (Al Qf ((),(y.1,()))) Sy ((),())),aD (Al Qf ((),(y.1,()))) Qf ((),(y.1,()))⟩
theorem TA (n:Nat):EntryOk Tryz.prog gl ⟨288,Bt,none,some (R6 Ap zp (fun σ ρ=>Ta n σ.2.1.1 ρ.2.1) Sj)⟩:=ou (Qy n) fun σ ρ y h=>mh tys_ok (Qk n) mixed (hint:=Hl n) (n:=n) Tryz.func288 (Va (Uw n)) (pa (φ:=fun y=>some (Sj y)) (by kernel_rfl) (uC n σ.2.1.1 ρ.2.1 _) h)
def Ae (n:Nat):List Entry:=⟨288,Bt,none,some (R6 Ap zp (fun σ ρ=>Ta n σ.2.1.1 ρ.2.1) Sj)⟩::Si n
theorem Zg (n:Nat):AllOk Tryz.prog gl (Ae n):=.cons (TA n) (Qk n)
def ac (n:Nat) {R:Type} (s1:BA) (i:Int) (r1:(Sq Int)) (kn:BA→Int→(Sq Int)→Option R) (ko:Unit→Option R) (kr:(BA×BA)→Option R) (kp:Int→Option R):Option R:=(Xb n (decide (i<(s1.size:Int)))).bind fun x_1=>X7 x_1 (fun p3=>kp p3) (fun v5=>if 0≤i∧i<(s1.size:Int) then if ((bt s1 i)==(34:Int))=true then if 0≤(IntKind.wrap .i64 (i+(1:Int)))∧(IntKind.wrap .i64 (i+(1:Int)))≤(s1.size:Int) then (qf n r1).bind fun v6=>kr (v6.1,(s1.extract (Int.toNat (IntKind.wrap .i64 (i+(1:Int)))) (Int.toNat (s1.size:Int)))) else none else if 0≤i∧i<(s1.size:Int) then if ((bt s1 i)==(92:Int))=true then (Xb n (decide ((IntKind.wrap .i64 (i+(1:Int)))<(s1.size:Int)))).bind fun x_2=>X7 x_2 (fun p4=>kp p4) (fun v7=>if 0≤(IntKind.wrap .i64 (i+(1:Int)))∧(IntKind.wrap .i64 (i+(1:Int)))<(s1.size:Int) then if (decide ((bt s1 (IntKind.wrap .i64 (i+(1:Int))))≥(32:Int)))=true then if 0≤(IntKind.wrap .i64 (i+(1:Int)))∧(IntKind.wrap .i64 (i+(1:Int)))<(s1.size:Int) then (Xb n (decide ((bt s1 (IntKind.wrap .i64 (i+(1:Int))))≤(126:Int)))).bind fun x_3=>X7 x_3 (fun p5=>kp p5) (fun v8=>if 0≤(IntKind.wrap .i64 (i+(1:Int)))∧(IntKind.wrap .i64 (i+(1:Int)))<(s1.size:Int) then (Ta n (bt s1 (IntKind.wrap .i64 (i+(1:Int)))) r1).bind fun v9=>
 kn s1 (IntKind.wrap .i64 ((IntKind.wrap .i64 (i+(1:Int)))+(1:Int))) v9.1 else none) else none else (Xb n false).bind fun x_4=>X7 x_4 (fun p6=>kp p6) (fun v10=>if 0≤(IntKind.wrap .i64 (i+(1:Int)))∧(IntKind.wrap .i64 (i+(1:Int)))<(s1.size:Int) then (Ta n (bt s1 (IntKind.wrap .i64 (i+(1:Int)))) r1).bind fun v11=>kn s1 (IntKind.wrap .i64 ((IntKind.wrap .i64 (i+(1:Int)))+(1:Int))) v11.1 else none) else none) else if 0≤i∧i<(s1.size:Int) then if (decide ((bt s1 i)≥(32:Int)))=true then if 0≤i∧i<(s1.size:Int) then (Xb n (decide ((bt s1 i)≤(126:Int)))).bind fun x_5=>X7 x_5 (fun p7=>kp p7) (fun v12=>if 0≤i∧i<(s1.size:Int) then (Ta n (bt s1 i) r1).bind fun v13=>kn s1 (IntKind.wrap .i64 (i+(1:Int))) v13.1 else none) else none else (Xb n false).bind fun x_6=>X7 x_6 (fun p8=>kp p8) (fun v14=>if 0≤i∧i<(s1.size:Int) then (Ta n (bt s1 i) r1).bind fun v15=>kn s1 (IntKind.wrap .i64 (i+(1:Int))) v15.1 else none) else none else none else none)
def wa (n:Nat):Nat→BA→Int→(Sq Int)→Option (Lx Unit (BA×BA))
 | 0,_,_,_=>none
 | m+1,s1,i,r1=>ac n s1 i r1 (wa n m) (fun a=>some (.out a)) (fun a=>some (.ret a)) (fun p=>some (.pan p))
theorem ZG (n m:Nat) {S:Type}:∀ s1 i r1 (φ:_→Option S),(wa n (m+1) s1 i r1).bind φ=ac n s1 i r1 (fun s1 i r1=>(wa n m s1 i r1).bind φ) (fun a=>φ (.out a)) (fun a=>φ (.ret a)) (fun p=>φ (.pan p)):=by
  intros;first | (simp only [wa,ac,ia,ba,iB,bB,oL,oX,nB,Option.bind_some]) | rfl
def Lm:List Sl:=.dat .str::.top::.top::.top::.ptr 0 0 0::.dat (.int .i64)::tp 42 []
def Km:List RS:=[.box 252 2 false [.ptr 0 0 0,.row 1],.row 5 1 (.int .u8) true false]
def gy:List Sl:=.top::.top::.dat .str::.dat .str::tp 44 []
def fy:List RS:=[]
def Fe (K:XE→List AV→ja→Option Out):Lx Unit (BA×BA)→Option Out:=fun x=>W7 x (fun _=>none) (fun a=>tj gy fy (a.1,(a.2,())) () (K .ret)) (fun p=>K (.panic (Mv 244 p)) (List.replicate 48 .top) [])
def Ee (n:Nat) {R:Type} (s:BA) (k:(BA×BA×Unit)→Option R) (kp:Int→Option R):Option R:=(Xb n (decide ((1:Int)<(s.size:Int)))).bind fun x_1=>X7 x_1 (fun p=>kp p) (fun v=>if 0≤(1:Int)∧(1:Int)<(s.size:Int) then if ((bt s (1:Int))==(34:Int))=true then if 0≤(IntKind.wrap .i64 ((1:Int)+(1:Int)))∧(IntKind.wrap .i64 ((1:Int)+(1:Int)))≤(s.size:Int) then (ni n).bind fun v1=>k (v1.1,((s.extract (Int.toNat (IntKind.wrap .i64 ((1:Int)+(1:Int)))) (Int.toNat (s.size:Int))),())) else none else if 0≤(1:Int)∧(1:Int)<(s.size:Int) then if ((bt s (1:Int))==(92:Int))=true then (Xb n (decide ((IntKind.wrap .i64 ((1:Int)+(1:Int)))<(s.size:Int)))).bind fun x_2=>X7 x_2 (fun p1=>kp p1) (fun v2=>if 0≤(IntKind.wrap .i64 ((1:Int)+(1:Int)))∧(IntKind.wrap .i64 ((1:Int)+(1:Int)))<(s.size:Int) then if (decide ((bt s (IntKind.wrap .i64 ((1:Int)+(1:Int))))≥(32:Int)))=true then if 0≤(IntKind.wrap .i64 ((1:Int)+(1:Int)))∧(IntKind.wrap .i64 ((1:Int)+(1:Int)))<(s.size:Int) then (Xb n (decide ((bt s (IntKind.wrap .i64 ((1:Int)+(1:Int))))≤(126:Int)))).bind fun x_3=>X7 x_3 (fun p2=>kp p2) (fun v3=>if 0≤(IntKind.wrap .i64 ((1:Int)+(1:Int)))∧(IntKind.wrap .i64 ((1:Int)+(1:Int)))<(s.size:Int) then (Vb n (bt s (IntKind.wrap .i64 ((1:Int)+(1:Int))))).bind fun v4=>
 (wa n n s (IntKind.wrap .i64 ((IntKind.wrap .i64 ((1:Int)+(1:Int)))+(1:Int))) v4.1).bind fun x_4=>W7 x_4 (fun _=>none) (fun a_5=>k (a_5.1,(a_5.2,()))) (fun p9=>kp p9) else none) else none else (Xb n false).bind fun x_6=>X7 x_6 (fun p10=>kp p10) (fun v16=>if 0≤(IntKind.wrap .i64 ((1:Int)+(1:Int)))∧(IntKind.wrap .i64 ((1:Int)+(1:Int)))<(s.size:Int) then (Vb n (bt s (IntKind.wrap .i64 ((1:Int)+(1:Int))))).bind fun v17=>(wa n n s (IntKind.wrap .i64 ((IntKind.wrap .i64 ((1:Int)+(1:Int)))+(1:Int))) v17.1).bind fun x_7=>W7 x_7 (fun _=>none) (fun a_8=>k (a_8.1,(a_8.2,()))) (fun p11=>kp p11) else none) else none) else if 0≤(1:Int)∧(1:Int)<(s.size:Int) then if (decide ((bt s (1:Int))≥(32:Int)))=true then if 0≤(1:Int)∧(1:Int)<(s.size:Int) then (Xb n (decide ((bt s (1:Int))≤(126:Int)))).bind fun x_9=>X7 x_9 (fun p12=>kp p12) (fun v18=>if 0≤(1:Int)∧(1:Int)<(s.size:Int) then (Vb n (bt s (1:Int))).bind fun v19=>(wa n n s (IntKind.wrap .i64 ((1:Int)+(1:Int))) v19.1).bind fun x_10=>W7 x_10 (fun _=>none) (fun a_11=>k (a_11.1,(a_11.2,()))) (fun p13=>kp p13) else none) else none else (Xb n false).bind fun x_12=>X7 x_12 (fun p14=>kp p14) (fun v20=>if 0≤(1:Int)∧(1:Int)<(s.size:Int) then (Vb n (bt s (1:Int))).bind fun v21=>
 (wa n n s (IntKind.wrap .i64 ((1:Int)+(1:Int))) v21.1).bind fun x_13=>W7 x_13 (fun _=>none) (fun a_14=>k (a_14.1,(a_14.2,()))) (fun p15=>kp p15) else none) else none else none else none)
def Qd (n:Nat) (s:BA):Option (Except Int (BA×BA×Unit)):=Ee n s (fun y=>some (.ok y)) (fun p=>some (.error p))
theorem VE (n:Nat) {S:Type}:∀ s (φ:_→Option S),(Qd n s).bind φ=Ee n s (fun y=>φ (.ok y)) (fun p=>φ (.error p)):=by
  intros;unfold Qd Ee;first | (simp only [ia,ba,iB,bB,oL,oX,nB,Option.bind_some]) | rfl
def Mh (n:Nat):Hint Out:={ live:=fun c=>(cond (Nat.beq c 0) (lv [0,4,5]) []),run:=fun c=>(cond (Nat.beq c 0) (some (Ds Lm Km fun σ ρ K=>(wa n n σ.1 σ.2.1 ρ.2.1).bind (Fe K))) none),xm:=fun c q=>(cond (Nat.beq c 1&&q.isNone) (some [(2,none),(3,none)]) none),sch:=fun c=>(cond (Nat.beq c 6) (some [(1,0),(2,0),(3,0),(4,0),(0,2),(5,0),(6,0)]) none),pl:=fun c=>Nat.beq c 0 }
def ek (n:Nat) (K:XE→List AV→ja→Option Out) (m:Nat) (s1:BA) (i:Int) (r1:(Sq Int)):Option Out:=Jg tys (da Out (Ae n)) (Mh n) n (Ba [1,1,1,0,0] (aa Tryz.f271)) 0 Lm Km K m (s1,(i,())) ((),(r1,()))
theorem px (n:Nat) (K:XE→List AV→ja→Option Out):∀ (m:Nat) s1 i r1,ek n K m s1 i r1=(wa n m s1 i r1).bind (Fe K)
  | 0,_,_,_=>by kernel_rfl
  | m+1,s1,i,r1=>by
    have h1:ek n K (m+1) s1 i r1=ac n s1 i r1 (ek n K m) (fun a=>Fe K (.out a)) (fun a=>Fe K (.ret a)) (fun p=>Fe K (.pan p)):=by kernel_rfl
    have h2:ek n K m=fun s1 i r1=>(wa n m s1 i r1).bind (Fe K):=by
      repeat (refine funext fun _=>?_)
      exact px n K m _ _ _
    rw [h1,h2];exact (ZG n m _ _ _ (Fe K)).symm
theorem UE (n:Nat):dg tys (da Out (Ae n)) (Mh n) n (Ba [1,1,1,0,0] (aa Tryz.f271)) 0:=Wa (sp:=Lm) (rp:=Km) (by kernel_rfl) fun K σ ρ=>px n K n σ.1 σ.2.1 ρ.2.1
theorem qx (n:Nat):ra tys (da Out (Ae n)) (Mh n) n (aa Tryz.f271) 0:=⟨trivial,⟨trivial,⟨trivial,⟨UE n,⟨⟨trivial,⟨⟨trivial,⟨⟨trivial,trivial⟩,trivial⟩⟩,⟨⟨trivial,⟨⟨trivial,trivial⟩,trivial⟩⟩,⟨trivial,trivial⟩⟩⟩⟩,trivial⟩⟩⟩⟩⟩
theorem aJ (n:Nat):Enters Tryz.prog 271:=enters_of (c:=aa Tryz.f271) Tryz.func271 (by kernel_rfl) (by kernel_rfl)
def UC (n:Nat):Entry:=⟨271,f8 244 (.pair .str .unit) (.many (.pair .str (.pair .str .unit))) (fun xs=>Qd n xs.1),none,none⟩
theorem PK (n:Nat):EntryOk Tryz.prog gl (UC n):=XO (aJ n) (fun xs y h=>la tys_ok (Zg n) mixed (hint:=Mh n) (n:=n) Tryz.func271 (Va (qx n)) (pa (φ:=(fun r=>X7 r (fun p=>some (Out.pan (Mv 244 p))) fun y=>some (Out.ret (me (.many (.pair .str (.pair .str .unit))) y)))) (by kernel_rfl) (VE n xs.1 _) h)) (fun xs p h=>la tys_ok (Zg n) mixed (hint:=Mh n) (n:=n) Tryz.func271 (Va (qx n)) (pa (φ:=(fun r=>X7 r (fun p=>some (Out.pan (Mv 244 p))) fun y=>some (Out.ret (me (.many (.pair .str (.pair .str .unit))) y)))) (by kernel_rfl) (VE n xs.1 _) h))
def cu (n:Nat):List Entry:=UC n::Ae n
theorem du (n:Nat):AllOk Tryz.prog gl (cu n):=.cons (PK n) (Zg n)
def Mz (n:Nat) {R:Type} (c:Int) (k:Bool→Option R):Option R:=if (decide (c≥(97:Int)))=true then if (decide (c≤(122:Int)))=false then if (decide (c≥(48:Int)))=true then k (decide (c≤(57:Int))) else k false else k true else if (decide (c≥(48:Int)))=true then k (decide (c≤(57:Int))) else k false
def iy (n:Nat) (c:Int):Option Bool:=Mz n c some
theorem XQ (n:Nat) {S:Type}:∀ c (φ:_→Option S),(iy n c).bind φ=Mz n c φ:=by
  intros;unfold iy Mz;first | (simp only [ia,ba,iB,bB,oL,oX,nB,Option.bind_some]) | rfl
def WC (n:Nat):Hint Out:={ live:=fun c=>[],run:=fun c=>none,xm:=fun c q=>none }
theorem RK (n:Nat):ra tys (da Out (cu n)) (WC n) n (aa Tryz.f198) 0:=qa (fun _=>rfl) _ _ (by kernel_rfl)
theorem RM (n:Nat):Enters Tryz.prog 198:=enters_of (c:=aa Tryz.f198) Tryz.func198 (by kernel_rfl) (by kernel_rfl)
def jI (n:Nat):Entry:=⟨198,e8 (.pair (.int .u8) .unit) (.one .bool) (fun xs=>iy n xs.1),none,none⟩
theorem KP (n:Nat):EntryOk Tryz.prog gl (jI n):=Ca (RM n) fun xs y h=>la tys_ok (du n) mixed (hint:=WC n) (n:=n) Tryz.func198 (Va (RK n)) (pa (φ:=(fun y=>some (Out.ret (me (.one .bool) y)))) (by kernel_rfl) (XQ n xs.1 _) h)
def kI (n:Nat):List Entry:=jI n::cu n
theorem bJ (n:Nat):AllOk Tryz.prog gl (kI n):=.cons (KP n) (du n)
theorem tu:Tryz.prog.funcs[285]?=some Tryz.f285:=by kernel_rfl
theorem uu:EntryOk Tryz.prog gl ⟨285,Bt,some (.flat pw),none⟩:=BF tu (by kernel_rfl) (by kernel_rfl) (by kernel_rfl) (by kernel_rfl)
def Pg (n:Nat):List Entry:=⟨285,Bt,some (.flat pw),none⟩::kI n
theorem ji (n:Nat):AllOk Tryz.prog gl (Pg n):=.cons uu (bJ n)
def jk (n:Nat) {R:Type} (s:BA) (c:Int) (k:Int→Option R):Option R:=k (Lib.indexByte s.data.toList (Nat.toUInt8 (Int.toNat c)))
def Gk (n:Nat) (s:BA) (c:Int):Option Int:=jk n s c some
theorem pH (n:Nat) {S:Type}:∀ s c (φ:_→Option S),(Gk n s c).bind φ=jk n s c φ:=by
  intros;unfold Gk jk;first | (simp only [ia,ba,iB,bB,oL,oX,nB,Option.bind_some]) | rfl
def Vq (n:Nat):Hint Out:={ live:=fun c=>[],run:=fun c=>none,xm:=fun c q=>none }
theorem YB (n:Nat):ra tys (da Out (Pg n)) (Vq n) n (aa Tryz.f263) 0:=qa (fun _=>rfl) _ _ (by kernel_rfl)
theorem FD (n:Nat):Enters Tryz.prog 263:=enters_of (c:=aa Tryz.f263) Tryz.func263 (by kernel_rfl) (by kernel_rfl)
def xu (n:Nat):Entry:=⟨263,e8 (.pair .str (.pair (.int .u8) .unit)) (.one (.int .i64)) (fun xs=>Gk n xs.1 xs.2.1),none,none⟩
theorem AF (n:Nat):EntryOk Tryz.prog gl (xu n):=Ca (FD n) fun xs y h=>la tys_ok (ji n) mixed (hint:=Vq n) (n:=n) Tryz.func263 (Va (YB n)) (pa (φ:=(fun y=>some (Out.ret (me (.one (.int .i64)) y)))) (by kernel_rfl) (pH n xs.1 xs.2.1 _) h)
def Xm (n:Nat):List Entry:=xu n::Pg n
theorem dp (n:Nat):AllOk Tryz.prog gl (Xm n):=.cons (AF n) (ji n)
def Ak (n:Nat) {R:Type} (s:BA) (c:Int) (k:Int→Option R):Option R:=(Gk n s c).bind fun v=>k v
def tf (n:Nat) (s:BA) (c:Int):Option Int:=Ak n s c some
theorem WH (n:Nat) {S:Type}:∀ s c (φ:_→Option S),(tf n s c).bind φ=Ak n s c φ:=by
  intros;unfold tf Ak;first | (simp only [ia,ba,iB,bB,oL,oX,nB,Option.bind_some]) | rfl
def Dr (n:Nat):Hint Out:={ live:=fun c=>[],run:=fun c=>none,xm:=fun c q=>none }
theorem GC (n:Nat):ra tys (da Out (Xm n)) (Dr n) n (aa Tryz.f273) 0:=qa (fun _=>rfl) _ _ (by kernel_rfl)
theorem iE (n:Nat):Enters Tryz.prog 273:=enters_of (c:=aa Tryz.f273) Tryz.func273 (by kernel_rfl) (by kernel_rfl)
def Ev (n:Nat):Entry:=⟨273,e8 (.pair .str (.pair (.int .u8) .unit)) (.one (.int .i64)) (fun xs=>tf n xs.1 xs.2.1),none,none⟩
theorem yG (n:Nat):EntryOk Tryz.prog gl (Ev n):=Ca (iE n) fun xs y h=>la tys_ok (dp n) mixed (hint:=Dr n) (n:=n) Tryz.func273 (Va (GC n)) (pa (φ:=(fun y=>some (Out.ret (me (.one (.int .i64)) y)))) (by kernel_rfl) (WH n xs.1 xs.2.1 _) h)
def vo (n:Nat):List Entry:=Ev n::Xm n
theorem Lp (n:Nat):AllOk Tryz.prog gl (vo n):=.cons (yG n) (dp n)
def pz (n:Nat) {R:Type} (c:Int) (k:Bool→Option R):Option R:=(iy n c).bind fun v=>if v=false then if (decide (c≥(65:Int)))=true then if (decide (c≤(90:Int)))=false then (tf n (⟨#[33,35,36,37,38,39,42,43,45,47,61,63,94,95,96,123,124,125,126]⟩:BA) c).bind fun v1=>k (decide (v1≥(0:Int))) else k true else (tf n (⟨#[33,35,36,37,38,39,42,43,45,47,61,63,94,95,96,123,124,125,126]⟩:BA) c).bind fun v2=>k (decide (v2≥(0:Int))) else k true
def dy (n:Nat) (c:Int):Option Bool:=pz n c some
theorem WQ (n:Nat) {S:Type}:∀ c (φ:_→Option S),(dy n c).bind φ=pz n c φ:=by
  intros;unfold dy pz;first | (simp only [ia,ba,iB,bB,oL,oX,nB,Option.bind_some]) | rfl
def SC (n:Nat):Hint Out:={ live:=fun c=>[],run:=fun c=>none,xm:=fun c q=>none }
theorem IK (n:Nat):ra tys (da Out (vo n)) (SC n) n (aa Tryz.f289) 0:=qa (fun _=>rfl) _ _ (by kernel_rfl)
theorem LM (n:Nat):Enters Tryz.prog 289:=enters_of (c:=aa Tryz.f289) Tryz.func289 (by kernel_rfl) (by kernel_rfl)
def eI (n:Nat):Entry:=⟨289,e8 (.pair (.int .u8) .unit) (.one .bool) (fun xs=>dy n xs.1),none,none⟩
theorem DP (n:Nat):EntryOk Tryz.prog gl (eI n):=Ca (LM n) fun xs y h=>la tys_ok (Lp n) mixed (hint:=SC n) (n:=n) Tryz.func289 (Va (IK n)) (pa (φ:=(fun y=>some (Out.ret (me (.one .bool) y)))) (by kernel_rfl) (WQ n xs.1 _) h)
def Mq (n:Nat):List Entry:=eI n::vo n
theorem qz (n:Nat):AllOk Tryz.prog gl (Mq n):=.cons (DP n) (Lp n)
def Ej (n:Nat) {R:Type} (s1:BA) (word t6 t7:Int) (kn:BA→Int→Int→Int→Option R) (ko:(Int)→Option R) (kr:(Bool)→Option R) (kp:Int→Option R):Option R:=if (decide (t7<t6))=true then if 0≤t7∧t7<(s1.size:Int) then if ((bt s1 t7)==(46:Int))=true then if (word==(0:Int))=false then if 0≤t7∧t7<(s1.size:Int) then if ((bt s1 t7) !=(46:Int))=true then if 0≤t7∧t7<(s1.size:Int) then (dy n (bt s1 t7)).bind fun v=>if (!v)=true then kr false else if 0≤t7∧t7<(s1.size:Int) then if ((bt s1 t7)==(46:Int))=true then kn s1 (0:Int) t6 (IntKind.wrap .i64 (t7+(1:Int))) else kn s1 (IntKind.wrap .i64 (word+(1:Int))) t6 (IntKind.wrap .i64 (t7+(1:Int))) else none else none else if 0≤t7∧t7<(s1.size:Int) then if ((bt s1 t7)==(46:Int))=true then kn s1 (0:Int) t6 (IntKind.wrap .i64 (t7+(1:Int))) else kn s1 (IntKind.wrap .i64 (word+(1:Int))) t6 (IntKind.wrap .i64 (t7+(1:Int))) else none else none else kr false else if 0≤t7∧t7<(s1.size:Int) then if ((bt s1 t7) !=(46:Int))=true then if 0≤t7∧t7<(s1.size:Int) then (dy n (bt s1 t7)).bind fun v1=>if (!v1)=true then kr false else if 0≤t7∧t7<(s1.size:Int) then if ((bt s1 t7)==(46:Int))=true then kn s1 (0:Int) t6 (IntKind.wrap .i64 (t7+(1:Int))) else kn s1 (IntKind.wrap .i64 (word+(1:Int))) t6 (IntKind.wrap .i64 (t7+(1:Int))) else none else none
 else if 0≤t7∧t7<(s1.size:Int) then if ((bt s1 t7)==(46:Int))=true then kn s1 (0:Int) t6 (IntKind.wrap .i64 (t7+(1:Int))) else kn s1 (IntKind.wrap .i64 (word+(1:Int))) t6 (IntKind.wrap .i64 (t7+(1:Int))) else none else none else none else ko word
def Pd (n:Nat):Nat→BA→Int→Int→Int→Option (Lx (Int) (Bool))
 | 0,_,_,_,_=>none
 | m+1,s1,word,t6,t7=>Ej n s1 word t6 t7 (Pd n m) (fun a=>some (.out a)) (fun a=>some (.ret a)) (fun p=>some (.pan p))
theorem WI (n m:Nat) {S:Type}:∀ s1 word t6 t7 (φ:_→Option S),(Pd n (m+1) s1 word t6 t7).bind φ=Ej n s1 word t6 t7 (fun s1 word t6 t7=>(Pd n m s1 word t6 t7).bind φ) (fun a=>φ (.out a)) (fun a=>φ (.ret a)) (fun p=>φ (.pan p)):=by
  intros;first | (simp only [Pd,Ej,ia,ba,iB,bB,oL,oX,nB,Option.bind_some]) | rfl
def Vp:List Sl:=.dat .str::.top::.top::.dat (.int .i64)::.top::.top::.dat (.int .i64)::.dat (.int .i64)::tp 32 []
def Up:List RS:=[]
def Fz:List Sl:=.top::.top::.top::.dat (.int .i64)::tp 36 []
def Ez:List RS:=[]
def Hz:List Sl:=.top::.top::.dat .bool::tp 37 []
def Gz:List RS:=[]
def vf (K:XE→List AV→ja→Option Out):Lx (Int) (Bool)→Option Out:=fun x=>W7 x (fun a=>tj Fz Ez (a,()) () (K (.exit 0))) (fun a=>tj Hz Gz (a,()) () (K .ret)) (fun _=>none)
def Ov (n:Nat) {R:Type} (s:BA) (k:Bool→Option R):Option R:=(Pd n n s (0:Int) (s.size:Int) (0:Int)).bind fun x_1=>W7 x_1 (fun a_2=>k (decide (a_2>(0:Int)))) (fun a_3=>k a_3) (fun _=>none)
def Po (n:Nat) (s:BA):Option Bool:=Ov n s some
theorem GP (n:Nat) {S:Type}:∀ s (φ:_→Option S),(Po n s).bind φ=Ov n s φ:=by
  intros;unfold Po Ov;first | (simp only [ia,ba,iB,bB,oL,oX,nB,Option.bind_some]) | rfl
def Ul (n:Nat):Hint Out:={ live:=fun c=>(cond (Nat.beq c 0) (lv [0,3,6,7]) []),run:=fun c=>(cond (Nat.beq c 0) (some (Ds Vp Up fun σ ρ K=>(Pd n n σ.1 σ.2.1 σ.2.2.1 σ.2.2.2.1).bind (vf K))) none),xm:=fun c q=>(cond (Nat.beq c 0&&Nat.beq (q.getD 1000000) 0&&q.isSome) (some [(3,none)]) (cond (Nat.beq c 1&&q.isNone) (some [(2,none)]) none)) }
def Tl (n:Nat) (K:XE→List AV→ja→Option Out) (m:Nat) (s1:BA) (word:Int) (t6:Int) (t7:Int):Option Out:=Jg tys (da Out (Mq n)) (Ul n) n (Ba [1,1,0,1,0,0] (aa Tryz.f274)) 0 Vp Up K m (s1,(word,(t6,(t7,())))) ()
theorem Dz (n:Nat) (K:XE→List AV→ja→Option Out):∀ (m:Nat) s1 word t6 t7,Tl n K m s1 word t6 t7=(Pd n m s1 word t6 t7).bind (vf K)
  | 0,_,_,_,_=>by kernel_rfl
  | m+1,s1,word,t6,t7=>by
    have h1:Tl n K (m+1) s1 word t6 t7=Ej n s1 word t6 t7 (Tl n K m) (fun a=>vf K (.out a)) (fun a=>vf K (.ret a)) (fun p=>vf K (.pan p)):=by kernel_rfl
    have h2:Tl n K m=fun s1 word t6 t7=>(Pd n m s1 word t6 t7).bind (vf K):=by
      repeat (refine funext fun _=>?_)
      exact Dz n K m _ _ _ _
    rw [h1,h2];exact (WI n m _ _ _ _ (vf K)).symm
theorem XG (n:Nat):dg tys (da Out (Mq n)) (Ul n) n (Ba [1,1,0,1,0,0] (aa Tryz.f274)) 0:=Wa (sp:=Vp) (rp:=Up) (by kernel_rfl) fun K σ ρ=>Dz n K n σ.1 σ.2.1 σ.2.2.1 σ.2.2.2.1
theorem XI (n:Nat):ra tys (da Out (Mq n)) (Ul n) n (aa Tryz.f274) 0:=⟨trivial,⟨trivial,⟨⟨trivial,⟨XG n,⟨trivial,⟨⟨trivial,trivial⟩,⟨⟨trivial,⟨⟨trivial,⟨⟨trivial,trivial⟩,trivial⟩⟩,⟨trivial,⟨trivial,⟨trivial,trivial⟩⟩⟩⟩⟩,trivial⟩⟩⟩⟩⟩,⟨trivial,trivial⟩⟩⟩⟩
theorem NK (n:Nat):Enters Tryz.prog 274:=enters_of (c:=aa Tryz.f274) Tryz.func274 (by kernel_rfl) (by kernel_rfl)
def RE (n:Nat):Entry:=⟨274,e8 (.pair .str .unit) (.one .bool) (fun xs=>Po n xs.1),none,none⟩
theorem OM (n:Nat):EntryOk Tryz.prog gl (RE n):=Ca (NK n) fun xs y h=>la tys_ok (qz n) mixed (hint:=Ul n) (n:=n) Tryz.func274 (Va (XI n)) (pa (φ:=(fun y=>some (Out.ret (me (.one .bool) y)))) (by kernel_rfl) (GP n xs.1 _) h)
def Jm (n:Nat):List Entry:=RE n::Mq n
theorem ox (n:Nat):AllOk Tryz.prog gl (Jm n):=.cons (OM n) (qz n)
def Mg (n:Nat) {R:Type} (s1:BA) (t10 t11:Int) (r1:(Sq Int)) (kn:BA→Int→Int→(Sq Int)→Option R) (ko:((Sq Int))→Option R) (kr:Unit→Option R) (kp:Int→Option R):Option R:=if (decide (t11<t10))=true then if 0≤t11∧t11<(s1.size:Int) then if ((bt s1 t11)==(34:Int))=false then if 0≤t11∧t11<(s1.size:Int) then if ((bt s1 t11)==(92:Int))=true then (Ta n (92:Int) r1).bind fun v2=>if 0≤t11∧t11<(s1.size:Int) then (Ta n (bt s1 t11) v2.1).bind fun v3=>kn s1 t10 (IntKind.wrap .i64 (t11+(1:Int))) v3.1 else none else if 0≤t11∧t11<(s1.size:Int) then (Ta n (bt s1 t11) r1).bind fun v4=>kn s1 t10 (IntKind.wrap .i64 (t11+(1:Int))) v4.1 else none else none else (Ta n (92:Int) r1).bind fun v5=>if 0≤t11∧t11<(s1.size:Int) then (Ta n (bt s1 t11) v5.1).bind fun v6=>kn s1 t10 (IntKind.wrap .i64 (t11+(1:Int))) v6.1 else none else none else ko r1
def Mc (n:Nat):Nat→BA→Int→Int→(Sq Int)→Option (Lx ((Sq Int)) Unit)
 | 0,_,_,_,_=>none
 | m+1,s1,t10,t11,r1=>Mg n s1 t10 t11 r1 (Mc n m) (fun a=>some (.out a)) (fun a=>some (.ret a)) (fun p=>some (.pan p))
theorem YI (n m:Nat) {S:Type}:∀ s1 t10 t11 r1 (φ:_→Option S),(Mc n (m+1) s1 t10 t11 r1).bind φ=Mg n s1 t10 t11 r1 (fun s1 t10 t11 r1=>(Mc n m s1 t10 t11 r1).bind φ) (fun a=>φ (.out a)) (fun a=>φ (.ret a)) (fun p=>φ (.pan p)):=by
  intros;first | (simp only [Mc,Mg,ia,ba,iB,bB,oL,oX,nB,Option.bind_some]) | rfl
def Xp:List Sl:=.dat .str::.top::.top::.ptr 0 0 0::tp 6 (.dat (.int .i64)::.dat (.int .i64)::tp 20 [])
def Wp:List RS:=[.box 252 2 false [.ptr 0 0 0,.row 1],.row 5 1 (.int .u8) true false]
def Kz:List Sl:=.top::.top::.top::.ptr 0 0 0::tp 28 []
def Jz:List RS:=[.box 252 2 false [.ptr 0 0 0,.row 1],.row 5 1 (.int .u8) true false]
def xf (K:XE→List AV→ja→Option Out):Lx ((Sq Int)) Unit→Option Out:=fun x=>W7 x (fun a=>tj Kz Jz () ((),(a,())) (K (.exit 0))) (fun _=>none) (fun _=>none)
def Qv (n:Nat) {R:Type} (s:BA) (k:BA→Option R):Option R:=(Po n s).bind fun v=>if v=true then k s else (Vb n (34:Int)).bind fun v1=>(Mc n n s (s.size:Int) (0:Int) v1.1).bind fun x_1=>W7 x_1 (fun a_2=>(qf n a_2).bind fun v7=>if yo v7.1 (⟨#[34]⟩:BA)=true then k (v7.1++(⟨#[34]⟩:BA)) else none) (fun _=>none) (fun _=>none)
def Pv (n:Nat) (s:BA):Option BA:=Qv n s some
theorem IP (n:Nat) {S:Type}:∀ s (φ:_→Option S),(Pv n s).bind φ=Qv n s φ:=by
  intros;unfold Pv Qv;first | (simp only [ia,ba,iB,bB,oL,oX,nB,Option.bind_some]) | rfl
def Wl (n:Nat):Hint Out:={ live:=fun c=>(cond (Nat.beq c 0) (lv [0,3,10,11]) []),run:=fun c=>(cond (Nat.beq c 0) (some (Ds Xp Wp fun σ ρ K=>(Mc n n σ.1 σ.2.1 σ.2.2.1 ρ.2.1).bind (xf K))) none),xm:=fun c q=>(cond (Nat.beq c 0&&Nat.beq (q.getD 1000000) 0&&q.isSome) (some [(3,none)]) none) }
def Vl (n:Nat) (K:XE→List AV→ja→Option Out) (m:Nat) (s1:BA) (t10:Int) (t11:Int) (r1:(Sq Int)):Option Out:=Jg tys (da Out (Jm n)) (Wl n) n (Ba [1,1,1,1,0,1,0,0] (aa Tryz.f272)) 0 Xp Wp K m (s1,(t10,(t11,()))) ((),(r1,()))
theorem Iz (n:Nat) (K:XE→List AV→ja→Option Out):∀ (m:Nat) s1 t10 t11 r1,Vl n K m s1 t10 t11 r1=(Mc n m s1 t10 t11 r1).bind (xf K)
  | 0,_,_,_,_=>by kernel_rfl
  | m+1,s1,t10,t11,r1=>by
    have h1:Vl n K (m+1) s1 t10 t11 r1=Mg n s1 t10 t11 r1 (Vl n K m) (fun a=>xf K (.out a)) (fun a=>xf K (.ret a)) (fun p=>xf K (.pan p)):=by kernel_rfl
    have h2:Vl n K m=fun s1 t10 t11 r1=>(Mc n m s1 t10 t11 r1).bind (xf K):=by
      repeat (refine funext fun _=>?_)
      exact Iz n K m _ _ _ _
    rw [h1,h2];exact (YI n m _ _ _ _ (xf K)).symm
theorem YG (n:Nat):dg tys (da Out (Jm n)) (Wl n) n (Ba [1,1,1,1,0,1,0,0] (aa Tryz.f272)) 0:=Wa (sp:=Xp) (rp:=Wp) (by kernel_rfl) fun K σ ρ=>Iz n K n σ.1 σ.2.1 σ.2.2.1 ρ.2.1
theorem ZI (n:Nat):ra tys (da Out (Jm n)) (Wl n) n (aa Tryz.f272) 0:=⟨trivial,⟨⟨trivial,⟨⟨trivial,trivial⟩,trivial⟩⟩,⟨trivial,⟨trivial,⟨⟨trivial,⟨YG n,⟨trivial,⟨⟨trivial,trivial⟩,⟨⟨trivial,⟨⟨trivial,⟨trivial,trivial⟩⟩,trivial⟩⟩,trivial⟩⟩⟩⟩⟩,⟨trivial,trivial⟩⟩⟩⟩⟩⟩
theorem OK (n:Nat):Enters Tryz.prog 272:=enters_of (c:=aa Tryz.f272) Tryz.func272 (by kernel_rfl) (by kernel_rfl)
def TE (n:Nat):Entry:=⟨272,e8 (.pair .str .unit) (.one .str) (fun xs=>Pv n xs.1),none,none⟩
theorem PM (n:Nat):EntryOk Tryz.prog gl (TE n):=Ca (OK n) fun xs y h=>la tys_ok (ox n) mixed (hint:=Wl n) (n:=n) Tryz.func272 (Va (ZI n)) (pa (φ:=(fun y=>some (Out.ret (me (.one .str) y)))) (by kernel_rfl) (IP n xs.1 _) h)
def ey (n:Nat):List Entry:=TE n::Jm n
theorem Yp (n:Nat):AllOk Tryz.prog gl (ey n):=.cons (PM n) (ox n)
def fi (n:Nat) {R:Type} (s:BA) (k:(BA×BA×Unit)→Option R) (kp:Int→Option R):Option R:=(jd n s (⟨#[34]⟩:BA)).bind fun v=>if v=true then (Qd n s).bind fun x_1=>X7 x_1 (fun p=>kp p) (fun v1=>(Pv n v1.1).bind fun v2=>k (v2,(v1.2.1,()))) else (tf n s (64:Int)).bind fun v3=>if (decide (v3≥(0:Int)))=true then if 0≤v3∧v3≤(s.size:Int) then (Po n (s.extract (Int.toNat (0:Int)) (Int.toNat v3))).bind fun v4=>(Xb n v4).bind fun x_2=>X7 x_2 (fun p1=>kp p1) (fun v5=>if 0≤v3∧v3≤(s.size:Int) then if 0≤v3∧v3≤(s.size:Int) then k ((s.extract (Int.toNat (0:Int)) (Int.toNat v3)),((s.extract (Int.toNat v3) (Int.toNat (s.size:Int))),())) else none else none) else none else (Xb n false).bind fun x_3=>X7 x_3 (fun p2=>kp p2) (fun v6=>if 0≤v3∧v3≤(s.size:Int) then if 0≤v3∧v3≤(s.size:Int) then k ((s.extract (Int.toNat (0:Int)) (Int.toNat v3)),((s.extract (Int.toNat v3) (Int.toNat (s.size:Int))),())) else none else none)
def xi (n:Nat) (s:BA):Option (Except Int (BA×BA×Unit)):=fi n s (fun y=>some (.ok y)) (fun p=>some (.error p))
theorem fI (n:Nat) {S:Type}:∀ s (φ:_→Option S),(xi n s).bind φ=fi n s (fun y=>φ (.ok y)) (fun p=>φ (.error p)):=by
  intros;unfold xi fi;first | (simp only [ia,ba,iB,bB,oL,oX,nB,Option.bind_some]) | rfl
def Lr (n:Nat):Hint Out:={ live:=fun c=>[],run:=fun c=>none,xm:=fun c q=>none }
theorem Az (n:Nat):ra tys (da Out (ey n)) (Lr n) n (aa Tryz.f240) 0:=qa (fun _=>rfl) _ _ (by kernel_rfl)
theorem LK (n:Nat):Enters Tryz.prog 240:=enters_of (c:=aa Tryz.f240) Tryz.func240 (by kernel_rfl) (by kernel_rfl)
def QE (n:Nat):Entry:=⟨240,f8 244 (.pair .str .unit) (.many (.pair .str (.pair .str .unit))) (fun xs=>xi n xs.1),none,none⟩
theorem MM (n:Nat):EntryOk Tryz.prog gl (QE n):=XO (LK n) (fun xs y h=>la tys_ok (Yp n) mixed (hint:=Lr n) (n:=n) Tryz.func240 (Va (Az n)) (pa (φ:=(fun r=>X7 r (fun p=>some (Out.pan (Mv 244 p))) fun y=>some (Out.ret (me (.many (.pair .str (.pair .str .unit))) y)))) (by kernel_rfl) (fI n xs.1 _) h)) (fun xs p h=>la tys_ok (Yp n) mixed (hint:=Lr n) (n:=n) Tryz.func240 (Va (Az n)) (pa (φ:=(fun r=>X7 r (fun p=>some (Out.pan (Mv 244 p))) fun y=>some (Out.ret (me (.many (.pair .str (.pair .str .unit))) y)))) (by kernel_rfl) (fI n xs.1 _) h))
def Im (n:Nat):List Entry:=QE n::ey n
theorem lx (n:Nat):AllOk Tryz.prog gl (Im n):=.cons (MM n) (Yp n)
def Ng (n:Nat) {R:Type} (t9 t10:Int) (b:(Sq Int)) (kn:Int→Int→(Sq Int)→Option R) (ko:((Sq Int))→Option R) (kr:Unit→Option R) (kp:Int→Option R):Option R:=if (decide (t10<t9))=true then if 0≤t10∧t10<(b.n:Int) then if (decide ((b.at' (Int.toNat t10))≥(65:Int)))=true then if (decide ((b.at' (Int.toNat t10))≤(90:Int)))=true then if 0≤t10∧t10<(b.n:Int) then kn t9 (IntKind.wrap .i64 (t10+(1:Int))) (⟨b.n,fun q=>if q=(Int.toNat t10)∧q<b.n then (IntKind.wrap .u8 ((IntKind.wrap .u8 ((b.at' (Int.toNat t10))+(97:Int))) - (65:Int))) else b.at' q⟩:Sq Int) else none else kn t9 (IntKind.wrap .i64 (t10+(1:Int))) b else kn t9 (IntKind.wrap .i64 (t10+(1:Int))) b else none else ko b
def lc (n:Nat):Nat→Int→Int→(Sq Int)→Option (Lx ((Sq Int)) Unit)
 | 0,_,_,_=>none
 | m+1,t9,t10,b=>Ng n t9 t10 b (lc n m) (fun a=>some (.out a)) (fun a=>some (.ret a)) (fun p=>some (.pan p))
theorem cJ (n m:Nat) {S:Type}:∀ t9 t10 b (φ:_→Option S),(lc n (m+1) t9 t10 b).bind φ=Ng n t9 t10 b (fun t9 t10 b=>(lc n m t9 t10 b).bind φ) (fun a=>φ (.out a)) (fun a=>φ (.ret a)) (fun p=>φ (.pan p)):=by
  intros;first | (simp only [lc,Ng,ia,ba,iB,bB,oL,oX,nB,Option.bind_some]) | rfl
def aq:List Sl:=.top::.top::.top::.row 0::tp 4 (.row 0::.dat (.int .i64)::.dat (.int .i64)::tp 19 [])
def Zp:List RS:=[.row 5 1 (.int .u8) false true]
def Pz:List Sl:=.top::.top::.top::.row 0::tp 26 []
def Oz:List RS:=[.row 5 1 (.int .u8) false true]
def zf (K:XE→List AV→ja→Option Out):Lx ((Sq Int)) Unit→Option Out:=fun x=>W7 x (fun a=>tj Pz Oz () (a,()) (K (.exit 0))) (fun _=>none) (fun _=>none)
def Rv (n:Nat) {R:Type} (s:BA) (k:BA→Option R):Option R:=(lc n n (s.size:Int) (0:Int) (⟨s.size,fun q=>bt s q⟩:Sq Int)).bind fun x_1=>W7 x_1 (fun a_2=>k (lE a_2.n a_2.at')) (fun _=>none) (fun _=>none)
def Qo (n:Nat) (s:BA):Option BA:=Rv n s some
theorem LP (n:Nat) {S:Type}:∀ s (φ:_→Option S),(Qo n s).bind φ=Rv n s φ:=by
  intros;unfold Qo Rv;first | (simp only [ia,ba,iB,bB,oL,oX,nB,Option.bind_some]) | rfl
def Yl (n:Nat):Hint Out:={ live:=fun c=>(cond (Nat.beq c 0) [(3,some (.sl (.int .u8))),(8,some (.sl (.int .u8))),(9,none),(10,none)] []),run:=fun c=>(cond (Nat.beq c 0) (some (Ds aq Zp fun σ ρ K=>(lc n n σ.1 σ.2.1 ρ.1).bind (zf K))) none),xm:=fun c q=>(cond (Nat.beq c 0&&Nat.beq (q.getD 1000000) 0&&q.isSome) (some [(3,some (.sl (.int .u8)))]) none) }
def Xl (n:Nat) (K:XE→List AV→ja→Option Out) (m:Nat) (t9:Int) (t10:Int) (b:(Sq Int)):Option Out:=Jg tys (da Out (Im n)) (Yl n) n (Ba [1,1,0,1,0,0] (aa Tryz.f242)) 0 aq Zp K m (t9,(t10,())) (b,())
theorem Nz (n:Nat) (K:XE→List AV→ja→Option Out):∀ (m:Nat) t9 t10 b,Xl n K m t9 t10 b=(lc n m t9 t10 b).bind (zf K)
  | 0,_,_,_=>by kernel_rfl
  | m+1,t9,t10,b=>by
    have h1:Xl n K (m+1) t9 t10 b=Ng n t9 t10 b (Xl n K m) (fun a=>zf K (.out a)) (fun a=>zf K (.ret a)) (fun p=>zf K (.pan p)):=by kernel_rfl
    have h2:Xl n K m=fun t9 t10 b=>(lc n m t9 t10 b).bind (zf K):=by
      repeat (refine funext fun _=>?_)
      exact Nz n K m _ _ _
    rw [h1,h2];exact (cJ n m _ _ _ (zf K)).symm
theorem aH (n:Nat):dg tys (da Out (Im n)) (Yl n) n (Ba [1,1,0,1,0,0] (aa Tryz.f242)) 0:=Wa (sp:=aq) (rp:=Zp) (by kernel_rfl) fun K σ ρ=>Nz n K n σ.1 σ.2.1 ρ.1
theorem dJ (n:Nat):ra tys (da Out (Im n)) (Yl n) n (aa Tryz.f242) 0:=⟨trivial,⟨trivial,⟨⟨trivial,⟨aH n,⟨trivial,⟨⟨trivial,trivial⟩,⟨⟨trivial,⟨trivial,⟨trivial,trivial⟩⟩⟩,trivial⟩⟩⟩⟩⟩,⟨trivial,trivial⟩⟩⟩⟩
theorem SK (n:Nat):Enters Tryz.prog 242:=enters_of (c:=aa Tryz.f242) Tryz.func242 (by kernel_rfl) (by kernel_rfl)
def WE (n:Nat):Entry:=⟨242,e8 (.pair .str .unit) (.one .str) (fun xs=>Qo n xs.1),none,none⟩
theorem SM (n:Nat):EntryOk Tryz.prog gl (WE n):=Ca (SK n) fun xs y h=>la tys_ok (lx n) mixed (hint:=Yl n) (n:=n) Tryz.func242 (Va (dJ n)) (pa (φ:=(fun y=>some (Out.ret (me (.one .str) y)))) (by kernel_rfl) (LP n xs.1 _) h)
def jy (n:Nat):List Entry:=WE n::Im n
theorem rx (n:Nat):AllOk Tryz.prog gl (jy n):=.cons (SM n) (lx n)
def dk (n:Nat) {R:Type} (s:BA) (k:Bool→Option R):Option R:=(jd n s (⟨#[91]⟩:BA)).bind fun v=>k v
def ue (n:Nat) (s:BA):Option Bool:=dk n s some
theorem SG (n:Nat) {S:Type}:∀ s (φ:_→Option S),(ue n s).bind φ=dk n s φ:=by
  intros;unfold ue dk;first | (simp only [ia,ba,iB,bB,oL,oX,nB,Option.bind_some]) | rfl
def Lq (n:Nat):Hint Out:={ live:=fun c=>[],run:=fun c=>none,xm:=fun c q=>none }
theorem DB (n:Nat):ra tys (da Out (jy n)) (Lq n) n (aa Tryz.f150) 0:=qa (fun _=>rfl) _ _ (by kernel_rfl)
theorem rD (n:Nat):Enters Tryz.prog 150:=enters_of (c:=aa Tryz.f150) Tryz.func150 (by kernel_rfl) (by kernel_rfl)
def Yt (n:Nat):Entry:=⟨150,e8 (.pair .str .unit) (.one .bool) (fun xs=>ue n xs.1),none,none⟩
theorem Zt (n:Nat):EntryOk Tryz.prog gl (Yt n):=Ca (rD n) fun xs y h=>la tys_ok (rx n) mixed (hint:=Lq n) (n:=n) Tryz.func150 (Va (DB n)) (pa (φ:=(fun y=>some (Out.ret (me (.one .bool) y)))) (by kernel_rfl) (SG n xs.1 _) h)
def Gm (n:Nat):List Entry:=Yt n::jy n
theorem Lo (n:Nat):AllOk Tryz.prog gl (Gm n):=.cons (Zt n) (rx n)
def ik (n:Nat) {R:Type} (s suffix:BA) (k:Bool→Option R):Option R:=if (decide ((s.size:Int)≥(suffix.size:Int)))=true then if 0≤(IntKind.wrap .i64 ((s.size:Int) - (suffix.size:Int)))∧(IntKind.wrap .i64 ((s.size:Int) - (suffix.size:Int)))≤(s.size:Int) then k ((s.extract (Int.toNat (IntKind.wrap .i64 ((s.size:Int) - (suffix.size:Int)))) (Int.toNat (s.size:Int))).toList==suffix.toList) else none else k false
def Fk (n:Nat) (s suffix:BA):Option Bool:=ik n s suffix some
theorem oH (n:Nat) {S:Type}:∀ s suffix (φ:_→Option S),(Fk n s suffix).bind φ=ik n s suffix φ:=by
  intros;unfold Fk ik;first | (simp only [ia,ba,iB,bB,oL,oX,nB,Option.bind_some]) | rfl
def Uq (n:Nat):Hint Out:={ live:=fun c=>[],run:=fun c=>none,xm:=fun c q=>none }
theorem XB (n:Nat):ra tys (da Out (Gm n)) (Uq n) n (aa Tryz.f195) 0:=qa (fun _=>rfl) _ _ (by kernel_rfl)
theorem ED (n:Nat):Enters Tryz.prog 195:=enters_of (c:=aa Tryz.f195) Tryz.func195 (by kernel_rfl) (by kernel_rfl)
def wu (n:Nat):Entry:=⟨195,e8 (.pair .str (.pair .str .unit)) (.one .bool) (fun xs=>Fk n xs.1 xs.2.1),none,none⟩
theorem zF (n:Nat):EntryOk Tryz.prog gl (wu n):=Ca (ED n) fun xs y h=>la tys_ok (Lo n) mixed (hint:=Uq n) (n:=n) Tryz.func195 (Va (XB n)) (pa (φ:=(fun y=>some (Out.ret (me (.one .bool) y)))) (by kernel_rfl) (oH n xs.1 xs.2.1 _) h)
def Wm (n:Nat):List Entry:=wu n::Gm n
theorem bp (n:Nat):AllOk Tryz.prog gl (Wm n):=.cons (zF n) (Lo n)
def xk (n:Nat) {R:Type} (s suffix:BA) (k:Bool→Option R):Option R:=(Fk n s suffix).bind fun v=>k v
def sf (n:Nat) (s suffix:BA):Option Bool:=xk n s suffix some
theorem VH (n:Nat) {S:Type}:∀ s suffix (φ:_→Option S),(sf n s suffix).bind φ=xk n s suffix φ:=by
  intros;unfold sf xk;first | (simp only [ia,ba,iB,bB,oL,oX,nB,Option.bind_some]) | rfl
def Cr (n:Nat):Hint Out:={ live:=fun c=>[],run:=fun c=>none,xm:=fun c q=>none }
theorem FC (n:Nat):ra tys (da Out (Wm n)) (Cr n) n (aa Tryz.f151) 0:=qa (fun _=>rfl) _ _ (by kernel_rfl)
theorem gE (n:Nat):Enters Tryz.prog 151:=enters_of (c:=aa Tryz.f151) Tryz.func151 (by kernel_rfl) (by kernel_rfl)
def Bv (n:Nat):Entry:=⟨151,e8 (.pair .str (.pair .str .unit)) (.one .bool) (fun xs=>sf n xs.1 xs.2.1),none,none⟩
theorem Dv (n:Nat):EntryOk Tryz.prog gl (Bv n):=Ca (gE n) fun xs y h=>la tys_ok (bp n) mixed (hint:=Cr n) (n:=n) Tryz.func151 (Va (FC n)) (pa (φ:=(fun y=>some (Out.ret (me (.one .bool) y)))) (by kernel_rfl) (VH n xs.1 xs.2.1 _) h)
def Cv (n:Nat):List Entry:=Bv n::Wm n
theorem qB (n:Nat):AllOk Tryz.prog gl (Cv n):=.cons (Dv n) (bp n)
theorem UB:Tryz.prog.funcs[250]?=some Tryz.f250:=by kernel_rfl
theorem VB:EntryOk Tryz.prog gl ⟨250,Bt,some (.flat yP),none⟩:=aN UB (by kernel_rfl) (by kernel_rfl) (by kernel_rfl) (by kernel_rfl)
def Rq (n:Nat):List Entry:=⟨250,Bt,some (.flat yP),none⟩::Cv n
theorem Bw (n:Nat):AllOk Tryz.prog gl (Rq n):=.cons VB (qB n)
def sy (n:Nat):List Entry:=⟨238,e8 (.pair .str (.pair .str .unit)) (.one (.int .i64)) (fun xs=>Bx xs.1 xs.2.1),none,none⟩::Rq n
theorem Ax (n:Nat):AllOk Tryz.prog gl (sy n):=.cons IR (Bw n)
def mw (n:Nat) {R:Type} (s substr:BA) (k:Int→Option R):Option R:=(Bx s substr).bind fun v=>k v
def zk (n:Nat) (s substr:BA):Option Int:=mw n s substr some
theorem wQ (n:Nat) {S:Type}:∀ s substr (φ:_→Option S),(zk n s substr).bind φ=mw n s substr φ:=by
  intros;unfold zk mw;first | (simp only [ia,ba,iB,bB,oL,oX,nB,Option.bind_some]) | rfl
def rB (n:Nat):Hint Out:={ live:=fun c=>[],run:=fun c=>none,xm:=fun c q=>none }
theorem oK (n:Nat):ra tys (da Out (sy n)) (rB n) n (aa Tryz.f225) 0:=qa (fun _=>rfl) _ _ (by kernel_rfl)
theorem nM (n:Nat):Enters Tryz.prog 225:=enters_of (c:=aa Tryz.f225) Tryz.func225 (by kernel_rfl) (by kernel_rfl)
def zG (n:Nat):Entry:=⟨225,e8 (.pair .str (.pair .str .unit)) (.one (.int .i64)) (fun xs=>zk n xs.1 xs.2.1),none,none⟩
theorem AG (n:Nat):EntryOk Tryz.prog gl (zG n):=Ca (nM n) fun xs y h=>la tys_ok (Ax n) mixed (hint:=rB n) (n:=n) Tryz.func225 (Va (oK n)) (pa (φ:=(fun y=>some (Out.ret (me (.one (.int .i64)) y)))) (by kernel_rfl) (wQ n xs.1 xs.2.1 _) h)
def wo (n:Nat):List Entry:=zG n::sy n
theorem Wx (n:Nat):AllOk Tryz.prog gl (wo n):=.cons (AG n) (Ax n)
def Qs (n:Nat) {R:Type} (s1 substr1:BA) (n0:Int) (kn:BA→BA→Int→Option R) (ko:Unit→Option R) (kr:(Int)→Option R) (kp:Int→Option R):Option R:=(zk n s1 substr1).bind fun v=>if (v==(-1:Int))=true then kr n0 else if 0≤(IntKind.wrap .i64 (v+(substr1.size:Int)))∧(IntKind.wrap .i64 (v+(substr1.size:Int)))≤(s1.size:Int) then kn (s1.extract (Int.toNat (IntKind.wrap .i64 (v+(substr1.size:Int)))) (Int.toNat (s1.size:Int))) substr1 (IntKind.wrap .i64 (n0+(1:Int))) else none
def eh (n:Nat):Nat→BA→BA→Int→Option (Lx Unit (Int))
 | 0,_,_,_=>none
 | m+1,s1,substr1,n0=>Qs n s1 substr1 n0 (eh n m) (fun a=>some (.out a)) (fun a=>some (.ret a)) (fun p=>some (.pan p))
theorem mK (n m:Nat) {S:Type}:∀ s1 substr1 n0 (φ:_→Option S),(eh n (m+1) s1 substr1 n0).bind φ=Qs n s1 substr1 n0 (fun s1 substr1 n0=>(eh n m s1 substr1 n0).bind φ) (fun a=>φ (.out a)) (fun a=>φ (.ret a)) (fun p=>φ (.pan p)):=by
  intros;first | (simp only [eh,Qs,ia,ba,iB,bB,oL,oX,nB,Option.bind_some]) | rfl
def Dq:List Sl:=.dat .str::.dat .str::.top::.top::.top::.dat (.int .i64)::tp 28 []
def Cq:List RS:=[]
def oB:List Sl:=tp 4 (.dat (.int .i64)::tp 29 [])
def mB:List RS:=[]
def Xf (K:XE→List AV→ja→Option Out):Lx Unit (Int)→Option Out:=fun x=>W7 x (fun _=>none) (fun a=>tj oB mB (a,()) () (K .ret)) (fun _=>none)
def lw (n:Nat) {R:Type} (s substr:BA) (k:Int→Option R):Option R:=if ((substr.size:Int)==(0:Int))=true then none else if ((substr.size:Int)==(1:Int))=true then if 0≤(0:Int)∧(0:Int)<(substr.size:Int) then k ((Lib.countByte s.data.toList (Nat.toUInt8 (Int.toNat (bt substr (0:Int)))):Nat):Int) else none else (eh n n s substr (0:Int)).bind fun x_1=>W7 x_1 (fun _=>none) (fun a_2=>k a_2) (fun _=>none)
def kw (n:Nat) (s substr:BA):Option Int:=lw n s substr some
theorem uQ (n:Nat) {S:Type}:∀ s substr (φ:_→Option S),(kw n s substr).bind φ=lw n s substr φ:=by
  intros;unfold kw lw;first | (simp only [ia,ba,iB,bB,oL,oX,nB,Option.bind_some]) | rfl
def zm (n:Nat):Hint Out:={ live:=fun c=>(cond (Nat.beq c 0) (lv [0,1,5]) []),run:=fun c=>(cond (Nat.beq c 0) (some (Ds Dq Cq fun σ ρ K=>(eh n n σ.1 σ.2.1 σ.2.2.1).bind (Xf K))) none),xm:=fun c q=>(cond (Nat.beq c 1&&q.isNone) (some [(4,none)]) none) }
def ym (n:Nat) (K:XE→List AV→ja→Option Out) (m:Nat) (s1:BA) (substr1:BA) (n0:Int):Option Out:=Jg tys (da Out (wo n)) (zm n) n (Ba [1,1,1,1,0,0] (aa Tryz.f224)) 0 Dq Cq K m (s1,(substr1,(n0,()))) ()
theorem lB (n:Nat) (K:XE→List AV→ja→Option Out):∀ (m:Nat) s1 substr1 n0,ym n K m s1 substr1 n0=(eh n m s1 substr1 n0).bind (Xf K)
  | 0,_,_,_=>by kernel_rfl
  | m+1,s1,substr1,n0=>by
    have h1:ym n K (m+1) s1 substr1 n0=Qs n s1 substr1 n0 (ym n K m) (fun a=>Xf K (.out a)) (fun a=>Xf K (.ret a)) (fun p=>Xf K (.pan p)):=by kernel_rfl
    have h2:ym n K m=fun s1 substr1 n0=>(eh n m s1 substr1 n0).bind (Xf K):=by
      repeat (refine funext fun _=>?_)
      exact lB n K m _ _ _
    rw [h1,h2];exact (mK n m _ _ _ (Xf K)).symm
theorem TH (n:Nat):dg tys (da Out (wo n)) (zm n) n (Ba [1,1,1,1,0,0] (aa Tryz.f224)) 0:=Wa (sp:=Dq) (rp:=Cq) (by kernel_rfl) fun K σ ρ=>lB n K n σ.1 σ.2.1 σ.2.2.1
theorem nK (n:Nat):ra tys (da Out (wo n)) (zm n) n (aa Tryz.f224) 0:=⟨trivial,⟨⟨trivial,⟨⟨trivial,trivial⟩,trivial⟩⟩,⟨⟨trivial,⟨⟨trivial,trivial⟩,trivial⟩⟩,⟨trivial,⟨TH n,⟨trivial,⟨⟨trivial,⟨⟨trivial,trivial⟩,trivial⟩⟩,⟨trivial,trivial⟩⟩⟩⟩⟩⟩⟩⟩
theorem jM (n:Nat):Enters Tryz.prog 224:=enters_of (c:=aa Tryz.f224) Tryz.func224 (by kernel_rfl) (by kernel_rfl)
def vG (n:Nat):Entry:=⟨224,e8 (.pair .str (.pair .str .unit)) (.one (.int .i64)) (fun xs=>kw n xs.1 xs.2.1),none,none⟩
theorem SN (n:Nat):EntryOk Tryz.prog gl (vG n):=Ca (jM n) fun xs y h=>la tys_ok (Wx n) mixed (hint:=zm n) (n:=n) Tryz.func224 (Va (nK n)) (pa (φ:=(fun y=>some (Out.ret (me (.one (.int .i64)) y)))) (by kernel_rfl) (uQ n xs.1 xs.2.1 _) h)
def ro (n:Nat):List Entry:=vG n::wo n
theorem Vx (n:Nat):AllOk Tryz.prog gl (ro n):=.cons (SN n) (Wx n)
def tg (n:Nat) {R:Type} (s1 sep1:BA) (sepSave1 n01 i:Int) (a:(Sq BA)) (kn:BA→BA→Int→Int→Int→(Sq BA)→Option R) (ko:(BA×Int×(Sq BA))→Option R) (kr:Unit→Option R) (kp:Int→Option R):Option R:=if (decide (i<n01))=true then (zk n s1 sep1).bind fun v1=>if (decide (v1<(0:Int)))=true then ko (s1,i,a) else if 0≤(IntKind.wrap .i64 (v1+sepSave1))∧(IntKind.wrap .i64 (v1+sepSave1))≤(s1.size:Int) then if 0≤i∧i<(a.n:Int) then if 0≤(IntKind.wrap .i64 (v1+(sep1.size:Int)))∧(IntKind.wrap .i64 (v1+(sep1.size:Int)))≤(s1.size:Int) then kn (s1.extract (Int.toNat (IntKind.wrap .i64 (v1+(sep1.size:Int)))) (Int.toNat (s1.size:Int))) sep1 sepSave1 n01 (IntKind.wrap .i64 (i+(1:Int))) (⟨a.n,fun q=>if q=(Int.toNat i)∧q<a.n then (s1.extract (Int.toNat (0:Int)) (Int.toNat (IntKind.wrap .i64 (v1+sepSave1)))) else a.at' q⟩:Sq BA) else none else none else none else ko (s1,i,a)
def Nb (n:Nat):Nat→BA→BA→Int→Int→Int→(Sq BA)→Option (Lx (BA×Int×(Sq BA)) Unit)
 | 0,_,_,_,_,_,_=>none
 | m+1,s1,sep1,sepSave1,n01,i,a=>tg n s1 sep1 sepSave1 n01 i a (Nb n m) (fun a=>some (.out a)) (fun a=>some (.ret a)) (fun p=>some (.pan p))
theorem jE (n m:Nat) {S:Type}:∀ s1 sep1 sepSave1 n01 i a (φ:_→Option S),(Nb n (m+1) s1 sep1 sepSave1 n01 i a).bind φ=tg n s1 sep1 sepSave1 n01 i a (fun s1 sep1 sepSave1 n01 i a=>(Nb n m s1 sep1 sepSave1 n01 i a).bind φ) (fun a=>φ (.out a)) (fun a=>φ (.ret a)) (fun p=>φ (.pan p)):=by
  intros;first | (simp only [Nb,tg,ia,ba,iB,bB,oL,oX,nB,Option.bind_some]) | rfl
def ck:List Sl:=.dat .str::.dat .str::.dat (.int .i64)::.dat (.int .i64)::tp 5 (.row 0::.dat (.int .i64)::tp 55 [])
def ak:List RS:=[.row 9 1 .str false false]
def Gv:List Sl:=.dat .str::tp 8 (.row 0::.dat (.int .i64)::tp 55 [])
def Fv:List RS:=[.row 9 1 .str false false]
def td (K:XE→List AV→ja→Option Out):Lx (BA×Int×(Sq BA)) Unit→Option Out:=fun x=>W7 x (fun a=>tj Gv Fv (a.1,(a.2.1,())) (a.2.2,()) (K (.exit 0))) (fun _=>none) (fun _=>none)
def Am (n:Nat) {R:Type} (s sep:BA) (sepSave n0:Int) (k:(Sq BA)→Option R):Option R:=if (n0==(0:Int))=true then k (⟨0,fun _=>Ea .str⟩:Sq BA) else if (sep.toList==(⟨#[]⟩:BA).toList)=true then none else if (decide (n0<(0:Int)))=true then (kw n s sep).bind fun v=>if 0≤(if (IntKind.wrap .i64 ((s.size:Int)+(1:Int)))<(IntKind.wrap .i64 (v+(1:Int))) then (IntKind.wrap .i64 ((s.size:Int)+(1:Int))) else (IntKind.wrap .i64 (v+(1:Int))))∧(if (IntKind.wrap .i64 ((s.size:Int)+(1:Int)))<(IntKind.wrap .i64 (v+(1:Int))) then (IntKind.wrap .i64 ((s.size:Int)+(1:Int))) else (IntKind.wrap .i64 (v+(1:Int))))≤(if (IntKind.wrap .i64 ((s.size:Int)+(1:Int)))<(IntKind.wrap .i64 (v+(1:Int))) then (IntKind.wrap .i64 ((s.size:Int)+(1:Int))) else (IntKind.wrap .i64 (v+(1:Int)))) then if wc (Int.toNat (if (IntKind.wrap .i64 ((s.size:Int)+(1:Int)))<(IntKind.wrap .i64 (v+(1:Int))) then (IntKind.wrap .i64 ((s.size:Int)+(1:Int))) else (IntKind.wrap .i64 (v+(1:Int))))) 16=true then (Nb n n s sep sepSave (IntKind.wrap .i64 ((if (IntKind.wrap .i64 ((s.size:Int)+(1:Int)))<(IntKind.wrap .i64 (v+(1:Int))) then (IntKind.wrap .i64 ((s.size:Int)+(1:Int))) else (IntKind.wrap .i64 (v+(1:Int)))) - (1:Int))) (0:Int) (⟨(Int.toNat (if (IntKind.wrap .i64 ((s.size:Int)+(1:Int)))<(IntKind.wrap .i64 (v+(1:Int))) then (IntKind.wrap .i64 ((s.size:Int)+(1:Int))) else (IntKind.wrap .i64 (v+(1:Int))))),fun _=>(⟨#[]⟩:BA)⟩:Sq BA)).bind fun x_1=>W7 x_1
 (fun a_2=>if 0≤a_2.2.1∧a_2.2.1<(a_2.2.2.n:Int) then if 0≤(IntKind.wrap .i64 (a_2.2.1+(1:Int)))∧(IntKind.wrap .i64 (a_2.2.1+(1:Int)))≤(a_2.2.2.n:Int) then k (⟨((Int.toNat (IntKind.wrap .i64 (a_2.2.1+(1:Int)))) - (Int.toNat (0:Int))),fun j_0=>(fun q=>if q=(Int.toNat a_2.2.1)∧q<a_2.2.2.n then a_2.1 else a_2.2.2.at' q) ((Int.toNat (0:Int))+j_0)⟩:Sq BA) else none else none) (fun _=>none) (fun _=>none) else none else none else if 0≤(if (IntKind.wrap .i64 ((s.size:Int)+(1:Int)))<n0 then (IntKind.wrap .i64 ((s.size:Int)+(1:Int))) else n0)∧(if (IntKind.wrap .i64 ((s.size:Int)+(1:Int)))<n0 then (IntKind.wrap .i64 ((s.size:Int)+(1:Int))) else n0)≤(if (IntKind.wrap .i64 ((s.size:Int)+(1:Int)))<n0 then (IntKind.wrap .i64 ((s.size:Int)+(1:Int))) else n0) then if wc (Int.toNat (if (IntKind.wrap .i64 ((s.size:Int)+(1:Int)))<n0 then (IntKind.wrap .i64 ((s.size:Int)+(1:Int))) else n0)) 16=true then (Nb n n s sep sepSave (IntKind.wrap .i64 ((if (IntKind.wrap .i64 ((s.size:Int)+(1:Int)))<n0 then (IntKind.wrap .i64 ((s.size:Int)+(1:Int))) else n0) - (1:Int))) (0:Int) (⟨(Int.toNat (if (IntKind.wrap .i64 ((s.size:Int)+(1:Int)))<n0 then (IntKind.wrap .i64 ((s.size:Int)+(1:Int))) else n0)),fun _=>(⟨#[]⟩:BA)⟩:Sq BA)).bind fun x_3=>W7 x_3 (fun a_4=>if 0≤a_4.2.1∧a_4.2.1<(a_4.2.2.n:Int) then if 0≤(IntKind.wrap .i64 (a_4.2.1+(1:Int)))∧(IntKind.wrap .i64 (a_4.2.1+(1:Int)))≤(a_4.2.2.n:Int) then
 k (⟨((Int.toNat (IntKind.wrap .i64 (a_4.2.1+(1:Int)))) - (Int.toNat (0:Int))),fun j_0=>(fun q=>if q=(Int.toNat a_4.2.1)∧q<a_4.2.2.n then a_4.1 else a_4.2.2.at' q) ((Int.toNat (0:Int))+j_0)⟩:Sq BA) else none else none) (fun _=>none) (fun _=>none) else none else none
def xo (n:Nat) (s sep:BA) (sepSave n0:Int):Option (Sq BA):=Am n s sep sepSave n0 some
theorem qK (n:Nat) {S:Type}:∀ s sep sepSave n0 (φ:_→Option S),(xo n s sep sepSave n0).bind φ=Am n s sep sepSave n0 φ:=by
  intros;unfold xo Am;first | (simp only [ia,ba,iB,bB,oL,oX,nB,Option.bind_some]) | rfl
def Wh (n:Nat):Hint Out:={ live:=fun c=>(cond (Nat.beq c 0) [(0,none),(1,none),(2,none),(3,none),(9,some (.sl .str)),(10,none)] []),run:=fun c=>(cond (Nat.beq c 0) (some (Ds ck ak fun σ ρ K=>(Nb n n σ.1 σ.2.1 σ.2.2.1 σ.2.2.2.1 σ.2.2.2.2.1 ρ.1).bind (td K))) none),xm:=fun c q=>(cond (Nat.beq c 0&&Nat.beq (q.getD 1000000) 0&&q.isSome) (some [(0,none),(9,some (.sl .str)),(10,none)]) (cond (Nat.beq c 1&&Nat.beq (q.getD 1000000) 0&&q.isSome) (some [(0,none),(9,some (.sl .str)),(10,none)]) none)) }
def Vh (n:Nat) (K:XE→List AV→ja→Option Out) (m:Nat) (s1:BA) (sep1:BA) (sepSave1:Int) (n01:Int) (i:Int) (a:(Sq BA)):Option Out:=Jg tys (da Out (ro n)) (Wh n) n (Ba [1,1,1,1,1,1,1,1,0,0,0] (aa Tryz.f193)) 0 ck ak K m (s1,(sep1,(sepSave1,(n01,(i,()))))) (a,())
theorem Ht (n:Nat) (K:XE→List AV→ja→Option Out):∀ (m:Nat) s1 sep1 sepSave1 n01 i a,Vh n K m s1 sep1 sepSave1 n01 i a=(Nb n m s1 sep1 sepSave1 n01 i a).bind (td K)
  | 0,_,_,_,_,_,_=>by kernel_rfl
  | m+1,s1,sep1,sepSave1,n01,i,a=>by
    have h1:Vh n K (m+1) s1 sep1 sepSave1 n01 i a=tg n s1 sep1 sepSave1 n01 i a (Vh n K m) (fun a=>td K (.out a)) (fun a=>td K (.ret a)) (fun p=>td K (.pan p)):=by kernel_rfl
    have h2:Vh n K m=fun s1 sep1 sepSave1 n01 i a=>(Nb n m s1 sep1 sepSave1 n01 i a).bind (td K):=by
      repeat (refine funext fun _=>?_)
      exact Ht n K m _ _ _ _ _ _
    rw [h1,h2];exact (jE n m _ _ _ _ _ _ (td K)).symm
theorem HC (n:Nat):dg tys (da Out (ro n)) (Wh n) n (Ba [1,1,1,1,1,1,1,1,0,0,0] (aa Tryz.f193)) 0:=Wa (sp:=ck) (rp:=ak) (by kernel_rfl) fun K σ ρ=>Ht n K n σ.1 σ.2.1 σ.2.2.1 σ.2.2.2.1 σ.2.2.2.2.1 ρ.1
theorem kE (n:Nat):ra tys (da Out (ro n)) (Wh n) n (aa Tryz.f193) 0:=⟨trivial,⟨⟨trivial,⟨⟨trivial,trivial⟩,trivial⟩⟩,⟨⟨trivial,⟨⟨trivial,trivial⟩,trivial⟩⟩,⟨⟨trivial,⟨trivial,trivial⟩⟩,⟨trivial,⟨trivial,⟨trivial,⟨trivial,⟨⟨HC n,⟨⟨trivial,⟨trivial,trivial⟩⟩,⟨trivial,⟨⟨trivial,⟨trivial,trivial⟩⟩,⟨trivial,⟨trivial,trivial⟩⟩⟩⟩⟩⟩,⟨trivial,⟨trivial,trivial⟩⟩⟩⟩⟩⟩⟩⟩⟩⟩⟩
theorem DG (n:Nat):Enters Tryz.prog 193:=enters_of (c:=aa Tryz.f193) Tryz.func193 (by kernel_rfl) (by kernel_rfl)
def Xx (n:Nat):Entry:=⟨193,e8 n6 (.one (.sl .str)) (fun xs=>xo n xs.1 xs.2.1 xs.2.2.1 xs.2.2.2.1),none,none⟩
theorem YH (n:Nat):EntryOk Tryz.prog gl (Xx n):=Ca (DG n) fun xs y h=>la tys_ok (Vx n) mixed (hint:=Wh n) (n:=n) Tryz.func193 (Va (kE n)) (pa (φ:=(fun y=>some (Out.ret (me (.one (.sl .str)) y)))) (by kernel_rfl) (qK n xs.1 xs.2.1 xs.2.2.1 xs.2.2.2.1 _) h)
def Fq (n:Nat):List Entry:=Xx n::ro n
theorem Er (n:Nat):AllOk Tryz.prog gl (Fq n):=.cons (YH n) (Vx n)
def ow (n:Nat) {R:Type} (s sep:BA) (k:(Sq BA)→Option R):Option R:=(xo n s sep (0:Int) (-1:Int)).bind fun v=>k v
def nw (n:Nat) (s sep:BA):Option (Sq BA):=ow n s sep some
theorem xQ (n:Nat) {S:Type}:∀ s sep (φ:_→Option S),(nw n s sep).bind φ=ow n s sep φ:=by
  intros;unfold nw ow;first | (simp only [ia,ba,iB,bB,oL,oX,nB,Option.bind_some]) | rfl
def sB (n:Nat):Hint Out:={ live:=fun c=>[],run:=fun c=>none,xm:=fun c q=>none }
theorem pK (n:Nat):ra tys (da Out (Fq n)) (sB n) n (aa Tryz.f149) 0:=qa (fun _=>rfl) _ _ (by kernel_rfl)
theorem oM (n:Nat):Enters Tryz.prog 149:=enters_of (c:=aa Tryz.f149) Tryz.func149 (by kernel_rfl) (by kernel_rfl)
def BG (n:Nat):Entry:=⟨149,e8 (.pair .str (.pair .str .unit)) (.one (.sl .str)) (fun xs=>nw n xs.1 xs.2.1),none,none⟩
theorem UN (n:Nat):EntryOk Tryz.prog gl (BG n):=Ca (oM n) fun xs y h=>la tys_ok (Er n) mixed (hint:=sB n) (n:=n) Tryz.func149 (Va (pK n)) (pa (φ:=(fun y=>some (Out.ret (me (.one (.sl .str)) y)))) (by kernel_rfl) (xQ n xs.1 xs.2.1 _) h)
def CG (n:Nat):List Entry:=BG n::Fq n
theorem XH (n:Nat):AllOk Tryz.prog gl (CG n):=.cons (UN n) (Er n)
def Iv (n:Nat):List Entry:=⟨196,fun {R}=>lS (R:=R) 260,none,none⟩::CG n
theorem tB (n:Nat):AllOk Tryz.prog gl (Iv n):=.cons fW (XH n)
def fh (n:Nat):List Entry:=⟨157,e8 (.pair (.int .i64) .unit) (.one .str) (fun xs=>NR xs.1),none,none⟩::Iv n
theorem Mp (n:Nat):AllOk Tryz.prog gl (fh n):=.cons EW (tB n)
def lh (n:Nat) {R:Type} (l t10:(Sq BA)) (t11 t12:Int) (kn:(Sq BA)→(Sq BA)→Int→Int→Option R) (ko:((Sq BA))→Option R) (kr:(Bool)→Option R) (kp:Int→Option R):Option R:=if (decide (t12<t11))=true then if 0≤t12∧t12<(t10.n:Int) then (ZS (t10.at' (Int.toNat t12))).bind fun v1=>if v1.2=true then if (decide (v1.1<(0:Int)))=false then if (decide (v1.1>(255:Int)))=false then (NR v1.1).bind fun v2=>if (!(v2.toList==(t10.at' (Int.toNat t12)).toList))=true then kr false else kn l t10 t11 (IntKind.wrap .i64 (t12+(1:Int))) else kr false else kr false else kr false else none else ko l
def jc (n:Nat):Nat→(Sq BA)→(Sq BA)→Int→Int→Option (Lx ((Sq BA)) (Bool))
 | 0,_,_,_,_=>none
 | m+1,l,t10,t11,t12=>lh n l t10 t11 t12 (jc n m) (fun a=>some (.out a)) (fun a=>some (.ret a)) (fun p=>some (.pan p))
theorem OE (n m:Nat) {S:Type}:∀ l t10 t11 t12 (φ:_→Option S),(jc n (m+1) l t10 t11 t12).bind φ=lh n l t10 t11 t12 (fun l t10 t11 t12=>(jc n m l t10 t11 t12).bind φ) (fun a=>φ (.out a)) (fun a=>φ (.ret a)) (fun p=>φ (.pan p)):=by
  intros;first | (simp only [jc,lh,ia,ba,iB,bB,oL,oX,nB,Option.bind_some]) | rfl
def cl:List Sl:=.top::.top::.top::.dat (.sl .str)::tp 6 (.dat (.sl .str)::.dat (.int .i64)::.dat (.int .i64)::tp 28 [])
def bl:List RS:=[]
def sw:List Sl:=.top::.top::.top::.dat (.sl .str)::tp 37 []
def qw:List RS:=[]
def ww:List Sl:=.top::.top::.dat .bool::tp 38 []
def uw:List RS:=[]
def Od (K:XE→List AV→ja→Option Out):Lx ((Sq BA)) (Bool)→Option Out:=fun x=>W7 x (fun a=>tj sw qw (a,()) () (K (.exit 0))) (fun a=>tj ww uw (a,()) () (K .ret)) (fun _=>none)
def Oo (n:Nat) {R:Type} (s:BA) (k:Bool→Option R):Option R:=(nw n s (⟨#[46]⟩:BA)).bind fun v=>(jc n n v v (v.n:Int) (0:Int)).bind fun x_1=>W7 x_1 (fun a_2=>k ((a_2.n:Int)==(4:Int))) (fun a_3=>k a_3) (fun _=>none)
def Dj (n:Nat) (s:BA):Option Bool:=Oo n s some
theorem KK (n:Nat) {S:Type}:∀ s (φ:_→Option S),(Dj n s).bind φ=Oo n s φ:=by
  intros;unfold Dj Oo;first | (simp only [ia,ba,iB,bB,oL,oX,nB,Option.bind_some]) | rfl
def wi (n:Nat):Hint Out:={ live:=fun c=>(cond (Nat.beq c 0) [(3,some (.sl .str)),(10,some (.sl .str)),(11,none),(12,none)] []),run:=fun c=>(cond (Nat.beq c 0) (some (Ds cl bl fun σ ρ K=>(jc n n σ.1 σ.2.1 σ.2.2.1 σ.2.2.2.1).bind (Od K))) none),xm:=fun c q=>(cond (Nat.beq c 0&&Nat.beq (q.getD 1000000) 0&&q.isSome) (some [(3,some (.sl .str))]) (cond (Nat.beq c 1&&q.isNone) (some [(2,none)]) none)) }
def ui (n:Nat) (K:XE→List AV→ja→Option Out) (m:Nat) (l:(Sq BA)) (t10:(Sq BA)) (t11:Int) (t12:Int):Option Out:=Jg tys (da Out (fh n)) (wi n) n (Ba [1,1,0,1,0,0] (aa Tryz.f152)) 0 cl bl K m (l,(t10,(t11,(t12,())))) ()
theorem au (n:Nat) (K:XE→List AV→ja→Option Out):∀ (m:Nat) l t10 t11 t12,ui n K m l t10 t11 t12=(jc n m l t10 t11 t12).bind (Od K)
  | 0,_,_,_,_=>by kernel_rfl
  | m+1,l,t10,t11,t12=>by
    have h1:ui n K (m+1) l t10 t11 t12=lh n l t10 t11 t12 (ui n K m) (fun a=>Od K (.out a)) (fun a=>Od K (.ret a)) (fun p=>Od K (.pan p)):=by kernel_rfl
    have h2:ui n K m=fun l t10 t11 t12=>(jc n m l t10 t11 t12).bind (Od K):=by
      repeat (refine funext fun _=>?_)
      exact au n K m _ _ _ _
    rw [h1,h2];exact (OE n m _ _ _ _ (Od K)).symm
theorem sD (n:Nat):dg tys (da Out (fh n)) (wi n) n (Ba [1,1,0,1,0,0] (aa Tryz.f152)) 0:=Wa (sp:=cl) (rp:=bl) (by kernel_rfl) fun K σ ρ=>au n K n σ.1 σ.2.1 σ.2.2.1 σ.2.2.2.1
theorem PE (n:Nat):ra tys (da Out (fh n)) (wi n) n (aa Tryz.f152) 0:=⟨trivial,⟨trivial,⟨⟨trivial,⟨sD n,⟨trivial,⟨⟨trivial,trivial⟩,⟨⟨trivial,⟨trivial,⟨trivial,⟨⟨trivial,trivial⟩,trivial⟩⟩⟩⟩,trivial⟩⟩⟩⟩⟩,⟨trivial,trivial⟩⟩⟩⟩
theorem WG (n:Nat):Enters Tryz.prog 152:=enters_of (c:=aa Tryz.f152) Tryz.func152 (by kernel_rfl) (by kernel_rfl)
def yz (n:Nat):Entry:=⟨152,e8 (.pair .str .unit) (.one .bool) (fun xs=>Dj n xs.1),none,none⟩
theorem zz (n:Nat):EntryOk Tryz.prog gl (yz n):=Ca (WG n) fun xs y h=>la tys_ok (Mp n) mixed (hint:=wi n) (n:=n) Tryz.func152 (Va (PE n)) (pa (φ:=(fun y=>some (Out.ret (me (.one .bool) y)))) (by kernel_rfl) (KK n xs.1 _) h)
def vi (n:Nat):List Entry:=yz n::fh n
theorem Us (n:Nat):AllOk Tryz.prog gl (vi n):=.cons (zz n) (Mp n)
end
end Go.Proofs.YtdhehcnfkcibiaaGreatDoor.AM
