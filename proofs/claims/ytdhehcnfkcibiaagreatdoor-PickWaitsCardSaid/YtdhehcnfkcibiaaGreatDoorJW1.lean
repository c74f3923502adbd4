/- Typed functions that tell what the Go functions of this seat answer, and proofs of it, by program (gen.py). -/
import Derived.Test.YtdhehcnfkcibiaaGreatDoorJW0
set_option linter.all false
set_option linter.unusedVariables false
set_option linter.unusedSimpArgs false
set_option maxRecDepth 1000000
set_option maxHeartbeats 0
namespace Go.Proofs.YtdhehcnfkcibiaaGreatDoor.AM
open Go Go.RowKit
noncomputable section
def Ph (n:Nat) {R:Type} (domain1:BA) (now1:Int) (t10:(Sq T0)) (t11 t12 m01 m02:Int) (m03:Bool) (m04 m05:BA) (m06:(Sq T0)) (m07:BA) (m08:Int) (m09 m010:Bool) (l:(Sq Int)) (kn:BA→Int→(Sq T0)→Int→Int→Int→Int→Bool→BA→BA→(Sq T0)→BA→Int→Bool→Bool→(Sq Int)→Option R) (ko:((Sq Int))→Option R) (kr:Unit→Option R) (kp:Int→Option R):Option R:=
 if (decide (t12<t11))=true then
 if 0≤t12∧t12<(t10.n:Int) then
  if ((((((t10.at' (Int.toNat t12))).1).2).1).toList==domain1.toList)=true then
  (uj n (m01,(m02,(m03,((m04,(m05,())),(m06,(m07,(m08,(m09,(m010,()))))))))) (((((t10.at' (Int.toNat t12))).1).1,(((((t10.at' (Int.toNat t12))).1).2).1,())),((((t10.at' (Int.toNat t12))).2).1,(((((t10.at' (Int.toNat t12))).2).2).1,((((((t10.at' (Int.toNat t12))).2).2).2).1,(((((((t10.at' (Int.toNat t12))).2).2).2).2).1,()))))) now1).bind fun v=>
  if v=true then
   if ld (l.n+1) 8=true then
   kn domain1 now1 t10 t11 (IntKind.wrap .i64 (t12+(1:Int))) m01 m02 m03 m04 m05 m06 m07 m08 m09 m010 (⟨(l.n+1),fun q=>if q<l.n then l.at' q else (fun q=>List.getD (α:=Int) [t12] q (ra (.int .i64))) (q - l.n)⟩:Sq Int)
   else
   none
  else
   kn domain1 now1 t10 t11 (IntKind.wrap .i64 (t12+(1:Int))) m01 m02 m03 m04 m05 m06 m07 m08 m09 m010 l
  else
  kn domain1 now1 t10 t11 (IntKind.wrap .i64 (t12+(1:Int))) m01 m02 m03 m04 m05 m06 m07 m08 m09 m010 l
 else
  none
 else
 ko l
def Dc (n:Nat):Nat→BA→Int→(Sq T0)→Int→Int→Int→Int→Bool→BA→BA→(Sq T0)→BA→Int→Bool→Bool→(Sq Int)→Option (Lx ((Sq Int)) Unit)
 | 0,_,_,_,_,_,_,_,_,_,_,_,_,_,_,_,_=>none
 | m+1,domain1,now1,t10,t11,t12,m01,m02,m03,m04,m05,m06,m07,m08,m09,m010,l=>Ph n domain1 now1 t10 t11 t12 m01 m02 m03 m04 m05 m06 m07 m08 m09 m010 l (Dc n m) (fun a=>some (.out a)) (fun a=>some (.ret a)) (fun p=>some (.pan p))
theorem oB (n m:Nat) {S:Type}:∀ domain1 now1 t10 t11 t12 m01 m02 m03 m04 m05 m06 m07 m08 m09 m010 l (φ:_→Option S),(Dc n (m+1) domain1 now1 t10 t11 t12 m01 m02 m03 m04 m05 m06 m07 m08 m09 m010 l).bind φ=Ph n domain1 now1 t10 t11 t12 m01 m02 m03 m04 m05 m06 m07 m08 m09 m010 l (fun domain1 now1 t10 t11 t12 m01 m02 m03 m04 m05 m06 m07 m08 m09 m010 l=>(Dc n m domain1 now1 t10 t11 t12 m01 m02 m03 m04 m05 m06 m07 m08 m09 m010 l).bind φ) (fun a=>φ (.out a)) (fun a=>φ (.ret a)) (fun p=>φ (.pan p)):=by
 intros;first | (simp only [Dc,Ph,ia,ba,iB,bB,oL,oX,nB,Option.bind_some]) | rfl
def kh:List Sl:=.top::.dat .str::.dat (.int .i64)::.ptr 0 0 0::.top::.top::.row 1::.top::.top::.top::.dat (.sl K0)::.dat (.int .i64)::.dat (.int .i64)::tp 21 []
def jh:List RS:=[.box 59 10 true [.dat (.int .i64),.dat (.int .i64),.dat .bool,.dat .str,.dat .str,.dat (.sl K0),.dat .str,.dat (.int .i64),.dat .bool,.dat .bool],.row 3 1 (.int .i64) true false]
def Ur:List Sl:=tp 6 (.row 0::tp 27 [])
def Tr:List RS:=[.row 3 1 (.int .i64) true false]
def Xb (K:XE→List AV→fa→Option Out):Lx ((Sq Int)) Unit→Option Out:=fun x=>LV x (fun a=>ql Ur Tr () (a,()) (K (.exit 0))) (fun _=>none) (fun _=>none)
def gp (n:Nat) {R:Type} (m0:T1) (domain:BA) (now:Int) (k:(Sq Int)→Option R):Option R:=
 (Dc n n domain now m0.2.2.2.2.1 (m0.2.2.2.2.1.n:Int) (0:Int) m0.1 m0.2.1 m0.2.2.1 m0.2.2.2.1.1 m0.2.2.2.1.2.1 m0.2.2.2.2.1 m0.2.2.2.2.2.1 m0.2.2.2.2.2.2.1 m0.2.2.2.2.2.2.2.1 m0.2.2.2.2.2.2.2.2.1 (⟨0,fun _=>ra (.int .i64)⟩:Sq Int)).bind fun x_1=>LV x_1
 (fun a_2=>
  k a_2)
 (fun _=>none)
 (fun _=>none)
def oe (n:Nat) (m0:T1) (domain:BA) (now:Int):Option (Sq Int):=gp n m0 domain now some
theorem IG (n:Nat) {S:Type}:∀ m0 domain now (φ:_→Option S),(oe n m0 domain now).bind φ=gp n m0 domain now φ:=by
 intros;unfold oe gp;first | (simp only [ia,ba,iB,bB,oL,oX,nB,Option.bind_some]) | rfl
def kf (n:Nat):Hint Out:={ live:=fun c=>(cond (Nat.beq c 0) [(1,none),(2,none),(3,none),(6,some (.sl (.int .i64))),(10,some (.sl K0)),(11,none),(12,none)] []),run:=fun c=>(cond (Nat.beq c 0) (some (sq kh jh fun σ ρ K=>(Dc n n σ.1 σ.2.1 σ.2.2.1 σ.2.2.2.1 σ.2.2.2.2.1 ρ.1.1 ρ.1.2.1 ρ.1.2.2.1 ρ.1.2.2.2.1 ρ.1.2.2.2.2.1 ρ.1.2.2.2.2.2.1 ρ.1.2.2.2.2.2.2.1 ρ.1.2.2.2.2.2.2.2.1 ρ.1.2.2.2.2.2.2.2.2.1 ρ.1.2.2.2.2.2.2.2.2.2.1 ρ.2.1).bind (Xb K))) none),xm:=fun c q=>(cond (Nat.beq c 0&&Nat.beq (q.getD 1000000) 0&&q.isSome) (some [(6,some (.sl (.int .i64)))]) none) }
def jf (n:Nat) (K:XE→List AV→fa→Option Out) (m:Nat) (domain1:BA) (now1:Int) (t10:(Sq T0)) (t11:Int) (t12:Int) (m01:Int) (m02:Int) (m03:Bool) (m04:BA) (m05:BA) (m06:(Sq T0)) (m07:BA) (m08:Int) (m09:Bool) (m010:Bool) (l:(Sq Int)):Option Out:=ze tys (ea Out (bi n)) (kf n) n (Ba [1,0,1,0,0] (aa Tryz.f107)) 0 kh jh K m (domain1,(now1,(t10,(t11,(t12,()))))) ((m01,(m02,(m03,(m04,(m05,(m06,(m07,(m08,(m09,(m010,())))))))))),(l,()))
theorem bq (n:Nat) (K:XE→List AV→fa→Option Out):∀ (m:Nat) domain1 now1 t10 t11 t12 m01 m02 m03 m04 m05 m06 m07 m08 m09 m010 l,jf n K m domain1 now1 t10 t11 t12 m01 m02 m03 m04 m05 m06 m07 m08 m09 m010 l=(Dc n m domain1 now1 t10 t11 t12 m01 m02 m03 m04 m05 m06 m07 m08 m09 m010 l).bind (Xb K)
 | 0,_,_,_,_,_,_,_,_,_,_,_,_,_,_,_,_=>by kernel_rfl
 | m+1,domain1,now1,t10,t11,t12,m01,m02,m03,m04,m05,m06,m07,m08,m09,m010,l=>by
  have h1:jf n K (m+1) domain1 now1 t10 t11 t12 m01 m02 m03 m04 m05 m06 m07 m08 m09 m010 l=Ph n domain1 now1 t10 t11 t12 m01 m02 m03 m04 m05 m06 m07 m08 m09 m010 l (jf n K m) (fun a=>Xb K (.out a)) (fun a=>Xb K (.ret a)) (fun p=>Xb K (.pan p)):=by kernel_rfl
  have h2:jf n K m=fun domain1 now1 t10 t11 t12 m01 m02 m03 m04 m05 m06 m07 m08 m09 m010 l=>(Dc n m domain1 now1 t10 t11 t12 m01 m02 m03 m04 m05 m06 m07 m08 m09 m010 l).bind (Xb K):=by
   repeat (refine funext fun _=>?_)
   exact bq n K m _ _ _ _ _ _ _ _ _ _ _ _ _ _ _ _
  rw [h1,h2];exact (oB n m _ _ _ _ _ _ _ _ _ _ _ _ _ _ _ _ (Xb K)).symm
theorem uz (n:Nat):Wd tys (ea Out (bi n)) (kf n) n (Ba [1,0,1,0,0] (aa Tryz.f107)) 0:=Qa (sp:=kh) (rp:=jh) (by kernel_rfl) fun K σ ρ=>bq n K n σ.1 σ.2.1 σ.2.2.1 σ.2.2.2.1 σ.2.2.2.2.1 ρ.1.1 ρ.1.2.1 ρ.1.2.2.1 ρ.1.2.2.2.1 ρ.1.2.2.2.2.1 ρ.1.2.2.2.2.2.1 ρ.1.2.2.2.2.2.2.1 ρ.1.2.2.2.2.2.2.2.1 ρ.1.2.2.2.2.2.2.2.2.1 ρ.1.2.2.2.2.2.2.2.2.2.1 ρ.2.1
theorem pB (n:Nat):sa tys (ea Out (bi n)) (kf n) n (aa Tryz.f107) 0:=⟨trivial,⟨⟨trivial,⟨uz n,⟨trivial,⟨⟨trivial,trivial⟩,⟨⟨trivial,⟨trivial,⟨trivial,trivial⟩⟩⟩,trivial⟩⟩⟩⟩⟩,⟨trivial,trivial⟩⟩⟩
theorem sD (n:Nat):Enters Tryz.prog 107:=enters_of (c:=aa Tryz.f107) Tryz.func107 (by kernel_rfl) (by kernel_rfl)
def Nm (n:Nat):Entry:=⟨107,RV OU (.one (.sl (.int .i64))) (fun xs=>oe n xs.1 xs.2.1 xs.2.2.1),none,none⟩
theorem zu (n:Nat):EntryOk Tryz.prog gl (Nm n):=
 Ha (sD n) fun xs y h=>qa tys_ok (Sr n) mixed (hint:=kf n) (n:=n) Tryz.func107 (Ra (pB n)) (oa (φ:=(fun y=>some (Out.ret (Od (.one (.sl (.int .i64))) y)))) (by kernel_rfl) (IG n xs.1 xs.2.1 xs.2.2.1 _) h)
def Om (n:Nat):List Entry:=Nm n::bi n
theorem Un (n:Nat):AllOk Tryz.prog gl (Om n):=.cons (zu n) (Sr n)
def Pq (n:Nat) {R:Type} (n0:Int) (k:Int→Option R):Option R:=
 k (IntKind.wrap .i64 (n0+(1000:Int)))
def Jf (n:Nat) (n0:Int):Option Int:=Pq n n0 some
theorem ZH (n:Nat) {S:Type}:∀ n0 (φ:_→Option S),(Jf n n0).bind φ=Pq n n0 φ:=by
 intros;unfold Jf Pq;first | (simp only [ia,ba,iB,bB,oL,oX,nB,Option.bind_some]) | rfl
def Qq (n:Nat):Hint Out:={ live:=fun c=>[],run:=fun c=>none,xm:=fun c q=>none }
theorem QC (n:Nat):sa tys (ea Out (Om n)) (Qq n) n (aa Tryz.f108) 0:=la (fun _=>rfl) _ _ (by kernel_rfl)
theorem qE (n:Nat):Enters Tryz.prog 108:=enters_of (c:=aa Tryz.f108) Tryz.func108 (by kernel_rfl) (by kernel_rfl)
def No (n:Nat):Entry:=⟨108,RV (.pair (.int .i64) .unit) (.one (.int .i64)) (fun xs=>Jf n xs.1),none,none⟩
theorem rx (n:Nat):EntryOk Tryz.prog gl (No n):=
 Ha (qE n) fun xs y h=>qa tys_ok (Un n) mixed (hint:=Qq n) (n:=n) Tryz.func108 (Ra (QC n)) (oa (φ:=(fun y=>some (Out.ret (Od (.one (.int .i64)) y)))) (by kernel_rfl) (ZH n xs.1 _) h)
def fc (n:Nat):List Entry:=No n::Om n
theorem Jp (n:Nat):AllOk Tryz.prog gl (fc n):=.cons (rx n) (Un n)
def To (n:Nat) {R:Type} (hosts1:(Sq T2)) (now1:Int) (t20:(Sq BA)) (t21 t22 s1:Int) (s2:(Sq T1)) (l:(Sq U0)) (costs:(Sq Int)) (seen:(Sq BA)) (kn:(Sq T2)→Int→(Sq BA)→Int→Int→Int→(Sq T1)→(Sq U0)→(Sq Int)→(Sq BA)→Option R) (ko:aV→Option R) (kr:Unit→Option R) (kp:Int→Option R):Option R:=
 if (decide (t22<t21))=true then
 if 0≤t22∧t22<(t20.n:Int) then
  if ib .str (t20.at' (Int.toNat t22))=true then
  kn hosts1 now1 t20 t21 (IntKind.wrap .i64 (t22+(1:Int))) s1 s2 l costs (UB .str seen (t20.at' (Int.toNat t22)))
  else
  none
 else
  none
 else
 ko (hosts1,now1,s1,s2,l,costs,seen)
def ie (n:Nat):Nat→(Sq T2)→Int→(Sq BA)→Int→Int→Int→(Sq T1)→(Sq U0)→(Sq Int)→(Sq BA)→Option (Lx aV Unit)
 | 0,_,_,_,_,_,_,_,_,_,_=>none
 | m+1,hosts1,now1,t20,t21,t22,s1,s2,l,costs,seen=>To n hosts1 now1 t20 t21 t22 s1 s2 l costs seen (ie n m) (fun a=>some (.out a)) (fun a=>some (.ret a)) (fun p=>some (.pan p))
theorem uG (n m:Nat) {S:Type}:∀ hosts1 now1 t20 t21 t22 s1 s2 l costs seen (φ:_→Option S),(ie n (m+1) hosts1 now1 t20 t21 t22 s1 s2 l costs seen).bind φ=To n hosts1 now1 t20 t21 t22 s1 s2 l costs seen (fun hosts1 now1 t20 t21 t22 s1 s2 l costs seen=>(ie n m hosts1 now1 t20 t21 t22 s1 s2 l costs seen).bind φ) (fun a=>φ (.out a)) (fun a=>φ (.ret a)) (fun p=>φ (.pan p)):=by
 intros;first | (simp only [ie,To,ia,ba,iB,bB,oL,oX,nB,Option.bind_some]) | rfl
def qm:List Sl:=.top::.dat (.sl K2)::.top::.dat (.int .i64)::.ptr 0 0 0::.top::.top::.top::.row 1::.row 2::.mp 3::tp 9 (.dat (.sl .str)::.dat (.int .i64)::.dat (.int .i64)::tp 88 [])
def om:List RS:=[.box 24 2 true [.dat (.int .i64),.dat (.sl K3)],.row 33 4 K4 true false,.row 3 1 (.int .i64) true false,.set 148 .str]
def Bx:List Sl:=.top::.dat (.sl K2)::.top::.dat (.int .i64)::.ptr 0 0 0::.top::.top::.top::.row 1::.row 2::.mp 3::tp 100 []
def Ax:List RS:=[.box 24 2 true [.dat (.int .i64),.dat (.sl K3)],.row 33 4 K4 true false,.row 3 1 (.int .i64) true false,.set 148 .str]
def Bd (K:XE→List AV→fa→Option Out):Lx aV Unit→Option Out:=fun x=>LV x (fun a=>ql Bx Ax (a.1,(a.2.1,())) ((a.2.2.1,(a.2.2.2.1,())),(a.2.2.2.2.1,(a.2.2.2.2.2.1,(a.2.2.2.2.2.2,())))) (K (.exit 0))) (fun _=>none) (fun _=>none)
def Vo (n:Nat) {R:Type} (hosts4:(Sq T2)) (now4:Int) (t301:(Sq T1)) (t311 t321:Int) (t37:(Sq T0)) (t38 t39:Int) (l3:(Sq U0)) (costs3:(Sq Int)) (seen3:(Sq BA)) (r31:(Sq Int)) (m0 m01:Int) (m02:Bool) (m03 m04:BA) (m05:(Sq T0)) (m06:BA) (m07:Int) (m08 m09:Bool) (kn:(Sq T2)→Int→(Sq T1)→Int→Int→(Sq T0)→Int→Int→(Sq U0)→(Sq Int)→(Sq BA)→(Sq Int)→Int→Int→Bool→BA→BA→(Sq T0)→BA→Int→Bool→Bool→Option R) (ko:U8→Option R) (kr:Unit→Option R) (kp:Int→Option R):Option R:=
 if (decide (t39<t38))=true then
 if 0≤t39∧t39<(t37.n:Int) then
  (Zh n m01 (((((t37.at' (Int.toNat t39))).1).2).1)).bind fun v=>
  (uj n (m0,(m01,(m02,((m03,(m04,())),(m05,(m06,(m07,(m08,(m09,()))))))))) (((((t37.at' (Int.toNat t39))).1).1,(((((t37.at' (Int.toNat t39))).1).2).1,())),((((t37.at' (Int.toNat t39))).2).1,(((((t37.at' (Int.toNat t39))).2).2).1,((((((t37.at' (Int.toNat t39))).2).2).2).1,(((((((t37.at' (Int.toNat t39))).2).2).2).2).1,()))))) now4).bind fun v1=>
  if (!v1)=false then
  if ib .str v=true then
   if (tF .str seen3 v)=false then
   if 0≤m01∧m01<(4:Int)∧m01<(r31.n:Int) then
    if ((r31.at' (Int.toNat m01))==(32:Int))=false then
    (ai n hosts4 (((((t37.at' (Int.toNat t39))).1).2).1) now4).bind fun v2=>
    if (!v2)=true then
     kn hosts4 now4 t301 t311 t321 t37 t38 (IntKind.wrap .i64 (t39+(1:Int))) l3 costs3 seen3 r31 m0 m01 m02 m03 m04 m05 m06 m07 m08 m09
    else
     if ib .str v=true then
     if 0≤m01∧m01<(4:Int)∧m01<(r31.n:Int) then
      if 0≤m01∧m01<(4:Int)∧m01<(r31.n:Int) then
      (oe n (m0,(m01,(m02,((m03,(m04,())),(m05,(m06,(m07,(m08,(m09,()))))))))) (((((t37.at' (Int.toNat t39))).1).2).1) now4).bind fun v3=>
      if ld (l3.n+1) 56=true then
       (Jf n (m06.size:Int)).bind fun v4=>
       if ld (costs3.n+1) 8=true then
       kn hosts4 now4 t301 t311 t321 t37 t38 (IntKind.wrap .i64 (t39+(1:Int))) (⟨(l3.n+1),fun q=>if q<l3.n then l3.at' q else (fun q=>List.getD (α:=U0) [(m0,(m01,(((((t37.at' (Int.toNat t39))).1).2).1,(v3,()))))] q (ra K4)) (q - l3.n)⟩:Sq U0) (⟨(costs3.n+1),fun q=>if q<costs3.n then costs3.at' q else (fun q=>List.getD (α:=Int) [v4] q (ra (.int .i64))) (q - costs3.n)⟩:Sq Int) (UB .str seen3 v) (⟨r31.n,fun q=>if q=(Int.toNat m01)∧q<r31.n then (IntKind.wrap .i64 ((r31.at' (Int.toNat m01))+(1:Int))) else r31.at' q⟩:Sq Int) m0 m01 m02 m03 m04 m05 m06 m07 m08 m09
       else
       none
      else
       none
      else
      none
     else
      none
     else
     none
    else
    kn hosts4 now4 t301 t311 t321 t37 t38 (IntKind.wrap .i64 (t39+(1:Int))) l3 costs3 seen3 r31 m0 m01 m02 m03 m04 m05 m06 m07 m08 m09
   else
    none
   else
   kn hosts4 now4 t301 t311 t321 t37 t38 (IntKind.wrap .i64 (t39+(1:Int))) l3 costs3 seen3 r31 m0 m01 m02 m03 m04 m05 m06 m07 m08 m09
  else
   none
  else
  kn hosts4 now4 t301 t311 t321 t37 t38 (IntKind.wrap .i64 (t39+(1:Int))) l3 costs3 seen3 r31 m0 m01 m02 m03 m04 m05 m06 m07 m08 m09
 else
  none
 else
 ko (hosts4,now4,t301,t311,t321,l3,costs3,seen3,r31)
def ke (n:Nat):Nat→(Sq T2)→Int→(Sq T1)→Int→Int→(Sq T0)→Int→Int→(Sq U0)→(Sq Int)→(Sq BA)→(Sq Int)→Int→Int→Bool→BA→BA→(Sq T0)→BA→Int→Bool→Bool→Option (Lx U8 Unit)
 | 0,_,_,_,_,_,_,_,_,_,_,_,_,_,_,_,_,_,_,_,_,_,_=>none
 | m+1,hosts4,now4,t301,t311,t321,t37,t38,t39,l3,costs3,seen3,r31,m0,m01,m02,m03,m04,m05,m06,m07,m08,m09=>Vo n hosts4 now4 t301 t311 t321 t37 t38 t39 l3 costs3 seen3 r31 m0 m01 m02 m03 m04 m05 m06 m07 m08 m09 (ke n m) (fun a=>some (.out a)) (fun a=>some (.ret a)) (fun p=>some (.pan p))
theorem wG (n m:Nat) {S:Type}:∀ hosts4 now4 t301 t311 t321 t37 t38 t39 l3 costs3 seen3 r31 m0 m01 m02 m03 m04 m05 m06 m07 m08 m09 (φ:_→Option S),(ke n (m+1) hosts4 now4 t301 t311 t321 t37 t38 t39 l3 costs3 seen3 r31 m0 m01 m02 m03 m04 m05 m06 m07 m08 m09).bind φ=Vo n hosts4 now4 t301 t311 t321 t37 t38 t39 l3 costs3 seen3 r31 m0 m01 m02 m03 m04 m05 m06 m07 m08 m09 (fun hosts4 now4 t301 t311 t321 t37 t38 t39 l3 costs3 seen3 r31 m0 m01 m02 m03 m04 m05 m06 m07 m08 m09=>(ke n m hosts4 now4 t301 t311 t321 t37 t38 t39 l3 costs3 seen3 r31 m0 m01 m02 m03 m04 m05 m06 m07 m08 m09).bind φ) (fun a=>φ (.out a)) (fun a=>φ (.ret a)) (fun p=>φ (.pan p)):=by
 intros;first | (simp only [ke,Vo,ia,ba,iB,bB,oL,oX,nB,Option.bind_some]) | rfl
def um:List Sl:=.top::.dat (.sl K2)::.top::.dat (.int .i64)::tp 4 (.row 0::.row 1::.mp 2::.top::.top::.ptr 3 0 0::.top::.ptr 4 0 0::tp 14 (.dat (.sl K3)::.dat (.int .i64)::.dat (.int .i64)::tp 4 (.dat (.sl K0)::.dat (.int .i64)::.dat (.int .i64)::tp 71 [])))
def tm:List RS:=[.row 33 4 K4 true false,.row 3 1 (.int .i64) true false,.set 148 .str,.row 149 1 (.int .i64) false true,.box 59 10 true [.dat (.int .i64),.dat (.int .i64),.dat .bool,.dat .str,.dat .str,.dat (.sl K0),.dat .str,.dat (.int .i64),.dat .bool,.dat .bool]]
def Ix:List Sl:=.top::.dat (.sl K2)::.top::.dat (.int .i64)::tp 4 (.row 0::.row 1::.mp 2::.top::.top::.ptr 3 0 0::tp 16 (.dat (.sl K3)::.dat (.int .i64)::.dat (.int .i64)::tp 78 []))
def Gx:List RS:=[.row 33 4 K4 true false,.row 3 1 (.int .i64) true false,.set 148 .str,.row 149 1 (.int .i64) false true]
def Dd (K:XE→List AV→fa→Option Out):Lx U8 Unit→Option Out:=fun x=>LV x (fun a=>ql Ix Gx (a.1,(a.2.1,(a.2.2.1,(a.2.2.2.1,(a.2.2.2.2.1,()))))) (a.2.2.2.2.2.1,(a.2.2.2.2.2.2.1,(a.2.2.2.2.2.2.2.1,(a.2.2.2.2.2.2.2.2,())))) (K (.exit 4))) (fun _=>none) (fun _=>none)
def Uo (n:Nat) {R:Type} (hosts3:(Sq T2)) (now3:Int) (t30:(Sq T1)) (t31 t32:Int) (l2:(Sq U0)) (costs2:(Sq Int)) (seen2:(Sq BA)) (r3:(Sq Int)) (kn:(Sq T2)→Int→(Sq T1)→Int→Int→(Sq U0)→(Sq Int)→(Sq BA)→(Sq Int)→Option R) (ko:U5→Option R) (kr:Unit→Option R) (kp:Int→Option R):Option R:=
 if (decide (t32<t31))=true then
 if 0≤t32∧t32<(t30.n:Int) then
  (ke n n hosts3 now3 t30 t31 t32 (((((((t30.at' (Int.toNat t32))).2).2).2).2).1) (((((((((t30.at' (Int.toNat t32))).2).2).2).2).1).n):Int) (0:Int) l2 costs2 seen2 r3 (((t30.at' (Int.toNat t32))).1) ((((t30.at' (Int.toNat t32))).2).1) (((((t30.at' (Int.toNat t32))).2).2).1) (((((((t30.at' (Int.toNat t32))).2).2).2).1).1) ((((((((t30.at' (Int.toNat t32))).2).2).2).1).2).1) (((((((t30.at' (Int.toNat t32))).2).2).2).2).1) ((((((((t30.at' (Int.toNat t32))).2).2).2).2).2).1) (((((((((t30.at' (Int.toNat t32))).2).2).2).2).2).2).1) ((((((((((t30.at' (Int.toNat t32))).2).2).2).2).2).2).2).1) (((((((((((t30.at' (Int.toNat t32))).2).2).2).2).2).2).2).2).1)).bind fun x_1=>LV x_1
  (fun a_2=>
   kn a_2.1 a_2.2.1 a_2.2.2.1 a_2.2.2.2.1 (IntKind.wrap .i64 (a_2.2.2.2.2.1+(1:Int))) a_2.2.2.2.2.2.1 a_2.2.2.2.2.2.2.1 a_2.2.2.2.2.2.2.2.1 a_2.2.2.2.2.2.2.2.2)
  (fun _=>none)
  (fun _=>none)
 else
  none
 else
 ko (l2,costs2)
def je (n:Nat):Nat→(Sq T2)→Int→(Sq T1)→Int→Int→(Sq U0)→(Sq Int)→(Sq BA)→(Sq Int)→Option (Lx U5 Unit)
 | 0,_,_,_,_,_,_,_,_,_=>none
 | m+1,hosts3,now3,t30,t31,t32,l2,costs2,seen2,r3=>Uo n hosts3 now3 t30 t31 t32 l2 costs2 seen2 r3 (je n m) (fun a=>some (.out a)) (fun a=>some (.ret a)) (fun p=>some (.pan p))
theorem vG (n m:Nat) {S:Type}:∀ hosts3 now3 t30 t31 t32 l2 costs2 seen2 r3 (φ:_→Option S),(je n (m+1) hosts3 now3 t30 t31 t32 l2 costs2 seen2 r3).bind φ=Uo n hosts3 now3 t30 t31 t32 l2 costs2 seen2 r3 (fun hosts3 now3 t30 t31 t32 l2 costs2 seen2 r3=>(je n m hosts3 now3 t30 t31 t32 l2 costs2 seen2 r3).bind φ) (fun a=>φ (.out a)) (fun a=>φ (.ret a)) (fun p=>φ (.pan p)):=by
 intros;first | (simp only [je,Uo,ia,ba,iB,bB,oL,oX,nB,Option.bind_some]) | rfl
def sm:List Sl:=.top::.dat (.sl K2)::.top::.dat (.int .i64)::tp 4 (.row 0::.row 1::.mp 2::.top::.top::.ptr 3 0 0::tp 16 (.dat (.sl K3)::.dat (.int .i64)::.dat (.int .i64)::tp 78 []))
def rm:List RS:=[.row 33 4 K4 true false,.row 3 1 (.int .i64) true false,.set 148 .str,.row 149 1 (.int .i64) false true]
def Ex:List Sl:=tp 8 (.row 0::.row 1::tp 101 [])
def Dx:List RS:=[.row 33 4 K4 true false,.row 3 1 (.int .i64) true false]
def Cd (K:XE→List AV→fa→Option Out):Lx U5 Unit→Option Out:=fun x=>LV x (fun a=>ql Ex Dx () (a.1,(a.2,())) (K (.exit 2))) (fun _=>none) (fun _=>none)
def Xy (n:Nat) {R:Type} (s:U7) (hosts:(Sq T2)) (busy:(Sq BA)) (now:Int) (k:U4→Option R):Option R:=
 (ie n n hosts now busy (busy.n:Int) (0:Int) s.1 s.2.1 (⟨0,fun _=>ra K4⟩:Sq U0) (⟨0,fun _=>ra (.int .i64)⟩:Sq Int) (⟨0,fun _=>ra .str⟩:Sq BA)).bind fun x_1=>LV x_1
 (fun a_2=>
  (je n n a_2.1 a_2.2.1 a_2.2.2.2.1 (a_2.2.2.2.1.n:Int) (0:Int) a_2.2.2.2.2.1 a_2.2.2.2.2.2.1 a_2.2.2.2.2.2.2 (⟨4,fun _=>(0:Int)⟩:Sq Int)).bind fun x_3=>LV x_3
  (fun a_4=>
   k (a_4.1,(a_4.2,())))
  (fun _=>none)
  (fun _=>none))
 (fun _=>none)
 (fun _=>none)
def TB (n:Nat) (s:U7) (hosts:(Sq T2)) (busy:(Sq BA)) (now:Int):Option U4:=Xy n s hosts busy now some
theorem pL (n:Nat) {S:Type}:∀ s hosts busy now (φ:_→Option S),(TB n s hosts busy now).bind φ=Xy n s hosts busy now φ:=by
 intros;unfold TB Xy;first | (simp only [ia,ba,iB,bB,oL,oX,nB,Option.bind_some]) | rfl
def Rc (n:Nat):Hint Out:={ live:=fun c=>(cond (Nat.beq c 2) [(1,some (.sl K2)),(3,none),(8,some (.sl K4)),(9,some (.sl (.int .i64))),(10,none),(13,none),(30,some (.sl K3)),(31,none),(32,none)] (cond (Nat.beq c 4) [(1,some (.sl K2)),(3,none),(8,some (.sl K4)),(9,some (.sl (.int .i64))),(10,none),(13,none),(15,none),(30,some (.sl K3)),(31,none),(32,none),(37,some (.sl K0)),(38,none),(39,none)] (cond (Nat.beq c 0) [(1,some (.sl K2)),(3,none),(4,none),(8,some (.sl K4)),(9,some (.sl (.int .i64))),(10,none),(20,some (.sl .str)),(21,none),(22,none)] []))),run:=fun c=>(cond (Nat.beq c 2) (some (sq sm rm fun σ ρ K=>(je n n σ.1 σ.2.1 σ.2.2.1 σ.2.2.2.1 σ.2.2.2.2.1 ρ.1 ρ.2.1 ρ.2.2.1 ρ.2.2.2.1).bind (Cd K))) (cond (Nat.beq c 4) (some (sq um tm fun σ ρ K=>(ke n n σ.1 σ.2.1 σ.2.2.1 σ.2.2.2.1 σ.2.2.2.2.1 σ.2.2.2.2.2.1 σ.2.2.2.2.2.2.1 σ.2.2.2.2.2.2.2.1 ρ.1 ρ.2.1 ρ.2.2.1 ρ.2.2.2.1 ρ.2.2.2.2.1.1 ρ.2.2.2.2.1.2.1 ρ.2.2.2.2.1.2.2.1 ρ.2.2.2.2.1.2.2.2.1 ρ.2.2.2.2.1.2.2.2.2.1 ρ.2.2.2.2.1.2.2.2.2.2.1 ρ.2.2.2.2.1.2.2.2.2.2.2.1 ρ.2.2.2.2.1.2.2.2.2.2.2.2.1 ρ.2.2.2.2.1.2.2.2.2.2.2.2.2.1 ρ.2.2.2.2.1.2.2.2.2.2.2.2.2.2.1).bind (Dd K))) (cond (Nat.beq c 0) (some (sq qm om fun σ ρ K=>(ie n n σ.1 σ.2.1 σ.2.2.1 σ.2.2.2.1 σ.2.2.2.2.1 ρ.1.1 ρ.1.2.1 ρ.2.1 ρ.2.2.1 ρ.2.2.2.1).bind (Bd K))) none))),xm:=fun c q=>(cond (Nat.beq c 2&&Nat.beq (q.getD 1000000) 2&&q.isSome) (some [(8,some (.sl K4)),(9,some (.sl (.int .i64)))]) (cond (Nat.beq c 4&&Nat.beq (q.getD 1000000) 4&&q.isSome) (some [(1,some (.sl K2)),(3,none),(8,some (.sl K4)),(9,some (.sl (.int .i64))),(10,none),(13,none),(30,some (.sl K3)),(31,none),(32,none)]) (cond (Nat.beq c 0&&Nat.beq (q.getD 1000000) 0&&q.isSome) (some [(1,some (.sl K2)),(3,none),(4,none),(8,some (.sl K4)),(9,some (.sl (.int .i64))),(10,none)]) none))),sch:=fun c=>(cond (Nat.beq c 18) (some [(0,0),(1,0),(3,0),(5,0),(6,0),(9,0),(10,0),(12,0),(2,1),(4,1),(7,1),(8,1),(11,1),(13,3),(14,2),(15,2),(16,2),(17,0)]) none) }
def mj (n:Nat) (K:XE→List AV→fa→Option Out) (m:Nat) (hosts1:(Sq T2)) (now1:Int) (t20:(Sq BA)) (t21:Int) (t22:Int) (s1:Int) (s2:(Sq T1)) (l:(Sq U0)) (costs:(Sq Int)) (seen:(Sq BA)):Option Out:=ze tys (ea Out (fc n)) (Rc n) n (Ba [1,1,0,1,0,0] (aa Tryz.f64)) 0 qm om K m (hosts1,(now1,(t20,(t21,(t22,()))))) ((s1,(s2,())),(l,(costs,(seen,()))))
theorem zx (n:Nat) (K:XE→List AV→fa→Option Out):∀ (m:Nat) hosts1 now1 t20 t21 t22 s1 s2 l costs seen,mj n K m hosts1 now1 t20 t21 t22 s1 s2 l costs seen=(ie n m hosts1 now1 t20 t21 t22 s1 s2 l costs seen).bind (Bd K)
 | 0,_,_,_,_,_,_,_,_,_,_=>by kernel_rfl
 | m+1,hosts1,now1,t20,t21,t22,s1,s2,l,costs,seen=>by
  have h1:mj n K (m+1) hosts1 now1 t20 t21 t22 s1 s2 l costs seen=To n hosts1 now1 t20 t21 t22 s1 s2 l costs seen (mj n K m) (fun a=>Bd K (.out a)) (fun a=>Bd K (.ret a)) (fun p=>Bd K (.pan p)):=by kernel_rfl
  have h2:mj n K m=fun hosts1 now1 t20 t21 t22 s1 s2 l costs seen=>(ie n m hosts1 now1 t20 t21 t22 s1 s2 l costs seen).bind (Bd K):=by
   repeat (refine funext fun _=>?_)
   exact zx n K m _ _ _ _ _ _ _ _ _ _
  rw [h1,h2];exact (uG n m _ _ _ _ _ _ _ _ _ _ (Bd K)).symm
theorem vE (n:Nat):Wd tys (ea Out (fc n)) (Rc n) n (Ba [1,1,0,1,0,0] (aa Tryz.f64)) 0:=Qa (sp:=qm) (rp:=om) (by kernel_rfl) fun K σ ρ=>zx n K n σ.1 σ.2.1 σ.2.2.1 σ.2.2.2.1 σ.2.2.2.2.1 ρ.1.1 ρ.1.2.1 ρ.2.1 ρ.2.2.1 ρ.2.2.2.1
def pj (n:Nat) (K:XE→List AV→fa→Option Out) (m:Nat) (hosts4:(Sq T2)) (now4:Int) (t301:(Sq T1)) (t311:Int) (t321:Int) (t37:(Sq T0)) (t38:Int) (t39:Int) (l3:(Sq U0)) (costs3:(Sq Int)) (seen3:(Sq BA)) (r31:(Sq Int)) (m0:Int) (m01:Int) (m02:Bool) (m03:BA) (m04:BA) (m05:(Sq T0)) (m06:BA) (m07:Int) (m08:Bool) (m09:Bool):Option Out:=ze tys (ea Out (fc n)) (Rc n) n (Ba [1,1,1,1,0,1,0,0,1,1,0,0,1,1,0,0] (aa Tryz.f64)) 4 um tm K m (hosts4,(now4,(t301,(t311,(t321,(t37,(t38,(t39,())))))))) (l3,(costs3,(seen3,(r31,((m0,(m01,(m02,(m03,(m04,(m05,(m06,(m07,(m08,(m09,())))))))))),())))))
theorem Fx (n:Nat) (K:XE→List AV→fa→Option Out):∀ (m:Nat) hosts4 now4 t301 t311 t321 t37 t38 t39 l3 costs3 seen3 r31 m0 m01 m02 m03 m04 m05 m06 m07 m08 m09,pj n K m hosts4 now4 t301 t311 t321 t37 t38 t39 l3 costs3 seen3 r31 m0 m01 m02 m03 m04 m05 m06 m07 m08 m09=(ke n m hosts4 now4 t301 t311 t321 t37 t38 t39 l3 costs3 seen3 r31 m0 m01 m02 m03 m04 m05 m06 m07 m08 m09).bind (Dd K)
 | 0,_,_,_,_,_,_,_,_,_,_,_,_,_,_,_,_,_,_,_,_,_,_=>by kernel_rfl
 | m+1,hosts4,now4,t301,t311,t321,t37,t38,t39,l3,costs3,seen3,r31,m0,m01,m02,m03,m04,m05,m06,m07,m08,m09=>by
  have h1:pj n K (m+1) hosts4 now4 t301 t311 t321 t37 t38 t39 l3 costs3 seen3 r31 m0 m01 m02 m03 m04 m05 m06 m07 m08 m09=Vo n hosts4 now4 t301 t311 t321 t37 t38 t39 l3 costs3 seen3 r31 m0 m01 m02 m03 m04 m05 m06 m07 m08 m09 (pj n K m) (fun a=>Dd K (.out a)) (fun a=>Dd K (.ret a)) (fun p=>Dd K (.pan p)):=by kernel_rfl
  have h2:pj n K m=fun hosts4 now4 t301 t311 t321 t37 t38 t39 l3 costs3 seen3 r31 m0 m01 m02 m03 m04 m05 m06 m07 m08 m09=>(ke n m hosts4 now4 t301 t311 t321 t37 t38 t39 l3 costs3 seen3 r31 m0 m01 m02 m03 m04 m05 m06 m07 m08 m09).bind (Dd K):=by
   repeat (refine funext fun _=>?_)
   exact Fx n K m _ _ _ _ _ _ _ _ _ _ _ _ _ _ _ _ _ _ _ _ _ _
  rw [h1,h2];exact (wG n m _ _ _ _ _ _ _ _ _ _ _ _ _ _ _ _ _ _ _ _ _ _ (Dd K)).symm
theorem xE (n:Nat):Wd tys (ea Out (fc n)) (Rc n) n (Ba [1,1,1,1,0,1,0,0,1,1,0,0,1,1,0,0] (aa Tryz.f64)) 4:=Qa (sp:=um) (rp:=tm) (by kernel_rfl) fun K σ ρ=>Fx n K n σ.1 σ.2.1 σ.2.2.1 σ.2.2.2.1 σ.2.2.2.2.1 σ.2.2.2.2.2.1 σ.2.2.2.2.2.2.1 σ.2.2.2.2.2.2.2.1 ρ.1 ρ.2.1 ρ.2.2.1 ρ.2.2.2.1 ρ.2.2.2.2.1.1 ρ.2.2.2.2.1.2.1 ρ.2.2.2.2.1.2.2.1 ρ.2.2.2.2.1.2.2.2.1 ρ.2.2.2.2.1.2.2.2.2.1 ρ.2.2.2.2.1.2.2.2.2.2.1 ρ.2.2.2.2.1.2.2.2.2.2.2.1 ρ.2.2.2.2.1.2.2.2.2.2.2.2.1 ρ.2.2.2.2.1.2.2.2.2.2.2.2.2.1 ρ.2.2.2.2.1.2.2.2.2.2.2.2.2.2.1
def nj (n:Nat) (K:XE→List AV→fa→Option Out) (m:Nat) (hosts3:(Sq T2)) (now3:Int) (t30:(Sq T1)) (t31:Int) (t32:Int) (l2:(Sq U0)) (costs2:(Sq Int)) (seen2:(Sq BA)) (r3:(Sq Int)):Option Out:=ze tys (ea Out (fc n)) (Rc n) n (Ba [1,1,1,1,0,1,0,0] (aa Tryz.f64)) 2 sm rm K m (hosts3,(now3,(t30,(t31,(t32,()))))) (l2,(costs2,(seen2,(r3,()))))
theorem Cx (n:Nat) (K:XE→List AV→fa→Option Out):∀ (m:Nat) hosts3 now3 t30 t31 t32 l2 costs2 seen2 r3,nj n K m hosts3 now3 t30 t31 t32 l2 costs2 seen2 r3=(je n m hosts3 now3 t30 t31 t32 l2 costs2 seen2 r3).bind (Cd K)
 | 0,_,_,_,_,_,_,_,_,_=>by kernel_rfl
 | m+1,hosts3,now3,t30,t31,t32,l2,costs2,seen2,r3=>by
  have h1:nj n K (m+1) hosts3 now3 t30 t31 t32 l2 costs2 seen2 r3=Uo n hosts3 now3 t30 t31 t32 l2 costs2 seen2 r3 (nj n K m) (fun a=>Cd K (.out a)) (fun a=>Cd K (.ret a)) (fun p=>Cd K (.pan p)):=by kernel_rfl
  have h2:nj n K m=fun hosts3 now3 t30 t31 t32 l2 costs2 seen2 r3=>(je n m hosts3 now3 t30 t31 t32 l2 costs2 seen2 r3).bind (Cd K):=by
   repeat (refine funext fun _=>?_)
   exact Cx n K m _ _ _ _ _ _ _ _ _
  rw [h1,h2];exact (vG n m _ _ _ _ _ _ _ _ _ (Cd K)).symm
theorem wE (n:Nat):Wd tys (ea Out (fc n)) (Rc n) n (Ba [1,1,1,1,0,1,0,0] (aa Tryz.f64)) 2:=Qa (sp:=sm) (rp:=rm) (by kernel_rfl) fun K σ ρ=>Cx n K n σ.1 σ.2.1 σ.2.2.1 σ.2.2.2.1 σ.2.2.2.2.1 ρ.1 ρ.2.1 ρ.2.2.1 ρ.2.2.2.1
theorem xG (n:Nat):sa tys (ea Out (fc n)) (Rc n) n (aa Tryz.f64) 0:=⟨trivial,⟨trivial,⟨⟨trivial,⟨vE n,⟨trivial,⟨⟨trivial,trivial⟩,⟨⟨trivial,trivial⟩,trivial⟩⟩⟩⟩⟩,⟨trivial,⟨⟨trivial,⟨wE n,⟨trivial,⟨⟨trivial,trivial⟩,⟨⟨trivial,⟨trivial,⟨xE n,⟨trivial,⟨⟨trivial,trivial⟩,⟨⟨trivial,⟨trivial,⟨⟨trivial,⟨trivial,trivial⟩⟩,⟨trivial,⟨trivial,⟨trivial,trivial⟩⟩⟩⟩⟩⟩,trivial⟩⟩⟩⟩⟩⟩,trivial⟩⟩⟩⟩⟩,⟨trivial,trivial⟩⟩⟩⟩⟩⟩
theorem fI (n:Nat):Enters Tryz.prog 64:=enters_of (c:=aa Tryz.f64) Tryz.func64 (by kernel_rfl) (by kernel_rfl)
def wv (n:Nat):Entry:=⟨64,RV QU (.many PU) (fun xs=>TB n xs.1 xs.2.1 xs.2.2.1 xs.2.2.2.1),none,none⟩
theorem ZC (n:Nat):EntryOk Tryz.prog gl (wv n):=
 Ha (fI n) fun xs y h=>qa tys_ok (Jp n) mixed (hint:=Rc n) (n:=n) Tryz.func64 (Ra (xG n)) (oa (φ:=(fun y=>some (Out.ret (Od (.many PU) y)))) (by kernel_rfl) (pL n xs.1 xs.2.1 xs.2.2.1 xs.2.2.2.1 _) h)
def xv (n:Nat):List Entry:=wv n::fc n
theorem nu (n:Nat):AllOk Tryz.prog gl (xv n):=.cons (ZC n) (Jp n)
def zv (n:Nat) {R:Type} (s:U7) (hosts:(Sq T2)) (busy:(Sq BA)) (now:Int) (k:((Sq U0)×(Sq Int)×Int×Unit)→Option R):Option R:=
 (wi n (s.1,(s.2.1,()))).bind fun v=>
 if (!v)=false then
 (Tc n hosts).bind fun v1=>
 if (!v1)=false then
  (ci n now).bind fun v2=>
  if (!v2)=true then
  k ((⟨0,fun _=>ra K4⟩:Sq U0),((⟨0,fun _=>ra (.int .i64)⟩:Sq Int),((1:Int),())))
  else
  (TB n (s.1,(s.2.1,())) hosts busy now).bind fun v3=>
  k (v3.1,(v3.2.1,((0:Int),())))
 else
  k ((⟨0,fun _=>ra K4⟩:Sq U0),((⟨0,fun _=>ra (.int .i64)⟩:Sq Int),((1:Int),())))
 else
 k ((⟨0,fun _=>ra K4⟩:Sq U0),((⟨0,fun _=>ra (.int .i64)⟩:Sq Int),((1:Int),())))
def oD (n:Nat) (s:U7) (hosts:(Sq T2)) (busy:(Sq BA)) (now:Int):Option ((Sq U0)×(Sq Int)×Int×Unit):=zv n s hosts busy now some
theorem tJ (n:Nat) {S:Type}:∀ s hosts busy now (φ:_→Option S),(oD n s hosts busy now).bind φ=zv n s hosts busy now φ:=by
 intros;unfold oD zv;first | (simp only [ia,ba,iB,bB,oL,oX,nB,Option.bind_some]) | rfl
def vu (n:Nat):Hint Out:={ live:=fun c=>[],run:=fun c=>none,xm:=fun c q=>none }
theorem zE (n:Nat):sa tys (ea Out (xv n)) (vu n) n (aa Tryz.f17) 0:=la (fun _=>rfl) _ _ (by kernel_rfl)
theorem EG (n:Nat):Enters Tryz.prog 17:=enters_of (c:=aa Tryz.f17) Tryz.func17 (by kernel_rfl) (by kernel_rfl)
def Gr (n:Nat):Entry:=⟨17,RV QU (.many RU) (fun xs=>oD n xs.1 xs.2.1 xs.2.2.1 xs.2.2.2.1),none,none⟩
theorem kA (n:Nat):EntryOk Tryz.prog gl (Gr n):=
 Ha (EG n) fun xs y h=>qa tys_ok (nu n) mixed (hint:=vu n) (n:=n) Tryz.func17 (Ra (zE n)) (oa (φ:=(fun y=>some (Out.ret (Od (.many RU) y)))) (by kernel_rfl) (tJ n xs.1 xs.2.1 xs.2.2.1 xs.2.2.2.1 _) h)
def Sc (n:Nat):List Entry:=Gr n::xv n
theorem Hr (n:Nat):AllOk Tryz.prog gl (Sc n):=.cons (kA n) (nu n)
def zh (n:Nat) {R:Type} (now1 t21 t22:Int) (hosts:(Sq T2)) (s1:Int) (l:(Sq U0)) (costs:(Sq Int)) (seen t20:(Sq BA)) (r6:(Sq T1)) (kn:Int→Int→Int→(Sq T2)→Int→(Sq U0)→(Sq Int)→(Sq BA)→(Sq BA)→(Sq T1)→Option R) (ko:U2→Option R) (kr:Unit→Option R) (kp:Int→Option R):Option R:=
 if (decide (t22<t21))=true then
 if 0≤t22∧t22<(t20.n:Int) then
  if ib .str (t20.at' (Int.toNat t22))=true then
  kn now1 t21 (IntKind.wrap .i64 (t22+(1:Int))) hosts s1 l costs (UB .str seen (t20.at' (Int.toNat t22))) t20 r6
  else
  none
 else
  none
 else
 ko (now1,hosts,s1,l,costs,seen,r6)
def mc (n:Nat):Nat→Int→Int→Int→(Sq T2)→Int→(Sq U0)→(Sq Int)→(Sq BA)→(Sq BA)→(Sq T1)→Option (Lx U2 Unit)
 | 0,_,_,_,_,_,_,_,_,_,_=>none
 | m+1,now1,t21,t22,hosts,s1,l,costs,seen,t20,r6=>zh n now1 t21 t22 hosts s1 l costs seen t20 r6 (mc n m) (fun a=>some (.out a)) (fun a=>some (.ret a)) (fun p=>some (.pan p))
theorem HA (n m:Nat) {S:Type}:∀ now1 t21 t22 hosts s1 l costs seen t20 r6 (φ:_→Option S),(mc n (m+1) now1 t21 t22 hosts s1 l costs seen t20 r6).bind φ=zh n now1 t21 t22 hosts s1 l costs seen t20 r6 (fun now1 t21 t22 hosts s1 l costs seen t20 r6=>(mc n m now1 t21 t22 hosts s1 l costs seen t20 r6).bind φ) (fun a=>φ (.out a)) (fun a=>φ (.ret a)) (fun p=>φ (.pan p)):=by
 intros;first | (simp only [mc,zh,ia,ba,iB,bB,oL,oX,nB,Option.bind_some]) | rfl
def Gg:List Sl:=.top::.row 0::.top::.dat (.int .i64)::.ptr 1 0 0::.top::.top::.top::.row 2::.row 3::.mp 4::tp 9 (.row 5::.dat (.int .i64)::.dat (.int .i64)::tp 88 [])
def Fg:List RS:=[.row 70 6 K2 true false,.box 24 2 false [.dat (.int .i64),.row 6],.row 33 4 K4 true false,.row 3 1 (.int .i64) true false,.set 148 .str,.row 9 1 .str true false,.row 59 10 K3 false false,.ghost [.top,.top,.top,.top]]
def Zq:List Sl:=.top::.row 0::.top::.dat (.int .i64)::.ptr 1 0 0::.top::.top::.top::.row 2::.row 3::.mp 4::tp 100 []
def Yq:List RS:=[.row 70 6 K2 true false,.box 24 2 false [.dat (.int .i64),.row 5],.row 33 4 K4 true false,.row 3 1 (.int .i64) true false,.set 148 .str,.row 59 10 K3 false false,.ghost [.top,.top,.top,.top]]
def Lb (K:XE→List AV→fa→Option OutS):Lx U2 Unit→Option OutS:=fun x=>LV x (fun a=>ql Zq Yq (a.1,()) (a.2.1,((a.2.2.1,()),(a.2.2.2.1,(a.2.2.2.2.1,(a.2.2.2.2.2.1,(a.2.2.2.2.2.2,((),()))))))) (K (.exit 0))) (fun _=>none) (fun _=>none)
def Bh (n:Nat) {R:Type} (now4 t311 t321:Int) (t37:(Sq T0)) (t38 t39:Int) (hosts3:(Sq T2)) (l3:(Sq U0)) (costs3:(Sq Int)) (seen3:(Sq BA)) (r41:(Sq Int)) (m0 m01:Int) (m02:Bool) (m03 m04:BA) (m05:(Sq T0)) (m06:BA) (m07:Int) (m08 m09:Bool) (t301:(Sq T1)) (kn:Int→Int→Int→(Sq T0)→Int→Int→(Sq T2)→(Sq U0)→(Sq Int)→(Sq BA)→(Sq Int)→Int→Int→Bool→BA→BA→(Sq T0)→BA→Int→Bool→Bool→(Sq T1)→Option R) (ko:U1→Option R) (kr:Unit→Option R) (kp:Int→Option R):Option R:=
 if (decide (t39<t38))=true then
 if 0≤t39∧t39<(t37.n:Int) then
  (Zh n m01 (((((t37.at' (Int.toNat t39))).1).2).1)).bind fun v=>
  (uj n (m0,(m01,(m02,((m03,(m04,())),(m05,(m06,(m07,(m08,(m09,()))))))))) (((((t37.at' (Int.toNat t39))).1).1,(((((t37.at' (Int.toNat t39))).1).2).1,())),((((t37.at' (Int.toNat t39))).2).1,(((((t37.at' (Int.toNat t39))).2).2).1,((((((t37.at' (Int.toNat t39))).2).2).2).1,(((((((t37.at' (Int.toNat t39))).2).2).2).2).1,()))))) now4).bind fun v1=>
  if (!v1)=false then
  if ib .str v=true then
   if (tF .str seen3 v)=false then
   if 0≤m01∧m01<(4:Int)∧m01<(r41.n:Int) then
    if ((r41.at' (Int.toNat m01))==(32:Int))=false then
    (ai n hosts3 (((((t37.at' (Int.toNat t39))).1).2).1) now4).bind fun v2=>
    if (!v2)=true then
     kn now4 t311 t321 t37 t38 (IntKind.wrap .i64 (t39+(1:Int))) hosts3 l3 costs3 seen3 r41 m0 m01 m02 m03 m04 m05 m06 m07 m08 m09 t301
    else
     if ib .str v=true then
     if 0≤m01∧m01<(4:Int)∧m01<(r41.n:Int) then
      if 0≤m01∧m01<(4:Int)∧m01<(r41.n:Int) then
      (oe n (m0,(m01,(m02,((m03,(m04,())),(m05,(m06,(m07,(m08,(m09,()))))))))) (((((t37.at' (Int.toNat t39))).1).2).1) now4).bind fun v3=>
      if ld (l3.n+1) 56=true then
       (Jf n (m06.size:Int)).bind fun v4=>
       if ld (costs3.n+1) 8=true then
       kn now4 t311 t321 t37 t38 (IntKind.wrap .i64 (t39+(1:Int))) hosts3 (⟨(l3.n+1),fun q=>if q<l3.n then l3.at' q else (fun q=>List.getD (α:=U0) [(m0,(m01,(((((t37.at' (Int.toNat t39))).1).2).1,(v3,()))))] q (ra K4)) (q - l3.n)⟩:Sq U0) (⟨(costs3.n+1),fun q=>if q<costs3.n then costs3.at' q else (fun q=>List.getD (α:=Int) [v4] q (ra (.int .i64))) (q - costs3.n)⟩:Sq Int) (UB .str seen3 v) (⟨r41.n,fun q=>if q=(Int.toNat m01)∧q<r41.n then (IntKind.wrap .i64 ((r41.at' (Int.toNat m01))+(1:Int))) else r41.at' q⟩:Sq Int) m0 m01 m02 m03 m04 m05 m06 m07 m08 m09 t301
       else
       none
      else
       none
      else
      none
     else
      none
     else
     none
    else
    kn now4 t311 t321 t37 t38 (IntKind.wrap .i64 (t39+(1:Int))) hosts3 l3 costs3 seen3 r41 m0 m01 m02 m03 m04 m05 m06 m07 m08 m09 t301
   else
    none
   else
   kn now4 t311 t321 t37 t38 (IntKind.wrap .i64 (t39+(1:Int))) hosts3 l3 costs3 seen3 r41 m0 m01 m02 m03 m04 m05 m06 m07 m08 m09 t301
  else
   none
  else
  kn now4 t311 t321 t37 t38 (IntKind.wrap .i64 (t39+(1:Int))) hosts3 l3 costs3 seen3 r41 m0 m01 m02 m03 m04 m05 m06 m07 m08 m09 t301
 else
  none
 else
 ko (now4,t311,t321,hosts3,l3,costs3,seen3,r41,t301)
def qc (n:Nat):Nat→Int→Int→Int→(Sq T0)→Int→Int→(Sq T2)→(Sq U0)→(Sq Int)→(Sq BA)→(Sq Int)→Int→Int→Bool→BA→BA→(Sq T0)→BA→Int→Bool→Bool→(Sq T1)→Option (Lx U1 Unit)
 | 0,_,_,_,_,_,_,_,_,_,_,_,_,_,_,_,_,_,_,_,_,_,_=>none
 | m+1,now4,t311,t321,t37,t38,t39,hosts3,l3,costs3,seen3,r41,m0,m01,m02,m03,m04,m05,m06,m07,m08,m09,t301=>Bh n now4 t311 t321 t37 t38 t39 hosts3 l3 costs3 seen3 r41 m0 m01 m02 m03 m04 m05 m06 m07 m08 m09 t301 (qc n m) (fun a=>some (.out a)) (fun a=>some (.ret a)) (fun p=>some (.pan p))
theorem JA (n m:Nat) {S:Type}:∀ now4 t311 t321 t37 t38 t39 hosts3 l3 costs3 seen3 r41 m0 m01 m02 m03 m04 m05 m06 m07 m08 m09 t301 (φ:_→Option S),(qc n (m+1) now4 t311 t321 t37 t38 t39 hosts3 l3 costs3 seen3 r41 m0 m01 m02 m03 m04 m05 m06 m07 m08 m09 t301).bind φ=Bh n now4 t311 t321 t37 t38 t39 hosts3 l3 costs3 seen3 r41 m0 m01 m02 m03 m04 m05 m06 m07 m08 m09 t301 (fun now4 t311 t321 t37 t38 t39 hosts3 l3 costs3 seen3 r41 m0 m01 m02 m03 m04 m05 m06 m07 m08 m09 t301=>(qc n m now4 t311 t321 t37 t38 t39 hosts3 l3 costs3 seen3 r41 m0 m01 m02 m03 m04 m05 m06 m07 m08 m09 t301).bind φ) (fun a=>φ (.out a)) (fun a=>φ (.ret a)) (fun p=>φ (.pan p)):=by
 intros;first | (simp only [qc,Bh,ia,ba,iB,bB,oL,oX,nB,Option.bind_some]) | rfl
def Kg:List Sl:=.top::.row 0::.top::.dat (.int .i64)::tp 4 (.row 1::.row 2::.mp 3::.top::.top::.ptr 4 0 0::.top::.ptr 5 0 0::tp 14 (.row 6::.dat (.int .i64)::.dat (.int .i64)::tp 4 (.dat (.sl K0)::.dat (.int .i64)::.dat (.int .i64)::tp 71 [])))
def Jg:List RS:=[.row 70 6 K2 true false,.row 33 4 K4 true false,.row 3 1 (.int .i64) true false,.set 148 .str,.row 149 1 (.int .i64) false true,.box 59 10 true [.dat (.int .i64),.dat (.int .i64),.dat .bool,.dat .str,.dat .str,.dat (.sl K0),.dat .str,.dat (.int .i64),.dat .bool,.dat .bool],.row 59 10 K3 false false,.ghost [.top,.top,.top,.top]]
def er:List Sl:=.top::.row 0::.top::.dat (.int .i64)::tp 4 (.row 1::.row 2::.mp 3::.top::.top::.ptr 4 0 0::tp 16 (.row 5::.dat (.int .i64)::.dat (.int .i64)::tp 78 []))
def dr:List RS:=[.row 70 6 K2 true false,.row 33 4 K4 true false,.row 3 1 (.int .i64) true false,.set 148 .str,.row 149 1 (.int .i64) false true,.row 59 10 K3 false false,.ghost [.top,.top,.top,.top]]
def Nb (K:XE→List AV→fa→Option OutS):Lx U1 Unit→Option OutS:=fun x=>LV x (fun a=>ql er dr (a.1,(a.2.1,(a.2.2.1,()))) (a.2.2.2.1,(a.2.2.2.2.1,(a.2.2.2.2.2.1,(a.2.2.2.2.2.2.1,(a.2.2.2.2.2.2.2.1,(a.2.2.2.2.2.2.2.2,((),()))))))) (K (.exit 4))) (fun _=>none) (fun _=>none)
def Ah (n:Nat) {R:Type} (now3 t31 t32:Int) (hosts2:(Sq T2)) (l2:(Sq U0)) (costs2:(Sq Int)) (seen2:(Sq BA)) (r4:(Sq Int)) (t30:(Sq T1)) (kn:Int→Int→Int→(Sq T2)→(Sq U0)→(Sq Int)→(Sq BA)→(Sq Int)→(Sq T1)→Option R) (ko:U5→Option R) (kr:Unit→Option R) (kp:Int→Option R):Option R:=
 if (decide (t32<t31))=true then
 if 0≤t32∧t32<(t30.n:Int) then
  (qc n n now3 t31 t32 (((((((t30.at' (Int.toNat t32))).2).2).2).2).1) (((((((((t30.at' (Int.toNat t32))).2).2).2).2).1).n):Int) (0:Int) hosts2 l2 costs2 seen2 r4 (((t30.at' (Int.toNat t32))).1) ((((t30.at' (Int.toNat t32))).2).1) (((((t30.at' (Int.toNat t32))).2).2).1) (((((((t30.at' (Int.toNat t32))).2).2).2).1).1) ((((((((t30.at' (Int.toNat t32))).2).2).2).1).2).1) (((((((t30.at' (Int.toNat t32))).2).2).2).2).1) ((((((((t30.at' (Int.toNat t32))).2).2).2).2).2).1) (((((((((t30.at' (Int.toNat t32))).2).2).2).2).2).2).1) ((((((((((t30.at' (Int.toNat t32))).2).2).2).2).2).2).2).1) (((((((((((t30.at' (Int.toNat t32))).2).2).2).2).2).2).2).2).1) t30).bind fun x_1=>LV x_1
  (fun a_2=>
   kn a_2.1 a_2.2.1 (IntKind.wrap .i64 (a_2.2.2.1+(1:Int))) a_2.2.2.2.1 a_2.2.2.2.2.1 a_2.2.2.2.2.2.1 a_2.2.2.2.2.2.2.1 a_2.2.2.2.2.2.2.2.1 a_2.2.2.2.2.2.2.2.2)
  (fun _=>none)
  (fun _=>none)
 else
  none
 else
 ko (l2,costs2)
def nc (n:Nat):Nat→Int→Int→Int→(Sq T2)→(Sq U0)→(Sq Int)→(Sq BA)→(Sq Int)→(Sq T1)→Option (Lx U5 Unit)
 | 0,_,_,_,_,_,_,_,_,_=>none
 | m+1,now3,t31,t32,hosts2,l2,costs2,seen2,r4,t30=>Ah n now3 t31 t32 hosts2 l2 costs2 seen2 r4 t30 (nc n m) (fun a=>some (.out a)) (fun a=>some (.ret a)) (fun p=>some (.pan p))
theorem IA (n m:Nat) {S:Type}:∀ now3 t31 t32 hosts2 l2 costs2 seen2 r4 t30 (φ:_→Option S),(nc n (m+1) now3 t31 t32 hosts2 l2 costs2 seen2 r4 t30).bind φ=Ah n now3 t31 t32 hosts2 l2 costs2 seen2 r4 t30 (fun now3 t31 t32 hosts2 l2 costs2 seen2 r4 t30=>(nc n m now3 t31 t32 hosts2 l2 costs2 seen2 r4 t30).bind φ) (fun a=>φ (.out a)) (fun a=>φ (.ret a)) (fun p=>φ (.pan p)):=by
 intros;first | (simp only [nc,Ah,ia,ba,iB,bB,oL,oX,nB,Option.bind_some]) | rfl
def Ig:List Sl:=.top::.row 0::.top::.dat (.int .i64)::tp 4 (.row 1::.row 2::.mp 3::.top::.top::.ptr 4 0 0::tp 16 (.row 5::.dat (.int .i64)::.dat (.int .i64)::tp 78 []))
def Hg:List RS:=[.row 70 6 K2 true false,.row 33 4 K4 true false,.row 3 1 (.int .i64) true false,.set 148 .str,.row 149 1 (.int .i64) false true,.row 59 10 K3 false false,.ghost [.top,.top,.top,.top]]
def br:List Sl:=tp 8 (.row 0::.row 1::tp 101 [])
def ar:List RS:=[.row 33 4 K4 true false,.row 3 1 (.int .i64) true false,.ghost [.top,.top,.top,.top]]
def Mb (K:XE→List AV→fa→Option OutS):Lx U5 Unit→Option OutS:=fun x=>LV x (fun a=>ql br ar () (a.1,(a.2,((),()))) (K (.exit 2))) (fun _=>none) (fun _=>none)
def Wo (n:Nat) {R:Type} (s now:Int) (r0:(Sq T1)) (r1:(Sq T2)) (r2:(Sq BA)) (k:U4→Option R):Option R:=
 (mc n n now (r2.n:Int) (0:Int) r1 s (⟨0,fun _=>ra K4⟩:Sq U0) (⟨0,fun _=>ra (.int .i64)⟩:Sq Int) (⟨0,fun _=>ra .str⟩:Sq BA) r2 r0).bind fun x_1=>LV x_1
 (fun a_2=>
  (nc n n a_2.1 (a_2.2.2.2.2.2.2.n:Int) (0:Int) a_2.2.1 a_2.2.2.2.1 a_2.2.2.2.2.1 a_2.2.2.2.2.2.1 (⟨4,fun _=>(0:Int)⟩:Sq Int) a_2.2.2.2.2.2.2).bind fun x_3=>LV x_3
  (fun a_4=>
   k (a_4.1,(a_4.2,())))
  (fun _=>none)
  (fun _=>none))
 (fun _=>none)
 (fun _=>none)
def Eg (n:Nat) (s now:Int) (r0:(Sq T1)) (r1:(Sq T2)) (r2:(Sq BA)):Option U4:=Wo n s now r0 r1 r2 some
theorem yG (n:Nat) {S:Type}:∀ s now r0 r1 r2 (φ:_→Option S),(Eg n s now r0 r1 r2).bind φ=Wo n s now r0 r1 r2 φ:=by
 intros;unfold Eg Wo;first | (simp only [ia,ba,iB,bB,oL,oX,nB,Option.bind_some]) | rfl
def ob (n:Nat):Hint OutS:={ live:=fun c=>(cond (Nat.beq c 2) [(1,some (.sl K2)),(3,none),(8,some (.sl K4)),(9,some (.sl (.int .i64))),(10,none),(13,none),(30,some (.sl K3)),(31,none),(32,none)] (cond (Nat.beq c 4) [(1,some (.sl K2)),(3,none),(8,some (.sl K4)),(9,some (.sl (.int .i64))),(10,none),(13,none),(15,none),(30,some (.sl K3)),(31,none),(32,none),(37,some (.sl K0)),(38,none),(39,none)] (cond (Nat.beq c 0) [(1,some (.sl K2)),(3,none),(4,none),(8,some (.sl K4)),(9,some (.sl (.int .i64))),(10,none),(20,some (.sl .str)),(21,none),(22,none)] []))),run:=fun c=>(cond (Nat.beq c 2) (some (sq Ig Hg fun σ ρ K=>(nc n n σ.1 σ.2.1 σ.2.2.1 ρ.1 ρ.2.1 ρ.2.2.1 ρ.2.2.2.1 ρ.2.2.2.2.1 ρ.2.2.2.2.2.1).bind (Mb K))) (cond (Nat.beq c 4) (some (sq Kg Jg fun σ ρ K=>(qc n n σ.1 σ.2.1 σ.2.2.1 σ.2.2.2.1 σ.2.2.2.2.1 σ.2.2.2.2.2.1 ρ.1 ρ.2.1 ρ.2.2.1 ρ.2.2.2.1 ρ.2.2.2.2.1 ρ.2.2.2.2.2.1.1 ρ.2.2.2.2.2.1.2.1 ρ.2.2.2.2.2.1.2.2.1 ρ.2.2.2.2.2.1.2.2.2.1 ρ.2.2.2.2.2.1.2.2.2.2.1 ρ.2.2.2.2.2.1.2.2.2.2.2.1 ρ.2.2.2.2.2.1.2.2.2.2.2.2.1 ρ.2.2.2.2.2.1.2.2.2.2.2.2.2.1 ρ.2.2.2.2.2.1.2.2.2.2.2.2.2.2.1 ρ.2.2.2.2.2.1.2.2.2.2.2.2.2.2.2.1 ρ.2.2.2.2.2.2.1).bind (Nb K))) (cond (Nat.beq c 0) (some (sq Gg Fg fun σ ρ K=>(mc n n σ.1 σ.2.1 σ.2.2.1 ρ.1 ρ.2.1.1 ρ.2.2.1 ρ.2.2.2.1 ρ.2.2.2.2.1 ρ.2.2.2.2.2.1 ρ.2.2.2.2.2.2.1).bind (Lb K))) none))),xm:=fun c q=>(cond (Nat.beq c 2&&Nat.beq (q.getD 1000000) 2&&q.isSome) (some [(8,some (.sl K4)),(9,some (.sl (.int .i64)))]) (cond (Nat.beq c 4&&Nat.beq (q.getD 1000000) 4&&q.isSome) (some [(1,some (.sl K2)),(3,none),(8,some (.sl K4)),(9,some (.sl (.int .i64))),(10,none),(13,none),(30,some (.sl K3)),(31,none),(32,none)]) (cond (Nat.beq c 0&&Nat.beq (q.getD 1000000) 0&&q.isSome) (some [(1,some (.sl K2)),(3,none),(4,none),(8,some (.sl K4)),(9,some (.sl (.int .i64))),(10,none)]) none))),sch:=fun c=>(cond (Nat.beq c 18) (some [(0,0),(1,0),(3,0),(5,0),(6,0),(9,0),(10,0),(12,0),(2,1),(4,1),(7,1),(8,1),(11,1),(13,3),(14,2),(15,2),(16,2),(17,0)]) none) }
def Qe (n:Nat) (K:XE→List AV→fa→Option OutS) (m:Nat) (now1:Int) (t21:Int) (t22:Int) (hosts:(Sq T2)) (s1:Int) (l:(Sq U0)) (costs:(Sq Int)) (seen:(Sq BA)) (t20:(Sq BA)) (r6:(Sq T1)):Option OutS:=ze tys (ea OutS (Sc n)) (ob n) n (Ba [1,1,0,1,0,0] (aa Tryz.f64)) 0 Gg Fg K m (now1,(t21,(t22,()))) (hosts,((s1,()),(l,(costs,(seen,(t20,(r6,((),()))))))))
theorem Mp (n:Nat) (K:XE→List AV→fa→Option OutS):∀ (m:Nat) now1 t21 t22 hosts s1 l costs seen t20 r6,Qe n K m now1 t21 t22 hosts s1 l costs seen t20 r6=(mc n m now1 t21 t22 hosts s1 l costs seen t20 r6).bind (Lb K)
 | 0,_,_,_,_,_,_,_,_,_,_=>by kernel_rfl
 | m+1,now1,t21,t22,hosts,s1,l,costs,seen,t20,r6=>by
  have h1:Qe n K (m+1) now1 t21 t22 hosts s1 l costs seen t20 r6=zh n now1 t21 t22 hosts s1 l costs seen t20 r6 (Qe n K m) (fun a=>Lb K (.out a)) (fun a=>Lb K (.ret a)) (fun p=>Lb K (.pan p)):=by kernel_rfl
  have h2:Qe n K m=fun now1 t21 t22 hosts s1 l costs seen t20 r6=>(mc n m now1 t21 t22 hosts s1 l costs seen t20 r6).bind (Lb K):=by
   repeat (refine funext fun _=>?_)
   exact Mp n K m _ _ _ _ _ _ _ _ _ _
  rw [h1,h2];exact (HA n m _ _ _ _ _ _ _ _ _ _ (Lb K)).symm
theorem Yy (n:Nat):Wd tys (ea OutS (Sc n)) (ob n) n (Ba [1,1,0,1,0,0] (aa Tryz.f64)) 0:=Qa (sp:=Gg) (rp:=Fg) (by kernel_rfl) fun K σ ρ=>Mp n K n σ.1 σ.2.1 σ.2.2.1 ρ.1 ρ.2.1.1 ρ.2.2.1 ρ.2.2.2.1 ρ.2.2.2.2.1 ρ.2.2.2.2.2.1 ρ.2.2.2.2.2.2.1
def Se (n:Nat) (K:XE→List AV→fa→Option OutS) (m:Nat) (now4:Int) (t311:Int) (t321:Int) (t37:(Sq T0)) (t38:Int) (t39:Int) (hosts3:(Sq T2)) (l3:(Sq U0)) (costs3:(Sq Int)) (seen3:(Sq BA)) (r41:(Sq Int)) (m0:Int) (m01:Int) (m02:Bool) (m03:BA) (m04:BA) (m05:(Sq T0)) (m06:BA) (m07:Int) (m08:Bool) (m09:Bool) (t301:(Sq T1)):Option OutS:=ze tys (ea OutS (Sc n)) (ob n) n (Ba [1,1,1,1,0,1,0,0,1,1,0,0,1,1,0,0] (aa Tryz.f64)) 4 Kg Jg K m (now4,(t311,(t321,(t37,(t38,(t39,())))))) (hosts3,(l3,(costs3,(seen3,(r41,((m0,(m01,(m02,(m03,(m04,(m05,(m06,(m07,(m08,(m09,())))))))))),(t301,((),()))))))))
theorem Pp (n:Nat) (K:XE→List AV→fa→Option OutS):∀ (m:Nat) now4 t311 t321 t37 t38 t39 hosts3 l3 costs3 seen3 r41 m0 m01 m02 m03 m04 m05 m06 m07 m08 m09 t301,Se n K m now4 t311 t321 t37 t38 t39 hosts3 l3 costs3 seen3 r41 m0 m01 m02 m03 m04 m05 m06 m07 m08 m09 t301=(qc n m now4 t311 t321 t37 t38 t39 hosts3 l3 costs3 seen3 r41 m0 m01 m02 m03 m04 m05 m06 m07 m08 m09 t301).bind (Nb K)
 | 0,_,_,_,_,_,_,_,_,_,_,_,_,_,_,_,_,_,_,_,_,_,_=>by kernel_rfl
 | m+1,now4,t311,t321,t37,t38,t39,hosts3,l3,costs3,seen3,r41,m0,m01,m02,m03,m04,m05,m06,m07,m08,m09,t301=>by
  have h1:Se n K (m+1) now4 t311 t321 t37 t38 t39 hosts3 l3 costs3 seen3 r41 m0 m01 m02 m03 m04 m05 m06 m07 m08 m09 t301=Bh n now4 t311 t321 t37 t38 t39 hosts3 l3 costs3 seen3 r41 m0 m01 m02 m03 m04 m05 m06 m07 m08 m09 t301 (Se n K m) (fun a=>Nb K (.out a)) (fun a=>Nb K (.ret a)) (fun p=>Nb K (.pan p)):=by kernel_rfl
  have h2:Se n K m=fun now4 t311 t321 t37 t38 t39 hosts3 l3 costs3 seen3 r41 m0 m01 m02 m03 m04 m05 m06 m07 m08 m09 t301=>(qc n m now4 t311 t321 t37 t38 t39 hosts3 l3 costs3 seen3 r41 m0 m01 m02 m03 m04 m05 m06 m07 m08 m09 t301).bind (Nb K):=by
   repeat (refine funext fun _=>?_)
   exact Pp n K m _ _ _ _ _ _ _ _ _ _ _ _ _ _ _ _ _ _ _ _ _ _
  rw [h1,h2];exact (JA n m _ _ _ _ _ _ _ _ _ _ _ _ _ _ _ _ _ _ _ _ _ _ (Nb K)).symm
theorem az (n:Nat):Wd tys (ea OutS (Sc n)) (ob n) n (Ba [1,1,1,1,0,1,0,0,1,1,0,0,1,1,0,0] (aa Tryz.f64)) 4:=Qa (sp:=Kg) (rp:=Jg) (by kernel_rfl) fun K σ ρ=>Pp n K n σ.1 σ.2.1 σ.2.2.1 σ.2.2.2.1 σ.2.2.2.2.1 σ.2.2.2.2.2.1 ρ.1 ρ.2.1 ρ.2.2.1 ρ.2.2.2.1 ρ.2.2.2.2.1 ρ.2.2.2.2.2.1.1 ρ.2.2.2.2.2.1.2.1 ρ.2.2.2.2.2.1.2.2.1 ρ.2.2.2.2.2.1.2.2.2.1 ρ.2.2.2.2.2.1.2.2.2.2.1 ρ.2.2.2.2.2.1.2.2.2.2.2.1 ρ.2.2.2.2.2.1.2.2.2.2.2.2.1 ρ.2.2.2.2.2.1.2.2.2.2.2.2.2.1 ρ.2.2.2.2.2.1.2.2.2.2.2.2.2.2.1 ρ.2.2.2.2.2.1.2.2.2.2.2.2.2.2.2.1 ρ.2.2.2.2.2.2.1
def Re (n:Nat) (K:XE→List AV→fa→Option OutS) (m:Nat) (now3:Int) (t31:Int) (t32:Int) (hosts2:(Sq T2)) (l2:(Sq U0)) (costs2:(Sq Int)) (seen2:(Sq BA)) (r4:(Sq Int)) (t30:(Sq T1)):Option OutS:=ze tys (ea OutS (Sc n)) (ob n) n (Ba [1,1,1,1,0,1,0,0] (aa Tryz.f64)) 2 Ig Hg K m (now3,(t31,(t32,()))) (hosts2,(l2,(costs2,(seen2,(r4,(t30,((),())))))))
theorem Np (n:Nat) (K:XE→List AV→fa→Option OutS):∀ (m:Nat) now3 t31 t32 hosts2 l2 costs2 seen2 r4 t30,Re n K m now3 t31 t32 hosts2 l2 costs2 seen2 r4 t30=(nc n m now3 t31 t32 hosts2 l2 costs2 seen2 r4 t30).bind (Mb K)
 | 0,_,_,_,_,_,_,_,_,_=>by kernel_rfl
 | m+1,now3,t31,t32,hosts2,l2,costs2,seen2,r4,t30=>by
  have h1:Re n K (m+1) now3 t31 t32 hosts2 l2 costs2 seen2 r4 t30=Ah n now3 t31 t32 hosts2 l2 costs2 seen2 r4 t30 (Re n K m) (fun a=>Mb K (.out a)) (fun a=>Mb K (.ret a)) (fun p=>Mb K (.pan p)):=by kernel_rfl
  have h2:Re n K m=fun now3 t31 t32 hosts2 l2 costs2 seen2 r4 t30=>(nc n m now3 t31 t32 hosts2 l2 costs2 seen2 r4 t30).bind (Mb K):=by
   repeat (refine funext fun _=>?_)
   exact Np n K m _ _ _ _ _ _ _ _ _
  rw [h1,h2];exact (IA n m _ _ _ _ _ _ _ _ _ (Mb K)).symm
theorem Zy (n:Nat):Wd tys (ea OutS (Sc n)) (ob n) n (Ba [1,1,1,1,0,1,0,0] (aa Tryz.f64)) 2:=Qa (sp:=Ig) (rp:=Hg) (by kernel_rfl) fun K σ ρ=>Np n K n σ.1 σ.2.1 σ.2.2.1 ρ.1 ρ.2.1 ρ.2.2.1 ρ.2.2.2.1 ρ.2.2.2.2.1 ρ.2.2.2.2.2.1
theorem KA (n:Nat):sa tys (ea OutS (Sc n)) (ob n) n (aa Tryz.f64) 0:=⟨trivial,⟨trivial,⟨⟨trivial,⟨Yy n,⟨trivial,⟨⟨trivial,trivial⟩,⟨⟨trivial,trivial⟩,trivial⟩⟩⟩⟩⟩,⟨trivial,⟨⟨trivial,⟨Zy n,⟨trivial,⟨⟨trivial,trivial⟩,⟨⟨trivial,⟨trivial,⟨az n,⟨trivial,⟨⟨trivial,trivial⟩,⟨⟨trivial,⟨trivial,⟨⟨trivial,⟨trivial,trivial⟩⟩,⟨trivial,⟨trivial,⟨trivial,trivial⟩⟩⟩⟩⟩⟩,trivial⟩⟩⟩⟩⟩⟩,trivial⟩⟩⟩⟩⟩,⟨trivial,trivial⟩⟩⟩⟩⟩⟩
theorem aD (n:Nat):Enters Tryz.prog 64:=enters_of (c:=aa Tryz.f64) Tryz.func64 (by kernel_rfl) (by kernel_rfl)
def ym:List RSp:=[.agg [.dat (.int .i64),.row 0],.one (.row 1),.one (.row 2),.one (.dat (.int .i64))]
def wm:List RS:=[.row 59 10 K3 false false,.row 70 6 K2 true false,.row 9 1 .str true false]
def bD:List Sl:=[.top,.top,.top,.top]
def cD:List RSp:=[.one (.row 0),.one (.row 1)]
def Vf:List RS:=[.row 33 4 K4 true false,.row 3 1 (.int .i64) true false]
def qj (y:U4):OutS:=⟨false,An (Ie Vf (y.1,(y.2.1,()))) bD (),SD (FC (Ie Vf (y.1,(y.2.1,()))) cD ((),((),()))),fu (Ie Vf (y.1,(y.2.1,()))) Vf (y.1,(y.2.1,()))⟩
theorem ou (n:Nat):EntryOk Tryz.prog gl ⟨64,Ae,none,some (lV ym wm (fun σ ρ=>Eg n σ.1.1 σ.2.2.2.1.1 ρ.1 ρ.2.1 ρ.2.2.1) qj)⟩:=
 Ki (aD n) fun σ ρ y h=>Ab tys_ok (Hr n) mixed (hint:=ob n) (n:=n) Tryz.func64 (Ra (KA n)) (oa (φ:=fun y=>some (qj y)) (by kernel_rfl) (yG n σ.1.1 σ.2.2.2.1.1 ρ.1 ρ.2.1 ρ.2.2.1 _) h)
def vm (n:Nat):List Entry:=⟨64,Ae,none,some (lV ym wm (fun σ ρ=>Eg n σ.1.1 σ.2.2.2.1.1 ρ.1 ρ.2.1 ρ.2.2.1) qj)⟩::Sc n
theorem Ln (n:Nat):AllOk Tryz.prog gl (vm n):=.cons (ou n) (Hr n)
def Jm (n:Nat) {R:Type} (s now:Int) (r0:(Sq T1)) (r1:(Sq T2)) (r2:(Sq BA)) (k:U3→Option R):Option R:=
 (wi n (s,(r0,()))).bind fun v=>
 if (!v)=false then
 (Tc n r1).bind fun v1=>
 if (!v1)=false then
  (ci n now).bind fun v2=>
  if (!v2)=true then
  k ((1:Int),((⟨0,fun _=>ra K4⟩:Sq U0),((⟨0,fun _=>ra (.int .i64)⟩:Sq Int),())))
  else
  (Eg n s now r0 r1 r2).bind fun v3=>
  k ((0:Int),(v3.1,(v3.2.1,())))
 else
  k ((1:Int),((⟨0,fun _=>ra K4⟩:Sq U0),((⟨0,fun _=>ra (.int .i64)⟩:Sq Int),())))
 else
 k ((1:Int),((⟨0,fun _=>ra K4⟩:Sq U0),((⟨0,fun _=>ra (.int .i64)⟩:Sq Int),())))
def Cc (n:Nat) (s now:Int) (r0:(Sq T1)) (r1:(Sq T2)) (r2:(Sq BA)):Option U3:=Jm n s now r0 r1 r2 some
theorem AE (n:Nat) {S:Type}:∀ s now r0 r1 r2 (φ:_→Option S),(Cc n s now r0 r1 r2).bind φ=Jm n s now r0 r1 r2 φ:=by
 intros;unfold Cc Jm;first | (simp only [ia,ba,iB,bB,oL,oX,nB,Option.bind_some]) | rfl
def Qn (n:Nat):Hint OutS:={ live:=fun c=>[],run:=fun c=>none,xm:=fun c q=>none }
theorem mz (n:Nat):sa tys (ea OutS (vm n)) (Qn n) n (aa Tryz.f17) 0:=la (fun _=>rfl) _ _ (by kernel_rfl)
theorem YA (n:Nat):Enters Tryz.prog 17:=enters_of (c:=aa Tryz.f17) Tryz.func17 (by kernel_rfl) (by kernel_rfl)
def dk:List RSp:=[.agg [.dat (.int .i64),.row 0],.one (.row 1),.one (.row 2),.one (.dat (.int .i64))]
def ck:List RS:=[.row 59 10 K3 false false,.row 70 6 K2 true false,.row 9 1 .str true false]
def ZA:List Sl:=[.top,.top,.top,.top]
def aB:List RSp:=[.one (.row 0),.one (.row 1),.one (.dat (.int .i64))]
def cf:List RS:=[.row 33 4 K4 true false,.row 3 1 (.int .i64) true false]
def Lh (y:U3):OutS:=⟨false,An (Ie cf (y.2.1,(y.2.2.1,()))) ZA (),SD (FC (Ie cf (y.2.1,(y.2.2.1,()))) aB ((),((),((y.1,()),())))),fu (Ie cf (y.2.1,(y.2.2.1,()))) cf (y.2.1,(y.2.2.1,()))⟩
theorem Ir (n:Nat):EntryOk Tryz.prog gl ⟨17,Ae,none,some (lV dk ck (fun σ ρ=>Cc n σ.1.1 σ.2.2.2.1.1 ρ.1 ρ.2.1 ρ.2.2.1) Lh)⟩:=
 Ki (YA n) fun σ ρ y h=>Ab tys_ok (Ln n) mixed (hint:=Qn n) (n:=n) Tryz.func17 (Ra (mz n)) (oa (φ:=fun y=>some (Lh y)) (by kernel_rfl) (AE n σ.1.1 σ.2.2.2.1.1 ρ.1 ρ.2.1 ρ.2.2.1 _) h)
def bk (n:Nat):List Entry:=⟨17,Ae,none,some (lV dk ck (fun σ ρ=>Cc n σ.1.1 σ.2.2.2.1.1 ρ.1 ρ.2.1 ρ.2.2.1) Lh)⟩::vm n
theorem rl (n:Nat):AllOk Tryz.prog gl (bk n):=.cons (Ir n) (Ln n)
def Ei (n:Nat) {R:Type} (e:Int) (k:Int→Option R):Option R:=
 k e
def Pa (n:Nat) (e:Int):Option Int:=Ei n e some
theorem sB (n:Nat) {S:Type}:∀ e (φ:_→Option S),(Pa n e).bind φ=Ei n e φ:=by
 intros;unfold Pa Ei;first | (simp only [ia,ba,iB,bB,oL,oX,nB,Option.bind_some]) | rfl
def wk (n:Nat):Hint Out:={ live:=fun c=>[],run:=fun c=>none,xm:=fun c q=>none }
theorem Iv (n:Nat):sa tys (ea Out (bk n)) (wk n) n (aa Tryz.f24) 0:=la (fun _=>rfl) _ _ (by kernel_rfl)
theorem Qx (n:Nat):Enters Tryz.prog 24:=enters_of (c:=aa Tryz.f24) Tryz.func24 (by kernel_rfl) (by kernel_rfl)
def nh (n:Nat):Entry:=⟨24,RV (.pair (.int .i64) .unit) (.one (.int .i64)) (fun xs=>Pa n xs.1),none,none⟩
theorem Yn (n:Nat):EntryOk Tryz.prog gl (nh n):=
 Ha (Qx n) fun xs y h=>qa tys_ok (rl n) mixed (hint:=wk n) (n:=n) Tryz.func24 (Ra (Iv n)) (oa (φ:=(fun y=>some (Out.ret (Od (.one (.int .i64)) y)))) (by kernel_rfl) (sB n xs.1 _) h)
def gd (n:Nat):List Entry:=nh n::bk n
theorem Ni (n:Nat):AllOk Tryz.prog gl (gd n):=.cons (Yn n) (rl n)
def vj (n:Nat) {R:Type} (n01:Int) (s:BA) (kn:Int→BA→Option R) (ko:(Int×BA)→Option R) (kr:Unit→Option R) (kp:Int→Option R):Option R:=
 if (decide (n01≥(10:Int)))=true then
 if qn (IB 1 (fun q=>List.getD (α:=Int) [(IntKind.wrap .u8 (IntKind.wrap .i64 ((48:Int)+(Int.tmod n01 (10:Int)))))] q (ra (.int .u8)))) s=true then
  kn (IntKind.wrap .i64 (Int.tdiv n01 (10:Int))) ((IB 1 (fun q=>List.getD (α:=Int) [(IntKind.wrap .u8 (IntKind.wrap .i64 ((48:Int)+(Int.tmod n01 (10:Int)))))] q (ra (.int .u8))))++s)
 else
  none
 else
 ko (n01,s)
def Uc (n:Nat):Nat→Int→BA→Option (Lx (Int×BA) Unit)
 | 0,_,_=>none
 | m+1,n01,s=>vj n n01 s (Uc n m) (fun a=>some (.out a)) (fun a=>some (.ret a)) (fun p=>some (.pan p))
theorem vD (n m:Nat) {S:Type}:∀ n01 s (φ:_→Option S),(Uc n (m+1) n01 s).bind φ=vj n n01 s (fun n01 s=>(Uc n m n01 s).bind φ) (fun a=>φ (.out a)) (fun a=>φ (.ret a)) (fun p=>φ (.pan p)):=by
 intros;first | (simp only [Uc,vj,ia,ba,iB,bB,oL,oX,nB,Option.bind_some]) | rfl
def Hi:List Sl:=.dat (.int .i64)::.top::.top::.dat .str::tp 25 []
def Gi:List RS:=[]
def Ot:List Sl:=.dat (.int .i64)::.top::.top::.dat .str::tp 25 []
def Nt:List RS:=[]
def Ic (K:XE→List AV→fa→Option Out):Lx (Int×BA) Unit→Option Out:=fun x=>LV x (fun a=>ql Ot Nt (a.1,(a.2,())) () (K (.exit 0))) (fun _=>none) (fun _=>none)
def js (n:Nat) {R:Type} (n0:Int) (k:BA→Option R):Option R:=
 if (decide (n0<(0:Int)))=true then
 none
 else
 (Uc n n n0 (⟨#[]⟩:BA)).bind fun x_1=>LV x_1
  (fun a_2=>
  if qn (IB 1 (fun q=>List.getD (α:=Int) [(IntKind.wrap .u8 (IntKind.wrap .i64 ((48:Int)+a_2.1)))] q (ra (.int .u8)))) a_2.2=true then
   k ((IB 1 (fun q=>List.getD (α:=Int) [(IntKind.wrap .u8 (IntKind.wrap .i64 ((48:Int)+a_2.1)))] q (ra (.int .u8))))++a_2.2)
  else
   none)
  (fun _=>none)
  (fun _=>none)
def ut (n:Nat) (n0:Int):Option BA:=js n n0 some
theorem lI (n:Nat) {S:Type}:∀ n0 (φ:_→Option S),(ut n n0).bind φ=js n n0 φ:=by
 intros;unfold ut js;first | (simp only [ia,ba,iB,bB,oL,oX,nB,Option.bind_some]) | rfl
def fg (n:Nat):Hint Out:={ live:=fun c=>(cond (Nat.beq c 0) [(0,none),(3,none)] []),run:=fun c=>(cond (Nat.beq c 0) (some (sq Hi Gi fun σ ρ K=>(Uc n n σ.1 σ.2.1).bind (Ic K))) none),xm:=fun c q=>(cond (Nat.beq c 0&&Nat.beq (q.getD 1000000) 0&&q.isSome) (some [(0,none),(3,none)]) none) }
def dg (n:Nat) (K:XE→List AV→fa→Option Out) (m:Nat) (n01:Int) (s:BA):Option Out:=ze tys (ea Out (gd n)) (fg n) n (Ba [1,1,1,0,0,0] (aa Tryz.f77)) 0 Hi Gi K m (n01,(s,())) ()
theorem ks (n:Nat) (K:XE→List AV→fa→Option Out):∀ (m:Nat) n01 s,dg n K m n01 s=(Uc n m n01 s).bind (Ic K)
 | 0,_,_=>by kernel_rfl
 | m+1,n01,s=>by
  have h1:dg n K (m+1) n01 s=vj n n01 s (dg n K m) (fun a=>Ic K (.out a)) (fun a=>Ic K (.ret a)) (fun p=>Ic K (.pan p)):=by kernel_rfl
  have h2:dg n K m=fun n01 s=>(Uc n m n01 s).bind (Ic K):=by
   repeat (refine funext fun _=>?_)
   exact ks n K m _ _
  rw [h1,h2];exact (vD n m _ _ (Ic K)).symm
theorem uB (n:Nat):Wd tys (ea Out (gd n)) (fg n) n (Ba [1,1,1,0,0,0] (aa Tryz.f77)) 0:=Qa (sp:=Hi) (rp:=Gi) (by kernel_rfl) fun K σ ρ=>ks n K n σ.1 σ.2.1
theorem wD (n:Nat):sa tys (ea Out (gd n)) (fg n) n (aa Tryz.f77) 0:=⟨trivial,⟨⟨trivial,⟨⟨trivial,trivial⟩,trivial⟩⟩,⟨trivial,⟨⟨uB n,⟨⟨trivial,⟨trivial,trivial⟩⟩,⟨trivial,trivial⟩⟩⟩,⟨trivial,trivial⟩⟩⟩⟩⟩
theorem JE (n:Nat):Enters Tryz.prog 77:=enters_of (c:=aa Tryz.f77) Tryz.func77 (by kernel_rfl) (by kernel_rfl)
def np (n:Nat):Entry:=⟨77,RV (.pair (.int .i64) .unit) (.one .str) (fun xs=>ut n xs.1),none,none⟩
theorem Tx (n:Nat):EntryOk Tryz.prog gl (np n):=
 Ha (JE n) fun xs y h=>qa tys_ok (Ni n) mixed (hint:=fg n) (n:=n) Tryz.func77 (Ra (wD n)) (oa (φ:=(fun y=>some (Out.ret (Od (.one .str) y)))) (by kernel_rfl) (lI n xs.1 _) h)
def pp (n:Nat):List Entry:=np n::gd n
theorem dq (n:Nat):AllOk Tryz.prog gl (pp n):=.cons (Tx n) (Ni n)
def oh (n:Nat) {R:Type} (tenant:Int) (domain:BA) (k:BA→Option R):Option R:=
 (ut n tenant).bind fun v=>
 if qn v (⟨#[32]⟩:BA)=true then
 if qn (v++(⟨#[32]⟩:BA)) domain=true then
  k ((v++(⟨#[32]⟩:BA))++domain)
 else
  none
 else
 none
def jd (n:Nat) (tenant:Int) (domain:BA):Option BA:=oh n tenant domain some
theorem xz (n:Nat) {S:Type}:∀ tenant domain (φ:_→Option S),(jd n tenant domain).bind φ=oh n tenant domain φ:=by
 intros;unfold jd oh;first | (simp only [ia,ba,iB,bB,oL,oX,nB,Option.bind_some]) | rfl
def Oi (n:Nat):Hint Out:={ live:=fun c=>[],run:=fun c=>none,xm:=fun c q=>none }
theorem Mt (n:Nat):sa tys (ea Out (pp n)) (Oi n) n (aa Tryz.f31) 0:=la (fun _=>rfl) _ _ (by kernel_rfl)
theorem Kv (n:Nat):Enters Tryz.prog 31:=enters_of (c:=aa Tryz.f31) Tryz.func31 (by kernel_rfl) (by kernel_rfl)
def cg (n:Nat):Entry:=⟨31,RV (.pair (.int .i64) (.pair .str .unit)) (.one .str) (fun xs=>jd n xs.1 xs.2.1),none,none⟩
theorem Bl (n:Nat):EntryOk Tryz.prog gl (cg n):=
 Ha (Kv n) fun xs y h=>qa tys_ok (dq n) mixed (hint:=Oi n) (n:=n) Tryz.func31 (Ra (Mt n)) (oa (φ:=(fun y=>some (Out.ret (Od (.one .str) y)))) (by kernel_rfl) (xz n xs.1 xs.2.1 _) h)
def ab (n:Nat):List Entry:=cg n::pp n
theorem ri (n:Nat):AllOk Tryz.prog gl (ab n):=.cons (Bl n) (dq n)
def Ch (n:Nat) {R:Type} (now1 t21 t22:Int) (hosts:(Sq T2)) (s1:Int) (l:(Sq U0)) (costs:(Sq Int)) (seen t20:(Sq BA)) (r6:(Sq T1)) (kn:Int→Int→Int→(Sq T2)→Int→(Sq U0)→(Sq Int)→(Sq BA)→(Sq BA)→(Sq T1)→Option R) (ko:U2→Option R) (kr:Unit→Option R) (kp:Int→Option R):Option R:=
 if (decide (t22<t21))=true then
 if 0≤t22∧t22<(t20.n:Int) then
  if ib .str (t20.at' (Int.toNat t22))=true then
  kn now1 t21 (IntKind.wrap .i64 (t22+(1:Int))) hosts s1 l costs (UB .str seen (t20.at' (Int.toNat t22))) t20 r6
  else
  none
 else
  none
 else
 ko (now1,hosts,s1,l,costs,seen,r6)
def rc (n:Nat):Nat→Int→Int→Int→(Sq T2)→Int→(Sq U0)→(Sq Int)→(Sq BA)→(Sq BA)→(Sq T1)→Option (Lx U2 Unit)
 | 0,_,_,_,_,_,_,_,_,_,_=>none
 | m+1,now1,t21,t22,hosts,s1,l,costs,seen,t20,r6=>Ch n now1 t21 t22 hosts s1 l costs seen t20 r6 (rc n m) (fun a=>some (.out a)) (fun a=>some (.ret a)) (fun p=>some (.pan p))
theorem LA (n m:Nat) {S:Type}:∀ now1 t21 t22 hosts s1 l costs seen t20 r6 (φ:_→Option S),(rc n (m+1) now1 t21 t22 hosts s1 l costs seen t20 r6).bind φ=Ch n now1 t21 t22 hosts s1 l costs seen t20 r6 (fun now1 t21 t22 hosts s1 l costs seen t20 r6=>(rc n m now1 t21 t22 hosts s1 l costs seen t20 r6).bind φ) (fun a=>φ (.out a)) (fun a=>φ (.ret a)) (fun p=>φ (.pan p)):=by
 intros;first | (simp only [rc,Ch,ia,ba,iB,bB,oL,oX,nB,Option.bind_some]) | rfl
def Ng:List Sl:=.top::.row 0::.top::.dat (.int .i64)::.ptr 1 0 0::.top::.top::.top::.row 2::.row 3::.mp 4::tp 9 (.row 5::.dat (.int .i64)::.dat (.int .i64)::tp 88 [])
def Mg:List RS:=[.row 70 6 K2 true false,.box 24 2 false [.dat (.int .i64),.row 6],.row 33 4 K4 true false,.row 3 1 (.int .i64) true false,.set 148 .str,.row 9 1 .str false false,.row 59 10 K3 false false,.ghost [.top,.top,.top,.top]]
def ir:List Sl:=.top::.row 0::.top::.dat (.int .i64)::.ptr 1 0 0::.top::.top::.top::.row 2::.row 3::.mp 4::tp 100 []
def gr:List RS:=[.row 70 6 K2 true false,.box 24 2 false [.dat (.int .i64),.row 5],.row 33 4 K4 true false,.row 3 1 (.int .i64) true false,.set 148 .str,.row 59 10 K3 false false,.ghost [.top,.top,.top,.top]]
def Ob (K:XE→List AV→fa→Option OutS):Lx U2 Unit→Option OutS:=fun x=>LV x (fun a=>ql ir gr (a.1,()) (a.2.1,((a.2.2.1,()),(a.2.2.2.1,(a.2.2.2.2.1,(a.2.2.2.2.2.1,(a.2.2.2.2.2.2,((),()))))))) (K (.exit 0))) (fun _=>none) (fun _=>none)
def Eh (n:Nat) {R:Type} (now4 t311 t321:Int) (t37:(Sq T0)) (t38 t39:Int) (hosts3:(Sq T2)) (l3:(Sq U0)) (costs3:(Sq Int)) (seen3:(Sq BA)) (r41:(Sq Int)) (m0 m01:Int) (m02:Bool) (m03 m04:BA) (m05:(Sq T0)) (m06:BA) (m07:Int) (m08 m09:Bool) (t301:(Sq T1)) (kn:Int→Int→Int→(Sq T0)→Int→Int→(Sq T2)→(Sq U0)→(Sq Int)→(Sq BA)→(Sq Int)→Int→Int→Bool→BA→BA→(Sq T0)→BA→Int→Bool→Bool→(Sq T1)→Option R) (ko:U1→Option R) (kr:Unit→Option R) (kp:Int→Option R):Option R:=
 if (decide (t39<t38))=true then
 if 0≤t39∧t39<(t37.n:Int) then
  (Zh n m01 (((((t37.at' (Int.toNat t39))).1).2).1)).bind fun v=>
  (uj n (m0,(m01,(m02,((m03,(m04,())),(m05,(m06,(m07,(m08,(m09,()))))))))) (((((t37.at' (Int.toNat t39))).1).1,(((((t37.at' (Int.toNat t39))).1).2).1,())),((((t37.at' (Int.toNat t39))).2).1,(((((t37.at' (Int.toNat t39))).2).2).1,((((((t37.at' (Int.toNat t39))).2).2).2).1,(((((((t37.at' (Int.toNat t39))).2).2).2).2).1,()))))) now4).bind fun v1=>
  if (!v1)=false then
  if ib .str v=true then
   if (tF .str seen3 v)=false then
   if 0≤m01∧m01<(4:Int)∧m01<(r41.n:Int) then
    if ((r41.at' (Int.toNat m01))==(32:Int))=false then
    (ai n hosts3 (((((t37.at' (Int.toNat t39))).1).2).1) now4).bind fun v2=>
    if (!v2)=true then
     kn now4 t311 t321 t37 t38 (IntKind.wrap .i64 (t39+(1:Int))) hosts3 l3 costs3 seen3 r41 m0 m01 m02 m03 m04 m05 m06 m07 m08 m09 t301
    else
     if ib .str v=true then
     if 0≤m01∧m01<(4:Int)∧m01<(r41.n:Int) then
      if 0≤m01∧m01<(4:Int)∧m01<(r41.n:Int) then
      (oe n (m0,(m01,(m02,((m03,(m04,())),(m05,(m06,(m07,(m08,(m09,()))))))))) (((((t37.at' (Int.toNat t39))).1).2).1) now4).bind fun v3=>
      if ld (l3.n+1) 56=true then
       (Jf n (m06.size:Int)).bind fun v4=>
       if ld (costs3.n+1) 8=true then
       kn now4 t311 t321 t37 t38 (IntKind.wrap .i64 (t39+(1:Int))) hosts3 (⟨(l3.n+1),fun q=>if q<l3.n then l3.at' q else (fun q=>List.getD (α:=U0) [(m0,(m01,(((((t37.at' (Int.toNat t39))).1).2).1,(v3,()))))] q (ra K4)) (q - l3.n)⟩:Sq U0) (⟨(costs3.n+1),fun q=>if q<costs3.n then costs3.at' q else (fun q=>List.getD (α:=Int) [v4] q (ra (.int .i64))) (q - costs3.n)⟩:Sq Int) (UB .str seen3 v) (⟨r41.n,fun q=>if q=(Int.toNat m01)∧q<r41.n then (IntKind.wrap .i64 ((r41.at' (Int.toNat m01))+(1:Int))) else r41.at' q⟩:Sq Int) m0 m01 m02 m03 m04 m05 m06 m07 m08 m09 t301
       else
       none
      else
       none
      else
      none
     else
      none
     else
     none
    else
    kn now4 t311 t321 t37 t38 (IntKind.wrap .i64 (t39+(1:Int))) hosts3 l3 costs3 seen3 r41 m0 m01 m02 m03 m04 m05 m06 m07 m08 m09 t301
   else
    none
   else
   kn now4 t311 t321 t37 t38 (IntKind.wrap .i64 (t39+(1:Int))) hosts3 l3 costs3 seen3 r41 m0 m01 m02 m03 m04 m05 m06 m07 m08 m09 t301
  else
   none
  else
  kn now4 t311 t321 t37 t38 (IntKind.wrap .i64 (t39+(1:Int))) hosts3 l3 costs3 seen3 r41 m0 m01 m02 m03 m04 m05 m06 m07 m08 m09 t301
 else
  none
 else
 ko (now4,t311,t321,hosts3,l3,costs3,seen3,r41,t301)
def uc (n:Nat):Nat→Int→Int→Int→(Sq T0)→Int→Int→(Sq T2)→(Sq U0)→(Sq Int)→(Sq BA)→(Sq Int)→Int→Int→Bool→BA→BA→(Sq T0)→BA→Int→Bool→Bool→(Sq T1)→Option (Lx U1 Unit)
 | 0,_,_,_,_,_,_,_,_,_,_,_,_,_,_,_,_,_,_,_,_,_,_=>none
 | m+1,now4,t311,t321,t37,t38,t39,hosts3,l3,costs3,seen3,r41,m0,m01,m02,m03,m04,m05,m06,m07,m08,m09,t301=>Eh n now4 t311 t321 t37 t38 t39 hosts3 l3 costs3 seen3 r41 m0 m01 m02 m03 m04 m05 m06 m07 m08 m09 t301 (uc n m) (fun a=>some (.out a)) (fun a=>some (.ret a)) (fun p=>some (.pan p))
theorem NA (n m:Nat) {S:Type}:∀ now4 t311 t321 t37 t38 t39 hosts3 l3 costs3 seen3 r41 m0 m01 m02 m03 m04 m05 m06 m07 m08 m09 t301 (φ:_→Option S),(uc n (m+1) now4 t311 t321 t37 t38 t39 hosts3 l3 costs3 seen3 r41 m0 m01 m02 m03 m04 m05 m06 m07 m08 m09 t301).bind φ=Eh n now4 t311 t321 t37 t38 t39 hosts3 l3 costs3 seen3 r41 m0 m01 m02 m03 m04 m05 m06 m07 m08 m09 t301 (fun now4 t311 t321 t37 t38 t39 hosts3 l3 costs3 seen3 r41 m0 m01 m02 m03 m04 m05 m06 m07 m08 m09 t301=>(uc n m now4 t311 t321 t37 t38 t39 hosts3 l3 costs3 seen3 r41 m0 m01 m02 m03 m04 m05 m06 m07 m08 m09 t301).bind φ) (fun a=>φ (.out a)) (fun a=>φ (.ret a)) (fun p=>φ (.pan p)):=by
 intros;first | (simp only [uc,Eh,ia,ba,iB,bB,oL,oX,nB,Option.bind_some]) | rfl
def Rg:List Sl:=.top::.row 0::.top::.dat (.int .i64)::tp 4 (.row 1::.row 2::.mp 3::.top::.top::.ptr 4 0 0::.top::.ptr 5 0 0::tp 14 (.row 6::.dat (.int .i64)::.dat (.int .i64)::tp 4 (.dat (.sl K0)::.dat (.int .i64)::.dat (.int .i64)::tp 71 [])))
def Qg:List RS:=[.row 70 6 K2 true false,.row 33 4 K4 true false,.row 3 1 (.int .i64) true false,.set 148 .str,.row 149 1 (.int .i64) false true,.box 59 10 true [.dat (.int .i64),.dat (.int .i64),.dat .bool,.dat .str,.dat .str,.dat (.sl K0),.dat .str,.dat (.int .i64),.dat .bool,.dat .bool],.row 59 10 K3 false false,.ghost [.top,.top,.top,.top]]
def nr:List Sl:=.top::.row 0::.top::.dat (.int .i64)::tp 4 (.row 1::.row 2::.mp 3::.top::.top::.ptr 4 0 0::tp 16 (.row 5::.dat (.int .i64)::.dat (.int .i64)::tp 78 []))
def mr:List RS:=[.row 70 6 K2 true false,.row 33 4 K4 true false,.row 3 1 (.int .i64) true false,.set 148 .str,.row 149 1 (.int .i64) false true,.row 59 10 K3 false false,.ghost [.top,.top,.top,.top]]
def Qb (K:XE→List AV→fa→Option OutS):Lx U1 Unit→Option OutS:=fun x=>LV x (fun a=>ql nr mr (a.1,(a.2.1,(a.2.2.1,()))) (a.2.2.2.1,(a.2.2.2.2.1,(a.2.2.2.2.2.1,(a.2.2.2.2.2.2.1,(a.2.2.2.2.2.2.2.1,(a.2.2.2.2.2.2.2.2,((),()))))))) (K (.exit 4))) (fun _=>none) (fun _=>none)
def Dh (n:Nat) {R:Type} (now3 t31 t32:Int) (hosts2:(Sq T2)) (l2:(Sq U0)) (costs2:(Sq Int)) (seen2:(Sq BA)) (r4:(Sq Int)) (t30:(Sq T1)) (kn:Int→Int→Int→(Sq T2)→(Sq U0)→(Sq Int)→(Sq BA)→(Sq Int)→(Sq T1)→Option R) (ko:U5→Option R) (kr:Unit→Option R) (kp:Int→Option R):Option R:=
 if (decide (t32<t31))=true then
 if 0≤t32∧t32<(t30.n:Int) then
  (uc n n now3 t31 t32 (((((((t30.at' (Int.toNat t32))).2).2).2).2).1) (((((((((t30.at' (Int.toNat t32))).2).2).2).2).1).n):Int) (0:Int) hosts2 l2 costs2 seen2 r4 (((t30.at' (Int.toNat t32))).1) ((((t30.at' (Int.toNat t32))).2).1) (((((t30.at' (Int.toNat t32))).2).2).1) (((((((t30.at' (Int.toNat t32))).2).2).2).1).1) ((((((((t30.at' (Int.toNat t32))).2).2).2).1).2).1) (((((((t30.at' (Int.toNat t32))).2).2).2).2).1) ((((((((t30.at' (Int.toNat t32))).2).2).2).2).2).1) (((((((((t30.at' (Int.toNat t32))).2).2).2).2).2).2).1) ((((((((((t30.at' (Int.toNat t32))).2).2).2).2).2).2).2).1) (((((((((((t30.at' (Int.toNat t32))).2).2).2).2).2).2).2).2).1) t30).bind fun x_1=>LV x_1
  (fun a_2=>
   kn a_2.1 a_2.2.1 (IntKind.wrap .i64 (a_2.2.2.1+(1:Int))) a_2.2.2.2.1 a_2.2.2.2.2.1 a_2.2.2.2.2.2.1 a_2.2.2.2.2.2.2.1 a_2.2.2.2.2.2.2.2.1 a_2.2.2.2.2.2.2.2.2)
  (fun _=>none)
  (fun _=>none)
 else
  none
 else
 ko (l2,costs2)
def tc (n:Nat):Nat→Int→Int→Int→(Sq T2)→(Sq U0)→(Sq Int)→(Sq BA)→(Sq Int)→(Sq T1)→Option (Lx U5 Unit)
 | 0,_,_,_,_,_,_,_,_,_=>none
 | m+1,now3,t31,t32,hosts2,l2,costs2,seen2,r4,t30=>Dh n now3 t31 t32 hosts2 l2 costs2 seen2 r4 t30 (tc n m) (fun a=>some (.out a)) (fun a=>some (.ret a)) (fun p=>some (.pan p))
theorem MA (n m:Nat) {S:Type}:∀ now3 t31 t32 hosts2 l2 costs2 seen2 r4 t30 (φ:_→Option S),(tc n (m+1) now3 t31 t32 hosts2 l2 costs2 seen2 r4 t30).bind φ=Dh n now3 t31 t32 hosts2 l2 costs2 seen2 r4 t30 (fun now3 t31 t32 hosts2 l2 costs2 seen2 r4 t30=>(tc n m now3 t31 t32 hosts2 l2 costs2 seen2 r4 t30).bind φ) (fun a=>φ (.out a)) (fun a=>φ (.ret a)) (fun p=>φ (.pan p)):=by
 intros;first | (simp only [tc,Dh,ia,ba,iB,bB,oL,oX,nB,Option.bind_some]) | rfl
def Pg:List Sl:=.top::.row 0::.top::.dat (.int .i64)::tp 4 (.row 1::.row 2::.mp 3::.top::.top::.ptr 4 0 0::tp 16 (.row 5::.dat (.int .i64)::.dat (.int .i64)::tp 78 []))
def Og:List RS:=[.row 70 6 K2 true false,.row 33 4 K4 true false,.row 3 1 (.int .i64) true false,.set 148 .str,.row 149 1 (.int .i64) false true,.row 59 10 K3 false false,.ghost [.top,.top,.top,.top]]
def lr:List Sl:=tp 8 (.row 0::.row 1::tp 101 [])
def jr:List RS:=[.row 33 4 K4 true false,.row 3 1 (.int .i64) true false,.ghost [.top,.top,.top,.top]]
def Pb (K:XE→List AV→fa→Option OutS):Lx U5 Unit→Option OutS:=fun x=>LV x (fun a=>ql lr jr () (a.1,(a.2,((),()))) (K (.exit 2))) (fun _=>none) (fun _=>none)
def Xo (n:Nat) {R:Type} (s now:Int) (r0:(Sq T1)) (r1:(Sq T2)) (r2:(Sq BA)) (k:U4→Option R):Option R:=
 (rc n n now (r2.n:Int) (0:Int) r1 s (⟨0,fun _=>ra K4⟩:Sq U0) (⟨0,fun _=>ra (.int .i64)⟩:Sq Int) (⟨0,fun _=>ra .str⟩:Sq BA) r2 r0).bind fun x_1=>LV x_1
 (fun a_2=>
  (tc n n a_2.1 (a_2.2.2.2.2.2.2.n:Int) (0:Int) a_2.2.1 a_2.2.2.2.1 a_2.2.2.2.2.1 a_2.2.2.2.2.2.1 (⟨4,fun _=>(0:Int)⟩:Sq Int) a_2.2.2.2.2.2.2).bind fun x_3=>LV x_3
  (fun a_4=>
   k (a_4.1,(a_4.2,())))
  (fun _=>none)
  (fun _=>none))
 (fun _=>none)
 (fun _=>none)
def Lg (n:Nat) (s now:Int) (r0:(Sq T1)) (r1:(Sq T2)) (r2:(Sq BA)):Option U4:=Xo n s now r0 r1 r2 some
theorem zG (n:Nat) {S:Type}:∀ s now r0 r1 r2 (φ:_→Option S),(Lg n s now r0 r1 r2).bind φ=Xo n s now r0 r1 r2 φ:=by
 intros;unfold Lg Xo;first | (simp only [ia,ba,iB,bB,oL,oX,nB,Option.bind_some]) | rfl
def pb (n:Nat):Hint OutS:={ live:=fun c=>(cond (Nat.beq c 2) [(1,some (.sl K2)),(3,none),(8,some (.sl K4)),(9,some (.sl (.int .i64))),(10,none),(13,none),(30,some (.sl K3)),(31,none),(32,none)] (cond (Nat.beq c 4) [(1,some (.sl K2)),(3,none),(8,some (.sl K4)),(9,some (.sl (.int .i64))),(10,none),(13,none),(15,none),(30,some (.sl K3)),(31,none),(32,none),(37,some (.sl K0)),(38,none),(39,none)] (cond (Nat.beq c 0) [(1,some (.sl K2)),(3,none),(4,none),(8,some (.sl K4)),(9,some (.sl (.int .i64))),(10,none),(20,some (.sl .str)),(21,none),(22,none)] []))),run:=fun c=>(cond (Nat.beq c 2) (some (sq Pg Og fun σ ρ K=>(tc n n σ.1 σ.2.1 σ.2.2.1 ρ.1 ρ.2.1 ρ.2.2.1 ρ.2.2.2.1 ρ.2.2.2.2.1 ρ.2.2.2.2.2.1).bind (Pb K))) (cond (Nat.beq c 4) (some (sq Rg Qg fun σ ρ K=>(uc n n σ.1 σ.2.1 σ.2.2.1 σ.2.2.2.1 σ.2.2.2.2.1 σ.2.2.2.2.2.1 ρ.1 ρ.2.1 ρ.2.2.1 ρ.2.2.2.1 ρ.2.2.2.2.1 ρ.2.2.2.2.2.1.1 ρ.2.2.2.2.2.1.2.1 ρ.2.2.2.2.2.1.2.2.1 ρ.2.2.2.2.2.1.2.2.2.1 ρ.2.2.2.2.2.1.2.2.2.2.1 ρ.2.2.2.2.2.1.2.2.2.2.2.1 ρ.2.2.2.2.2.1.2.2.2.2.2.2.1 ρ.2.2.2.2.2.1.2.2.2.2.2.2.2.1 ρ.2.2.2.2.2.1.2.2.2.2.2.2.2.2.1 ρ.2.2.2.2.2.1.2.2.2.2.2.2.2.2.2.1 ρ.2.2.2.2.2.2.1).bind (Qb K))) (cond (Nat.beq c 0) (some (sq Ng Mg fun σ ρ K=>(rc n n σ.1 σ.2.1 σ.2.2.1 ρ.1 ρ.2.1.1 ρ.2.2.1 ρ.2.2.2.1 ρ.2.2.2.2.1 ρ.2.2.2.2.2.1 ρ.2.2.2.2.2.2.1).bind (Ob K))) none))),xm:=fun c q=>(cond (Nat.beq c 2&&Nat.beq (q.getD 1000000) 2&&q.isSome) (some [(8,some (.sl K4)),(9,some (.sl (.int .i64)))]) (cond (Nat.beq c 4&&Nat.beq (q.getD 1000000) 4&&q.isSome) (some [(1,some (.sl K2)),(3,none),(8,some (.sl K4)),(9,some (.sl (.int .i64))),(10,none),(13,none),(30,some (.sl K3)),(31,none),(32,none)]) (cond (Nat.beq c 0&&Nat.beq (q.getD 1000000) 0&&q.isSome) (some [(1,some (.sl K2)),(3,none),(4,none),(8,some (.sl K4)),(9,some (.sl (.int .i64))),(10,none)]) none))),sch:=fun c=>(cond (Nat.beq c 18) (some [(0,0),(1,0),(3,0),(5,0),(6,0),(9,0),(10,0),(12,0),(2,1),(4,1),(7,1),(8,1),(11,1),(13,3),(14,2),(15,2),(16,2),(17,0)]) none) }
def Te (n:Nat) (K:XE→List AV→fa→Option OutS) (m:Nat) (now1:Int) (t21:Int) (t22:Int) (hosts:(Sq T2)) (s1:Int) (l:(Sq U0)) (costs:(Sq Int)) (seen:(Sq BA)) (t20:(Sq BA)) (r6:(Sq T1)):Option OutS:=ze tys (ea OutS (ab n)) (pb n) n (Ba [1,1,0,1,0,0] (aa Tryz.f64)) 0 Ng Mg K m (now1,(t21,(t22,()))) (hosts,((s1,()),(l,(costs,(seen,(t20,(r6,((),()))))))))
theorem Qp (n:Nat) (K:XE→List AV→fa→Option OutS):∀ (m:Nat) now1 t21 t22 hosts s1 l costs seen t20 r6,Te n K m now1 t21 t22 hosts s1 l costs seen t20 r6=(rc n m now1 t21 t22 hosts s1 l costs seen t20 r6).bind (Ob K)
 | 0,_,_,_,_,_,_,_,_,_,_=>by kernel_rfl
 | m+1,now1,t21,t22,hosts,s1,l,costs,seen,t20,r6=>by
  have h1:Te n K (m+1) now1 t21 t22 hosts s1 l costs seen t20 r6=Ch n now1 t21 t22 hosts s1 l costs seen t20 r6 (Te n K m) (fun a=>Ob K (.out a)) (fun a=>Ob K (.ret a)) (fun p=>Ob K (.pan p)):=by kernel_rfl
  have h2:Te n K m=fun now1 t21 t22 hosts s1 l costs seen t20 r6=>(rc n m now1 t21 t22 hosts s1 l costs seen t20 r6).bind (Ob K):=by
   repeat (refine funext fun _=>?_)
   exact Qp n K m _ _ _ _ _ _ _ _ _ _
  rw [h1,h2];exact (LA n m _ _ _ _ _ _ _ _ _ _ (Ob K)).symm
theorem bz (n:Nat):Wd tys (ea OutS (ab n)) (pb n) n (Ba [1,1,0,1,0,0] (aa Tryz.f64)) 0:=Qa (sp:=Ng) (rp:=Mg) (by kernel_rfl) fun K σ ρ=>Qp n K n σ.1 σ.2.1 σ.2.2.1 ρ.1 ρ.2.1.1 ρ.2.2.1 ρ.2.2.2.1 ρ.2.2.2.2.1 ρ.2.2.2.2.2.1 ρ.2.2.2.2.2.2.1
def Ve (n:Nat) (K:XE→List AV→fa→Option OutS) (m:Nat) (now4:Int) (t311:Int) (t321:Int) (t37:(Sq T0)) (t38:Int) (t39:Int) (hosts3:(Sq T2)) (l3:(Sq U0)) (costs3:(Sq Int)) (seen3:(Sq BA)) (r41:(Sq Int)) (m0:Int) (m01:Int) (m02:Bool) (m03:BA) (m04:BA) (m05:(Sq T0)) (m06:BA) (m07:Int) (m08:Bool) (m09:Bool) (t301:(Sq T1)):Option OutS:=ze tys (ea OutS (ab n)) (pb n) n (Ba [1,1,1,1,0,1,0,0,1,1,0,0,1,1,0,0] (aa Tryz.f64)) 4 Rg Qg K m (now4,(t311,(t321,(t37,(t38,(t39,())))))) (hosts3,(l3,(costs3,(seen3,(r41,((m0,(m01,(m02,(m03,(m04,(m05,(m06,(m07,(m08,(m09,())))))))))),(t301,((),()))))))))
theorem Sp (n:Nat) (K:XE→List AV→fa→Option OutS):∀ (m:Nat) now4 t311 t321 t37 t38 t39 hosts3 l3 costs3 seen3 r41 m0 m01 m02 m03 m04 m05 m06 m07 m08 m09 t301,Ve n K m now4 t311 t321 t37 t38 t39 hosts3 l3 costs3 seen3 r41 m0 m01 m02 m03 m04 m05 m06 m07 m08 m09 t301=(uc n m now4 t311 t321 t37 t38 t39 hosts3 l3 costs3 seen3 r41 m0 m01 m02 m03 m04 m05 m06 m07 m08 m09 t301).bind (Qb K)
 | 0,_,_,_,_,_,_,_,_,_,_,_,_,_,_,_,_,_,_,_,_,_,_=>by kernel_rfl
 | m+1,now4,t311,t321,t37,t38,t39,hosts3,l3,costs3,seen3,r41,m0,m01,m02,m03,m04,m05,m06,m07,m08,m09,t301=>by
  have h1:Ve n K (m+1) now4 t311 t321 t37 t38 t39 hosts3 l3 costs3 seen3 r41 m0 m01 m02 m03 m04 m05 m06 m07 m08 m09 t301=Eh n now4 t311 t321 t37 t38 t39 hosts3 l3 costs3 seen3 r41 m0 m01 m02 m03 m04 m05 m06 m07 m08 m09 t301 (Ve n K m) (fun a=>Qb K (.out a)) (fun a=>Qb K (.ret a)) (fun p=>Qb K (.pan p)):=by kernel_rfl
  have h2:Ve n K m=fun now4 t311 t321 t37 t38 t39 hosts3 l3 costs3 seen3 r41 m0 m01 m02 m03 m04 m05 m06 m07 m08 m09 t301=>(uc n m now4 t311 t321 t37 t38 t39 hosts3 l3 costs3 seen3 r41 m0 m01 m02 m03 m04 m05 m06 m07 m08 m09 t301).bind (Qb K):=by
   repeat (refine funext fun _=>?_)
   exact Sp n K m _ _ _ _ _ _ _ _ _ _ _ _ _ _ _ _ _ _ _ _ _ _
  rw [h1,h2];exact (NA n m _ _ _ _ _ _ _ _ _ _ _ _ _ _ _ _ _ _ _ _ _ _ (Qb K)).symm
theorem dz (n:Nat):Wd tys (ea OutS (ab n)) (pb n) n (Ba [1,1,1,1,0,1,0,0,1,1,0,0,1,1,0,0] (aa Tryz.f64)) 4:=Qa (sp:=Rg) (rp:=Qg) (by kernel_rfl) fun K σ ρ=>Sp n K n σ.1 σ.2.1 σ.2.2.1 σ.2.2.2.1 σ.2.2.2.2.1 σ.2.2.2.2.2.1 ρ.1 ρ.2.1 ρ.2.2.1 ρ.2.2.2.1 ρ.2.2.2.2.1 ρ.2.2.2.2.2.1.1 ρ.2.2.2.2.2.1.2.1 ρ.2.2.2.2.2.1.2.2.1 ρ.2.2.2.2.2.1.2.2.2.1 ρ.2.2.2.2.2.1.2.2.2.2.1 ρ.2.2.2.2.2.1.2.2.2.2.2.1 ρ.2.2.2.2.2.1.2.2.2.2.2.2.1 ρ.2.2.2.2.2.1.2.2.2.2.2.2.2.1 ρ.2.2.2.2.2.1.2.2.2.2.2.2.2.2.1 ρ.2.2.2.2.2.1.2.2.2.2.2.2.2.2.2.1 ρ.2.2.2.2.2.2.1
def Ue (n:Nat) (K:XE→List AV→fa→Option OutS) (m:Nat) (now3:Int) (t31:Int) (t32:Int) (hosts2:(Sq T2)) (l2:(Sq U0)) (costs2:(Sq Int)) (seen2:(Sq BA)) (r4:(Sq Int)) (t30:(Sq T1)):Option OutS:=ze tys (ea OutS (ab n)) (pb n) n (Ba [1,1,1,1,0,1,0,0] (aa Tryz.f64)) 2 Pg Og K m (now3,(t31,(t32,()))) (hosts2,(l2,(costs2,(seen2,(r4,(t30,((),())))))))
theorem Rp (n:Nat) (K:XE→List AV→fa→Option OutS):∀ (m:Nat) now3 t31 t32 hosts2 l2 costs2 seen2 r4 t30,Ue n K m now3 t31 t32 hosts2 l2 costs2 seen2 r4 t30=(tc n m now3 t31 t32 hosts2 l2 costs2 seen2 r4 t30).bind (Pb K)
 | 0,_,_,_,_,_,_,_,_,_=>by kernel_rfl
 | m+1,now3,t31,t32,hosts2,l2,costs2,seen2,r4,t30=>by
  have h1:Ue n K (m+1) now3 t31 t32 hosts2 l2 costs2 seen2 r4 t30=Dh n now3 t31 t32 hosts2 l2 costs2 seen2 r4 t30 (Ue n K m) (fun a=>Pb K (.out a)) (fun a=>Pb K (.ret a)) (fun p=>Pb K (.pan p)):=by kernel_rfl
  have h2:Ue n K m=fun now3 t31 t32 hosts2 l2 costs2 seen2 r4 t30=>(tc n m now3 t31 t32 hosts2 l2 costs2 seen2 r4 t30).bind (Pb K):=by
   repeat (refine funext fun _=>?_)
   exact Rp n K m _ _ _ _ _ _ _ _ _
  rw [h1,h2];exact (MA n m _ _ _ _ _ _ _ _ _ (Pb K)).symm
theorem cz (n:Nat):Wd tys (ea OutS (ab n)) (pb n) n (Ba [1,1,1,1,0,1,0,0] (aa Tryz.f64)) 2:=Qa (sp:=Pg) (rp:=Og) (by kernel_rfl) fun K σ ρ=>Rp n K n σ.1 σ.2.1 σ.2.2.1 ρ.1 ρ.2.1 ρ.2.2.1 ρ.2.2.2.1 ρ.2.2.2.2.1 ρ.2.2.2.2.2.1
theorem OA (n:Nat):sa tys (ea OutS (ab n)) (pb n) n (aa Tryz.f64) 0:=⟨trivial,⟨trivial,⟨⟨trivial,⟨bz n,⟨trivial,⟨⟨trivial,trivial⟩,⟨⟨trivial,trivial⟩,trivial⟩⟩⟩⟩⟩,⟨trivial,⟨⟨trivial,⟨cz n,⟨trivial,⟨⟨trivial,trivial⟩,⟨⟨trivial,⟨trivial,⟨dz n,⟨trivial,⟨⟨trivial,trivial⟩,⟨⟨trivial,⟨trivial,⟨⟨trivial,⟨trivial,trivial⟩⟩,⟨trivial,⟨trivial,⟨trivial,trivial⟩⟩⟩⟩⟩⟩,trivial⟩⟩⟩⟩⟩⟩,trivial⟩⟩⟩⟩⟩,⟨trivial,trivial⟩⟩⟩⟩⟩⟩
theorem dD (n:Nat):Enters Tryz.prog 64:=enters_of (c:=aa Tryz.f64) Tryz.func64 (by kernel_rfl) (by kernel_rfl)
def Bm:List RSp:=[.agg [.dat (.int .i64),.row 0],.one (.row 1),.one (.row 2),.one (.dat (.int .i64))]
def Am:List RS:=[.row 59 10 K3 false false,.row 70 6 K2 true false,.row 9 1 .str false false]
def eD:List Sl:=[.top,.top,.top,.top]
def fD:List RSp:=[.one (.row 0),.one (.row 1)]
def Wf:List RS:=[.row 33 4 K4 true false,.row 3 1 (.int .i64) true false]
def rj (y:U4):OutS:=⟨false,An (Ie Wf (y.1,(y.2.1,()))) eD (),SD (FC (Ie Wf (y.1,(y.2.1,()))) fD ((),((),()))),fu (Ie Wf (y.1,(y.2.1,()))) Wf (y.1,(y.2.1,()))⟩
theorem qu (n:Nat):EntryOk Tryz.prog gl ⟨64,Ae,none,some (lV Bm Am (fun σ ρ=>Lg n σ.1.1 σ.2.2.2.1.1 ρ.1 ρ.2.1 ρ.2.2.1) rj)⟩:=
 Ki (dD n) fun σ ρ y h=>Ab tys_ok (ri n) mixed (hint:=pb n) (n:=n) Tryz.func64 (Ra (OA n)) (oa (φ:=fun y=>some (rj y)) (by kernel_rfl) (zG n σ.1.1 σ.2.2.2.1.1 ρ.1 ρ.2.1 ρ.2.2.1 _) h)
def zm (n:Nat):List Entry:=⟨64,Ae,none,some (lV Bm Am (fun σ ρ=>Lg n σ.1.1 σ.2.2.2.1.1 ρ.1 ρ.2.1 ρ.2.2.1) rj)⟩::ab n
theorem Mn (n:Nat):AllOk Tryz.prog gl (zm n):=.cons (qu n) (ri n)
def Km (n:Nat) {R:Type} (s now:Int) (r0:(Sq T1)) (r1:(Sq T2)) (r2:(Sq BA)) (k:U3→Option R):Option R:=
 (wi n (s,(r0,()))).bind fun v=>
 if (!v)=false then
 (Tc n r1).bind fun v1=>
 if (!v1)=false then
  (ci n now).bind fun v2=>
  if (!v2)=true then
  k ((1:Int),((⟨0,fun _=>ra K4⟩:Sq U0),((⟨0,fun _=>ra (.int .i64)⟩:Sq Int),())))
  else
  (Lg n s now r0 r1 r2).bind fun v3=>
  k ((0:Int),(v3.1,(v3.2.1,())))
 else
  k ((1:Int),((⟨0,fun _=>ra K4⟩:Sq U0),((⟨0,fun _=>ra (.int .i64)⟩:Sq Int),())))
 else
 k ((1:Int),((⟨0,fun _=>ra K4⟩:Sq U0),((⟨0,fun _=>ra (.int .i64)⟩:Sq Int),())))
def le (n:Nat) (s now:Int) (r0:(Sq T1)) (r1:(Sq T2)) (r2:(Sq BA)):Option U3:=Km n s now r0 r1 r2 some
theorem BE (n:Nat) {S:Type}:∀ s now r0 r1 r2 (φ:_→Option S),(le n s now r0 r1 r2).bind φ=Km n s now r0 r1 r2 φ:=by
 intros;unfold le Km;first | (simp only [ia,ba,iB,bB,oL,oX,nB,Option.bind_some]) | rfl
def Rn (n:Nat):Hint OutS:={ live:=fun c=>[],run:=fun c=>none,xm:=fun c q=>none }
theorem oz (n:Nat):sa tys (ea OutS (zm n)) (Rn n) n (aa Tryz.f17) 0:=la (fun _=>rfl) _ _ (by kernel_rfl)
theorem cB (n:Nat):Enters Tryz.prog 17:=enters_of (c:=aa Tryz.f17) Tryz.func17 (by kernel_rfl) (by kernel_rfl)
def ik:List RSp:=[.agg [.dat (.int .i64),.row 0],.one (.row 1),.one (.row 2),.one (.dat (.int .i64))]
def fk:List RS:=[.row 59 10 K3 false false,.row 70 6 K2 true false,.row 9 1 .str false false]
def dB:List Sl:=[.top,.top,.top,.top]
def eB:List RSp:=[.one (.row 0),.one (.row 1),.one (.dat (.int .i64))]
def df:List RS:=[.row 33 4 K4 true false,.row 3 1 (.int .i64) true false]
def Mh (y:U3):OutS:=⟨false,An (Ie df (y.2.1,(y.2.2.1,()))) dB (),SD (FC (Ie df (y.2.1,(y.2.2.1,()))) eB ((),((),((y.1,()),())))),fu (Ie df (y.2.1,(y.2.2.1,()))) df (y.2.1,(y.2.2.1,()))⟩
theorem Jr (n:Nat):EntryOk Tryz.prog gl ⟨17,Ae,none,some (lV ik fk (fun σ ρ=>le n σ.1.1 σ.2.2.2.1.1 ρ.1 ρ.2.1 ρ.2.2.1) Mh)⟩:=
 Ki (cB n) fun σ ρ y h=>Ab tys_ok (Mn n) mixed (hint:=Rn n) (n:=n) Tryz.func17 (Ra (oz n)) (oa (φ:=fun y=>some (Mh y)) (by kernel_rfl) (BE n σ.1.1 σ.2.2.2.1.1 ρ.1 ρ.2.1 ρ.2.2.1 _) h)
def ek (n:Nat):List Entry:=⟨17,Ae,none,some (lV ik fk (fun σ ρ=>le n σ.1.1 σ.2.2.2.1.1 ρ.1 ρ.2.1 ρ.2.2.1) Mh)⟩::zm n
theorem tl (n:Nat):AllOk Tryz.prog gl (ek n):=.cons (Jr n) (Mn n)
def Fi (n:Nat) {R:Type} (k:(Nat×eV)→Option R):Option R:=
 (So n).bind fun v=>
 k (v,((0:Int),()))
def Nd (n:Nat):Option (Nat×eV):=Fi n some
theorem tB (n:Nat) {S:Type}:∀ (φ:_→Option S),(Nd n).bind φ=Fi n φ:=by
 intros;unfold Nd Fi;first | (simp only [ia,ba,iB,bB,oL,oX,nB,Option.bind_some]) | rfl
def Ak (n:Nat):Hint Out:={ live:=fun c=>[],run:=fun c=>none,xm:=fun c q=>none }
theorem Lv (n:Nat):sa tys (ea Out (ek n)) (Ak n) n (aa Tryz.f32) 0:=la (fun _=>rfl) _ _ (by kernel_rfl)
theorem Sx (n:Nat):Enters Tryz.prog 32:=enters_of (c:=aa Tryz.f32) Tryz.func32 (by kernel_rfl) (by kernel_rfl)
def ph (n:Nat):Entry:=⟨32,RV .unit (.one (.pair (.flt .f64) (.pair (.int .i64) .unit))) (fun xs=>Nd n),none,none⟩
theorem Zn (n:Nat):EntryOk Tryz.prog gl (ph n):=
 Ha (Sx n) fun xs y h=>qa tys_ok (tl n) mixed (hint:=Ak n) (n:=n) Tryz.func32 (Ra (Lv n)) (oa (φ:=(fun y=>some (Out.ret (Od (.one (.pair (.flt .f64) (.pair (.int .i64) .unit))) y)))) (by kernel_rfl) (tB n  _) h)
def db (n:Nat):List Entry:=ph n::ek n
theorem Pi (n:Nat):AllOk Tryz.prog gl (db n):=.cons (Zn n) (tl n)
def Fh (n:Nat) {R:Type} (now1 t21 t22:Int) (hosts:(Sq T2)) (s1:Int) (l:(Sq U0)) (costs:(Sq Int)) (seen t20:(Sq BA)) (r6:(Sq T1)) (kn:Int→Int→Int→(Sq T2)→Int→(Sq U0)→(Sq Int)→(Sq BA)→(Sq BA)→(Sq T1)→Option R) (ko:U2→Option R) (kr:Unit→Option R) (kp:Int→Option R):Option R:=
 if (decide (t22<t21))=true then
 if 0≤t22∧t22<(t20.n:Int) then
  if ib .str (t20.at' (Int.toNat t22))=true then
  kn now1 t21 (IntKind.wrap .i64 (t22+(1:Int))) hosts s1 l costs (UB .str seen (t20.at' (Int.toNat t22))) t20 r6
  else
  none
 else
  none
 else
 ko (now1,hosts,s1,l,costs,seen,r6)
def vc (n:Nat):Nat→Int→Int→Int→(Sq T2)→Int→(Sq U0)→(Sq Int)→(Sq BA)→(Sq BA)→(Sq T1)→Option (Lx U2 Unit)
 | 0,_,_,_,_,_,_,_,_,_,_=>none
 | m+1,now1,t21,t22,hosts,s1,l,costs,seen,t20,r6=>Fh n now1 t21 t22 hosts s1 l costs seen t20 r6 (vc n m) (fun a=>some (.out a)) (fun a=>some (.ret a)) (fun p=>some (.pan p))
theorem PA (n m:Nat) {S:Type}:∀ now1 t21 t22 hosts s1 l costs seen t20 r6 (φ:_→Option S),(vc n (m+1) now1 t21 t22 hosts s1 l costs seen t20 r6).bind φ=Fh n now1 t21 t22 hosts s1 l costs seen t20 r6 (fun now1 t21 t22 hosts s1 l costs seen t20 r6=>(vc n m now1 t21 t22 hosts s1 l costs seen t20 r6).bind φ) (fun a=>φ (.out a)) (fun a=>φ (.ret a)) (fun p=>φ (.pan p)):=by
 intros;first | (simp only [vc,Fh,ia,ba,iB,bB,oL,oX,nB,Option.bind_some]) | rfl
def Ug:List Sl:=.top::.row 0::.top::.dat (.int .i64)::.ptr 1 0 0::.top::.top::.top::.row 2::.row 3::.mp 4::tp 9 (.row 5::.dat (.int .i64)::.dat (.int .i64)::tp 88 [])
def Tg:List RS:=[.row 70 6 K2 false false,.box 24 2 false [.dat (.int .i64),.row 6],.row 33 4 K4 true false,.row 3 1 (.int .i64) true false,.set 148 .str,.row 9 1 .str true false,.row 59 10 K3 false false,.ghost [.top,.top,.top,.top]]
def rr:List Sl:=.top::.row 0::.top::.dat (.int .i64)::.ptr 1 0 0::.top::.top::.top::.row 2::.row 3::.mp 4::tp 100 []
def qr:List RS:=[.row 70 6 K2 false false,.box 24 2 false [.dat (.int .i64),.row 5],.row 33 4 K4 true false,.row 3 1 (.int .i64) true false,.set 148 .str,.row 59 10 K3 false false,.ghost [.top,.top,.top,.top]]
def Rb (K:XE→List AV→fa→Option OutS):Lx U2 Unit→Option OutS:=fun x=>LV x (fun a=>ql rr qr (a.1,()) (a.2.1,((a.2.2.1,()),(a.2.2.2.1,(a.2.2.2.2.1,(a.2.2.2.2.2.1,(a.2.2.2.2.2.2,((),()))))))) (K (.exit 0))) (fun _=>none) (fun _=>none)
def Hh (n:Nat) {R:Type} (now4 t311 t321:Int) (t37:(Sq T0)) (t38 t39:Int) (hosts3:(Sq T2)) (l3:(Sq U0)) (costs3:(Sq Int)) (seen3:(Sq BA)) (r41:(Sq Int)) (m0 m01:Int) (m02:Bool) (m03 m04:BA) (m05:(Sq T0)) (m06:BA) (m07:Int) (m08 m09:Bool) (t301:(Sq T1)) (kn:Int→Int→Int→(Sq T0)→Int→Int→(Sq T2)→(Sq U0)→(Sq Int)→(Sq BA)→(Sq Int)→Int→Int→Bool→BA→BA→(Sq T0)→BA→Int→Bool→Bool→(Sq T1)→Option R) (ko:U1→Option R) (kr:Unit→Option R) (kp:Int→Option R):Option R:=
 if (decide (t39<t38))=true then
 if 0≤t39∧t39<(t37.n:Int) then
  (Zh n m01 (((((t37.at' (Int.toNat t39))).1).2).1)).bind fun v=>
  (uj n (m0,(m01,(m02,((m03,(m04,())),(m05,(m06,(m07,(m08,(m09,()))))))))) (((((t37.at' (Int.toNat t39))).1).1,(((((t37.at' (Int.toNat t39))).1).2).1,())),((((t37.at' (Int.toNat t39))).2).1,(((((t37.at' (Int.toNat t39))).2).2).1,((((((t37.at' (Int.toNat t39))).2).2).2).1,(((((((t37.at' (Int.toNat t39))).2).2).2).2).1,()))))) now4).bind fun v1=>
  if (!v1)=false then
  if ib .str v=true then
   if (tF .str seen3 v)=false then
   if 0≤m01∧m01<(4:Int)∧m01<(r41.n:Int) then
    if ((r41.at' (Int.toNat m01))==(32:Int))=false then
    (ai n hosts3 (((((t37.at' (Int.toNat t39))).1).2).1) now4).bind fun v2=>
    if (!v2)=true then
     kn now4 t311 t321 t37 t38 (IntKind.wrap .i64 (t39+(1:Int))) hosts3 l3 costs3 seen3 r41 m0 m01 m02 m03 m04 m05 m06 m07 m08 m09 t301
    else
     if ib .str v=true then
     if 0≤m01∧m01<(4:Int)∧m01<(r41.n:Int) then
      if 0≤m01∧m01<(4:Int)∧m01<(r41.n:Int) then
      (oe n (m0,(m01,(m02,((m03,(m04,())),(m05,(m06,(m07,(m08,(m09,()))))))))) (((((t37.at' (Int.toNat t39))).1).2).1) now4).bind fun v3=>
      if ld (l3.n+1) 56=true then
       (Jf n (m06.size:Int)).bind fun v4=>
       if ld (costs3.n+1) 8=true then
       kn now4 t311 t321 t37 t38 (IntKind.wrap .i64 (t39+(1:Int))) hosts3 (⟨(l3.n+1),fun q=>if q<l3.n then l3.at' q else (fun q=>List.getD (α:=U0) [(m0,(m01,(((((t37.at' (Int.toNat t39))).1).2).1,(v3,()))))] q (ra K4)) (q - l3.n)⟩:Sq U0) (⟨(costs3.n+1),fun q=>if q<costs3.n then costs3.at' q else (fun q=>List.getD (α:=Int) [v4] q (ra (.int .i64))) (q - costs3.n)⟩:Sq Int) (UB .str seen3 v) (⟨r41.n,fun q=>if q=(Int.toNat m01)∧q<r41.n then (IntKind.wrap .i64 ((r41.at' (Int.toNat m01))+(1:Int))) else r41.at' q⟩:Sq Int) m0 m01 m02 m03 m04 m05 m06 m07 m08 m09 t301
       else
       none
      else
       none
      else
      none
     else
      none
     else
     none
    else
    kn now4 t311 t321 t37 t38 (IntKind.wrap .i64 (t39+(1:Int))) hosts3 l3 costs3 seen3 r41 m0 m01 m02 m03 m04 m05 m06 m07 m08 m09 t301
   else
    none
   else
   kn now4 t311 t321 t37 t38 (IntKind.wrap .i64 (t39+(1:Int))) hosts3 l3 costs3 seen3 r41 m0 m01 m02 m03 m04 m05 m06 m07 m08 m09 t301
  else
   none
  else
  kn now4 t311 t321 t37 t38 (IntKind.wrap .i64 (t39+(1:Int))) hosts3 l3 costs3 seen3 r41 m0 m01 m02 m03 m04 m05 m06 m07 m08 m09 t301
 else
  none
 else
 ko (now4,t311,t321,hosts3,l3,costs3,seen3,r41,t301)
def yc (n:Nat):Nat→Int→Int→Int→(Sq T0)→Int→Int→(Sq T2)→(Sq U0)→(Sq Int)→(Sq BA)→(Sq Int)→Int→Int→Bool→BA→BA→(Sq T0)→BA→Int→Bool→Bool→(Sq T1)→Option (Lx U1 Unit)
 | 0,_,_,_,_,_,_,_,_,_,_,_,_,_,_,_,_,_,_,_,_,_,_=>none
 | m+1,now4,t311,t321,t37,t38,t39,hosts3,l3,costs3,seen3,r41,m0,m01,m02,m03,m04,m05,m06,m07,m08,m09,t301=>Hh n now4 t311 t321 t37 t38 t39 hosts3 l3 costs3 seen3 r41 m0 m01 m02 m03 m04 m05 m06 m07 m08 m09 t301 (yc n m) (fun a=>some (.out a)) (fun a=>some (.ret a)) (fun p=>some (.pan p))
theorem RA (n m:Nat) {S:Type}:∀ now4 t311 t321 t37 t38 t39 hosts3 l3 costs3 seen3 r41 m0 m01 m02 m03 m04 m05 m06 m07 m08 m09 t301 (φ:_→Option S),(yc n (m+1) now4 t311 t321 t37 t38 t39 hosts3 l3 costs3 seen3 r41 m0 m01 m02 m03 m04 m05 m06 m07 m08 m09 t301).bind φ=Hh n now4 t311 t321 t37 t38 t39 hosts3 l3 costs3 seen3 r41 m0 m01 m02 m03 m04 m05 m06 m07 m08 m09 t301 (fun now4 t311 t321 t37 t38 t39 hosts3 l3 costs3 seen3 r41 m0 m01 m02 m03 m04 m05 m06 m07 m08 m09 t301=>(yc n m now4 t311 t321 t37 t38 t39 hosts3 l3 costs3 seen3 r41 m0 m01 m02 m03 m04 m05 m06 m07 m08 m09 t301).bind φ) (fun a=>φ (.out a)) (fun a=>φ (.ret a)) (fun p=>φ (.pan p)):=by
 intros;first | (simp only [yc,Hh,ia,ba,iB,bB,oL,oX,nB,Option.bind_some]) | rfl
def Yg:List Sl:=.top::.row 0::.top::.dat (.int .i64)::tp 4 (.row 1::.row 2::.mp 3::.top::.top::.ptr 4 0 0::.top::.ptr 5 0 0::tp 14 (.row 6::.dat (.int .i64)::.dat (.int .i64)::tp 4 (.dat (.sl K0)::.dat (.int .i64)::.dat (.int .i64)::tp 71 [])))
def Xg:List RS:=[.row 70 6 K2 false false,.row 33 4 K4 true false,.row 3 1 (.int .i64) true false,.set 148 .str,.row 149 1 (.int .i64) false true,.box 59 10 true [.dat (.int .i64),.dat (.int .i64),.dat .bool,.dat .str,.dat .str,.dat (.sl K0),.dat .str,.dat (.int .i64),.dat .bool,.dat .bool],.row 59 10 K3 false false,.ghost [.top,.top,.top,.top]]
def vr:List Sl:=.top::.row 0::.top::.dat (.int .i64)::tp 4 (.row 1::.row 2::.mp 3::.top::.top::.ptr 4 0 0::tp 16 (.row 5::.dat (.int .i64)::.dat (.int .i64)::tp 78 []))
def ur:List RS:=[.row 70 6 K2 false false,.row 33 4 K4 true false,.row 3 1 (.int .i64) true false,.set 148 .str,.row 149 1 (.int .i64) false true,.row 59 10 K3 false false,.ghost [.top,.top,.top,.top]]
def Tb (K:XE→List AV→fa→Option OutS):Lx U1 Unit→Option OutS:=fun x=>LV x (fun a=>ql vr ur (a.1,(a.2.1,(a.2.2.1,()))) (a.2.2.2.1,(a.2.2.2.2.1,(a.2.2.2.2.2.1,(a.2.2.2.2.2.2.1,(a.2.2.2.2.2.2.2.1,(a.2.2.2.2.2.2.2.2,((),()))))))) (K (.exit 4))) (fun _=>none) (fun _=>none)
def Gh (n:Nat) {R:Type} (now3 t31 t32:Int) (hosts2:(Sq T2)) (l2:(Sq U0)) (costs2:(Sq Int)) (seen2:(Sq BA)) (r4:(Sq Int)) (t30:(Sq T1)) (kn:Int→Int→Int→(Sq T2)→(Sq U0)→(Sq Int)→(Sq BA)→(Sq Int)→(Sq T1)→Option R) (ko:U5→Option R) (kr:Unit→Option R) (kp:Int→Option R):Option R:=
 if (decide (t32<t31))=true then
 if 0≤t32∧t32<(t30.n:Int) then
  (yc n n now3 t31 t32 (((((((t30.at' (Int.toNat t32))).2).2).2).2).1) (((((((((t30.at' (Int.toNat t32))).2).2).2).2).1).n):Int) (0:Int) hosts2 l2 costs2 seen2 r4 (((t30.at' (Int.toNat t32))).1) ((((t30.at' (Int.toNat t32))).2).1) (((((t30.at' (Int.toNat t32))).2).2).1) (((((((t30.at' (Int.toNat t32))).2).2).2).1).1) ((((((((t30.at' (Int.toNat t32))).2).2).2).1).2).1) (((((((t30.at' (Int.toNat t32))).2).2).2).2).1) ((((((((t30.at' (Int.toNat t32))).2).2).2).2).2).1) (((((((((t30.at' (Int.toNat t32))).2).2).2).2).2).2).1) ((((((((((t30.at' (Int.toNat t32))).2).2).2).2).2).2).2).1) (((((((((((t30.at' (Int.toNat t32))).2).2).2).2).2).2).2).2).1) t30).bind fun x_1=>LV x_1
  (fun a_2=>
   kn a_2.1 a_2.2.1 (IntKind.wrap .i64 (a_2.2.2.1+(1:Int))) a_2.2.2.2.1 a_2.2.2.2.2.1 a_2.2.2.2.2.2.1 a_2.2.2.2.2.2.2.1 a_2.2.2.2.2.2.2.2.1 a_2.2.2.2.2.2.2.2.2)
  (fun _=>none)
  (fun _=>none)
 else
  none
 else
 ko (l2,costs2)
def wc (n:Nat):Nat→Int→Int→Int→(Sq T2)→(Sq U0)→(Sq Int)→(Sq BA)→(Sq Int)→(Sq T1)→Option (Lx U5 Unit)
 | 0,_,_,_,_,_,_,_,_,_=>none
 | m+1,now3,t31,t32,hosts2,l2,costs2,seen2,r4,t30=>Gh n now3 t31 t32 hosts2 l2 costs2 seen2 r4 t30 (wc n m) (fun a=>some (.out a)) (fun a=>some (.ret a)) (fun p=>some (.pan p))
theorem QA (n m:Nat) {S:Type}:∀ now3 t31 t32 hosts2 l2 costs2 seen2 r4 t30 (φ:_→Option S),(wc n (m+1) now3 t31 t32 hosts2 l2 costs2 seen2 r4 t30).bind φ=Gh n now3 t31 t32 hosts2 l2 costs2 seen2 r4 t30 (fun now3 t31 t32 hosts2 l2 costs2 seen2 r4 t30=>(wc n m now3 t31 t32 hosts2 l2 costs2 seen2 r4 t30).bind φ) (fun a=>φ (.out a)) (fun a=>φ (.ret a)) (fun p=>φ (.pan p)):=by
 intros;first | (simp only [wc,Gh,ia,ba,iB,bB,oL,oX,nB,Option.bind_some]) | rfl
def Wg:List Sl:=.top::.row 0::.top::.dat (.int .i64)::tp 4 (.row 1::.row 2::.mp 3::.top::.top::.ptr 4 0 0::tp 16 (.row 5::.dat (.int .i64)::.dat (.int .i64)::tp 78 []))
def Vg:List RS:=[.row 70 6 K2 false false,.row 33 4 K4 true false,.row 3 1 (.int .i64) true false,.set 148 .str,.row 149 1 (.int .i64) false true,.row 59 10 K3 false false,.ghost [.top,.top,.top,.top]]
def tr:List Sl:=tp 8 (.row 0::.row 1::tp 101 [])
def sr:List RS:=[.row 33 4 K4 true false,.row 3 1 (.int .i64) true false,.ghost [.top,.top,.top,.top]]
def Sb (K:XE→List AV→fa→Option OutS):Lx U5 Unit→Option OutS:=fun x=>LV x (fun a=>ql tr sr () (a.1,(a.2,((),()))) (K (.exit 2))) (fun _=>none) (fun _=>none)
def Yo (n:Nat) {R:Type} (s now:Int) (r0:(Sq T1)) (r1:(Sq T2)) (r2:(Sq BA)) (k:U4→Option R):Option R:=
 (vc n n now (r2.n:Int) (0:Int) r1 s (⟨0,fun _=>ra K4⟩:Sq U0) (⟨0,fun _=>ra (.int .i64)⟩:Sq Int) (⟨0,fun _=>ra .str⟩:Sq BA) r2 r0).bind fun x_1=>LV x_1
 (fun a_2=>
  (wc n n a_2.1 (a_2.2.2.2.2.2.2.n:Int) (0:Int) a_2.2.1 a_2.2.2.2.1 a_2.2.2.2.2.1 a_2.2.2.2.2.2.1 (⟨4,fun _=>(0:Int)⟩:Sq Int) a_2.2.2.2.2.2.2).bind fun x_3=>LV x_3
  (fun a_4=>
   k (a_4.1,(a_4.2,())))
  (fun _=>none)
  (fun _=>none))
 (fun _=>none)
 (fun _=>none)
def Sg (n:Nat) (s now:Int) (r0:(Sq T1)) (r1:(Sq T2)) (r2:(Sq BA)):Option U4:=Yo n s now r0 r1 r2 some
theorem AG (n:Nat) {S:Type}:∀ s now r0 r1 r2 (φ:_→Option S),(Sg n s now r0 r1 r2).bind φ=Yo n s now r0 r1 r2 φ:=by
 intros;unfold Sg Yo;first | (simp only [ia,ba,iB,bB,oL,oX,nB,Option.bind_some]) | rfl
def qb (n:Nat):Hint OutS:={ live:=fun c=>(cond (Nat.beq c 2) [(1,some (.sl K2)),(3,none),(8,some (.sl K4)),(9,some (.sl (.int .i64))),(10,none),(13,none),(30,some (.sl K3)),(31,none),(32,none)] (cond (Nat.beq c 4) [(1,some (.sl K2)),(3,none),(8,some (.sl K4)),(9,some (.sl (.int .i64))),(10,none),(13,none),(15,none),(30,some (.sl K3)),(31,none),(32,none),(37,some (.sl K0)),(38,none),(39,none)] (cond (Nat.beq c 0) [(1,some (.sl K2)),(3,none),(4,none),(8,some (.sl K4)),(9,some (.sl (.int .i64))),(10,none),(20,some (.sl .str)),(21,none),(22,none)] []))),run:=fun c=>(cond (Nat.beq c 2) (some (sq Wg Vg fun σ ρ K=>(wc n n σ.1 σ.2.1 σ.2.2.1 ρ.1 ρ.2.1 ρ.2.2.1 ρ.2.2.2.1 ρ.2.2.2.2.1 ρ.2.2.2.2.2.1).bind (Sb K))) (cond (Nat.beq c 4) (some (sq Yg Xg fun σ ρ K=>(yc n n σ.1 σ.2.1 σ.2.2.1 σ.2.2.2.1 σ.2.2.2.2.1 σ.2.2.2.2.2.1 ρ.1 ρ.2.1 ρ.2.2.1 ρ.2.2.2.1 ρ.2.2.2.2.1 ρ.2.2.2.2.2.1.1 ρ.2.2.2.2.2.1.2.1 ρ.2.2.2.2.2.1.2.2.1 ρ.2.2.2.2.2.1.2.2.2.1 ρ.2.2.2.2.2.1.2.2.2.2.1 ρ.2.2.2.2.2.1.2.2.2.2.2.1 ρ.2.2.2.2.2.1.2.2.2.2.2.2.1 ρ.2.2.2.2.2.1.2.2.2.2.2.2.2.1 ρ.2.2.2.2.2.1.2.2.2.2.2.2.2.2.1 ρ.2.2.2.2.2.1.2.2.2.2.2.2.2.2.2.1 ρ.2.2.2.2.2.2.1).bind (Tb K))) (cond (Nat.beq c 0) (some (sq Ug Tg fun σ ρ K=>(vc n n σ.1 σ.2.1 σ.2.2.1 ρ.1 ρ.2.1.1 ρ.2.2.1 ρ.2.2.2.1 ρ.2.2.2.2.1 ρ.2.2.2.2.2.1 ρ.2.2.2.2.2.2.1).bind (Rb K))) none))),xm:=fun c q=>(cond (Nat.beq c 2&&Nat.beq (q.getD 1000000) 2&&q.isSome) (some [(8,some (.sl K4)),(9,some (.sl (.int .i64)))]) (cond (Nat.beq c 4&&Nat.beq (q.getD 1000000) 4&&q.isSome) (some [(1,some (.sl K2)),(3,none),(8,some (.sl K4)),(9,some (.sl (.int .i64))),(10,none),(13,none),(30,some (.sl K3)),(31,none),(32,none)]) (cond (Nat.beq c 0&&Nat.beq (q.getD 1000000) 0&&q.isSome) (some [(1,some (.sl K2)),(3,none),(4,none),(8,some (.sl K4)),(9,some (.sl (.int .i64))),(10,none)]) none))),sch:=fun c=>(cond (Nat.beq c 18) (some [(0,0),(1,0),(3,0),(5,0),(6,0),(9,0),(10,0),(12,0),(2,1),(4,1),(7,1),(8,1),(11,1),(13,3),(14,2),(15,2),(16,2),(17,0)]) none) }
def We (n:Nat) (K:XE→List AV→fa→Option OutS) (m:Nat) (now1:Int) (t21:Int) (t22:Int) (hosts:(Sq T2)) (s1:Int) (l:(Sq U0)) (costs:(Sq Int)) (seen:(Sq BA)) (t20:(Sq BA)) (r6:(Sq T1)):Option OutS:=ze tys (ea OutS (db n)) (qb n) n (Ba [1,1,0,1,0,0] (aa Tryz.f64)) 0 Ug Tg K m (now1,(t21,(t22,()))) (hosts,((s1,()),(l,(costs,(seen,(t20,(r6,((),()))))))))
theorem Tp (n:Nat) (K:XE→List AV→fa→Option OutS):∀ (m:Nat) now1 t21 t22 hosts s1 l costs seen t20 r6,We n K m now1 t21 t22 hosts s1 l costs seen t20 r6=(vc n m now1 t21 t22 hosts s1 l costs seen t20 r6).bind (Rb K)
 | 0,_,_,_,_,_,_,_,_,_,_=>by kernel_rfl
 | m+1,now1,t21,t22,hosts,s1,l,costs,seen,t20,r6=>by
  have h1:We n K (m+1) now1 t21 t22 hosts s1 l costs seen t20 r6=Fh n now1 t21 t22 hosts s1 l costs seen t20 r6 (We n K m) (fun a=>Rb K (.out a)) (fun a=>Rb K (.ret a)) (fun p=>Rb K (.pan p)):=by kernel_rfl
  have h2:We n K m=fun now1 t21 t22 hosts s1 l costs seen t20 r6=>(vc n m now1 t21 t22 hosts s1 l costs seen t20 r6).bind (Rb K):=by
   repeat (refine funext fun _=>?_)
   exact Tp n K m _ _ _ _ _ _ _ _ _ _
  rw [h1,h2];exact (PA n m _ _ _ _ _ _ _ _ _ _ (Rb K)).symm
theorem ez (n:Nat):Wd tys (ea OutS (db n)) (qb n) n (Ba [1,1,0,1,0,0] (aa Tryz.f64)) 0:=Qa (sp:=Ug) (rp:=Tg) (by kernel_rfl) fun K σ ρ=>Tp n K n σ.1 σ.2.1 σ.2.2.1 ρ.1 ρ.2.1.1 ρ.2.2.1 ρ.2.2.2.1 ρ.2.2.2.2.1 ρ.2.2.2.2.2.1 ρ.2.2.2.2.2.2.1
def Ye (n:Nat) (K:XE→List AV→fa→Option OutS) (m:Nat) (now4:Int) (t311:Int) (t321:Int) (t37:(Sq T0)) (t38:Int) (t39:Int) (hosts3:(Sq T2)) (l3:(Sq U0)) (costs3:(Sq Int)) (seen3:(Sq BA)) (r41:(Sq Int)) (m0:Int) (m01:Int) (m02:Bool) (m03:BA) (m04:BA) (m05:(Sq T0)) (m06:BA) (m07:Int) (m08:Bool) (m09:Bool) (t301:(Sq T1)):Option OutS:=ze tys (ea OutS (db n)) (qb n) n (Ba [1,1,1,1,0,1,0,0,1,1,0,0,1,1,0,0] (aa Tryz.f64)) 4 Yg Xg K m (now4,(t311,(t321,(t37,(t38,(t39,())))))) (hosts3,(l3,(costs3,(seen3,(r41,((m0,(m01,(m02,(m03,(m04,(m05,(m06,(m07,(m08,(m09,())))))))))),(t301,((),()))))))))
theorem Vp (n:Nat) (K:XE→List AV→fa→Option OutS):∀ (m:Nat) now4 t311 t321 t37 t38 t39 hosts3 l3 costs3 seen3 r41 m0 m01 m02 m03 m04 m05 m06 m07 m08 m09 t301,Ye n K m now4 t311 t321 t37 t38 t39 hosts3 l3 costs3 seen3 r41 m0 m01 m02 m03 m04 m05 m06 m07 m08 m09 t301=(yc n m now4 t311 t321 t37 t38 t39 hosts3 l3 costs3 seen3 r41 m0 m01 m02 m03 m04 m05 m06 m07 m08 m09 t301).bind (Tb K)
 | 0,_,_,_,_,_,_,_,_,_,_,_,_,_,_,_,_,_,_,_,_,_,_=>by kernel_rfl
 | m+1,now4,t311,t321,t37,t38,t39,hosts3,l3,costs3,seen3,r41,m0,m01,m02,m03,m04,m05,m06,m07,m08,m09,t301=>by
  have h1:Ye n K (m+1) now4 t311 t321 t37 t38 t39 hosts3 l3 costs3 seen3 r41 m0 m01 m02 m03 m04 m05 m06 m07 m08 m09 t301=Hh n now4 t311 t321 t37 t38 t39 hosts3 l3 costs3 seen3 r41 m0 m01 m02 m03 m04 m05 m06 m07 m08 m09 t301 (Ye n K m) (fun a=>Tb K (.out a)) (fun a=>Tb K (.ret a)) (fun p=>Tb K (.pan p)):=by kernel_rfl
  have h2:Ye n K m=fun now4 t311 t321 t37 t38 t39 hosts3 l3 costs3 seen3 r41 m0 m01 m02 m03 m04 m05 m06 m07 m08 m09 t301=>(yc n m now4 t311 t321 t37 t38 t39 hosts3 l3 costs3 seen3 r41 m0 m01 m02 m03 m04 m05 m06 m07 m08 m09 t301).bind (Tb K):=by
   repeat (refine funext fun _=>?_)
   exact Vp n K m _ _ _ _ _ _ _ _ _ _ _ _ _ _ _ _ _ _ _ _ _ _
  rw [h1,h2];exact (RA n m _ _ _ _ _ _ _ _ _ _ _ _ _ _ _ _ _ _ _ _ _ _ (Tb K)).symm
theorem iz (n:Nat):Wd tys (ea OutS (db n)) (qb n) n (Ba [1,1,1,1,0,1,0,0,1,1,0,0,1,1,0,0] (aa Tryz.f64)) 4:=Qa (sp:=Yg) (rp:=Xg) (by kernel_rfl) fun K σ ρ=>Vp n K n σ.1 σ.2.1 σ.2.2.1 σ.2.2.2.1 σ.2.2.2.2.1 σ.2.2.2.2.2.1 ρ.1 ρ.2.1 ρ.2.2.1 ρ.2.2.2.1 ρ.2.2.2.2.1 ρ.2.2.2.2.2.1.1 ρ.2.2.2.2.2.1.2.1 ρ.2.2.2.2.2.1.2.2.1 ρ.2.2.2.2.2.1.2.2.2.1 ρ.2.2.2.2.2.1.2.2.2.2.1 ρ.2.2.2.2.2.1.2.2.2.2.2.1 ρ.2.2.2.2.2.1.2.2.2.2.2.2.1 ρ.2.2.2.2.2.1.2.2.2.2.2.2.2.1 ρ.2.2.2.2.2.1.2.2.2.2.2.2.2.2.1 ρ.2.2.2.2.2.1.2.2.2.2.2.2.2.2.2.1 ρ.2.2.2.2.2.2.1
def Xe (n:Nat) (K:XE→List AV→fa→Option OutS) (m:Nat) (now3:Int) (t31:Int) (t32:Int) (hosts2:(Sq T2)) (l2:(Sq U0)) (costs2:(Sq Int)) (seen2:(Sq BA)) (r4:(Sq Int)) (t30:(Sq T1)):Option OutS:=ze tys (ea OutS (db n)) (qb n) n (Ba [1,1,1,1,0,1,0,0] (aa Tryz.f64)) 2 Wg Vg K m (now3,(t31,(t32,()))) (hosts2,(l2,(costs2,(seen2,(r4,(t30,((),())))))))
theorem Up (n:Nat) (K:XE→List AV→fa→Option OutS):∀ (m:Nat) now3 t31 t32 hosts2 l2 costs2 seen2 r4 t30,Xe n K m now3 t31 t32 hosts2 l2 costs2 seen2 r4 t30=(wc n m now3 t31 t32 hosts2 l2 costs2 seen2 r4 t30).bind (Sb K)
 | 0,_,_,_,_,_,_,_,_,_=>by kernel_rfl
 | m+1,now3,t31,t32,hosts2,l2,costs2,seen2,r4,t30=>by
  have h1:Xe n K (m+1) now3 t31 t32 hosts2 l2 costs2 seen2 r4 t30=Gh n now3 t31 t32 hosts2 l2 costs2 seen2 r4 t30 (Xe n K m) (fun a=>Sb K (.out a)) (fun a=>Sb K (.ret a)) (fun p=>Sb K (.pan p)):=by kernel_rfl
  have h2:Xe n K m=fun now3 t31 t32 hosts2 l2 costs2 seen2 r4 t30=>(wc n m now3 t31 t32 hosts2 l2 costs2 seen2 r4 t30).bind (Sb K):=by
   repeat (refine funext fun _=>?_)
   exact Up n K m _ _ _ _ _ _ _ _ _
  rw [h1,h2];exact (QA n m _ _ _ _ _ _ _ _ _ (Sb K)).symm
theorem gz (n:Nat):Wd tys (ea OutS (db n)) (qb n) n (Ba [1,1,1,1,0,1,0,0] (aa Tryz.f64)) 2:=Qa (sp:=Wg) (rp:=Vg) (by kernel_rfl) fun K σ ρ=>Up n K n σ.1 σ.2.1 σ.2.2.1 ρ.1 ρ.2.1 ρ.2.2.1 ρ.2.2.2.1 ρ.2.2.2.2.1 ρ.2.2.2.2.2.1
theorem SA (n:Nat):sa tys (ea OutS (db n)) (qb n) n (aa Tryz.f64) 0:=⟨trivial,⟨trivial,⟨⟨trivial,⟨ez n,⟨trivial,⟨⟨trivial,trivial⟩,⟨⟨trivial,trivial⟩,trivial⟩⟩⟩⟩⟩,⟨trivial,⟨⟨trivial,⟨gz n,⟨trivial,⟨⟨trivial,trivial⟩,⟨⟨trivial,⟨trivial,⟨iz n,⟨trivial,⟨⟨trivial,trivial⟩,⟨⟨trivial,⟨trivial,⟨⟨trivial,⟨trivial,trivial⟩⟩,⟨trivial,⟨trivial,⟨trivial,trivial⟩⟩⟩⟩⟩⟩,trivial⟩⟩⟩⟩⟩⟩,trivial⟩⟩⟩⟩⟩,⟨trivial,trivial⟩⟩⟩⟩⟩⟩
theorem gD (n:Nat):Enters Tryz.prog 64:=enters_of (c:=aa Tryz.f64) Tryz.func64 (by kernel_rfl) (by kernel_rfl)
def Em:List RSp:=[.agg [.dat (.int .i64),.row 0],.one (.row 1),.one (.row 2),.one (.dat (.int .i64))]
def Dm:List RS:=[.row 59 10 K3 false false,.row 70 6 K2 false false,.row 9 1 .str true false]
def iD:List Sl:=[.top,.top,.top,.top]
def jD:List RSp:=[.one (.row 0),.one (.row 1)]
def Xf:List RS:=[.row 33 4 K4 true false,.row 3 1 (.int .i64) true false]
def sj (y:U4):OutS:=⟨false,An (Ie Xf (y.1,(y.2.1,()))) iD (),SD (FC (Ie Xf (y.1,(y.2.1,()))) jD ((),((),()))),fu (Ie Xf (y.1,(y.2.1,()))) Xf (y.1,(y.2.1,()))⟩
theorem ru (n:Nat):EntryOk Tryz.prog gl ⟨64,Ae,none,some (lV Em Dm (fun σ ρ=>Sg n σ.1.1 σ.2.2.2.1.1 ρ.1 ρ.2.1 ρ.2.2.1) sj)⟩:=
 Ki (gD n) fun σ ρ y h=>Ab tys_ok (Pi n) mixed (hint:=qb n) (n:=n) Tryz.func64 (Ra (SA n)) (oa (φ:=fun y=>some (sj y)) (by kernel_rfl) (AG n σ.1.1 σ.2.2.2.1.1 ρ.1 ρ.2.1 ρ.2.2.1 _) h)
def Cm (n:Nat):List Entry:=⟨64,Ae,none,some (lV Em Dm (fun σ ρ=>Sg n σ.1.1 σ.2.2.2.1.1 ρ.1 ρ.2.1 ρ.2.2.1) sj)⟩::db n
theorem Nn (n:Nat):AllOk Tryz.prog gl (Cm n):=.cons (ru n) (Pi n)
def Lm (n:Nat) {R:Type} (s now:Int) (r0:(Sq T1)) (r1:(Sq T2)) (r2:(Sq BA)) (k:U3→Option R):Option R:=
 (wi n (s,(r0,()))).bind fun v=>
 if (!v)=false then
 (Tc n r1).bind fun v1=>
 if (!v1)=false then
  (ci n now).bind fun v2=>
  if (!v2)=true then
  k ((1:Int),((⟨0,fun _=>ra K4⟩:Sq U0),((⟨0,fun _=>ra (.int .i64)⟩:Sq Int),())))
  else
  (Sg n s now r0 r1 r2).bind fun v3=>
  k ((0:Int),(v3.1,(v3.2.1,())))
 else
  k ((1:Int),((⟨0,fun _=>ra K4⟩:Sq U0),((⟨0,fun _=>ra (.int .i64)⟩:Sq Int),())))
 else
 k ((1:Int),((⟨0,fun _=>ra K4⟩:Sq U0),((⟨0,fun _=>ra (.int .i64)⟩:Sq Int),())))
def rd (n:Nat) (s now:Int) (r0:(Sq T1)) (r1:(Sq T2)) (r2:(Sq BA)):Option U3:=Lm n s now r0 r1 r2 some
theorem CE (n:Nat) {S:Type}:∀ s now r0 r1 r2 (φ:_→Option S),(rd n s now r0 r1 r2).bind φ=Lm n s now r0 r1 r2 φ:=by
 intros;unfold rd Lm;first | (simp only [ia,ba,iB,bB,oL,oX,nB,Option.bind_some]) | rfl
def Sn (n:Nat):Hint OutS:={ live:=fun c=>[],run:=fun c=>none,xm:=fun c q=>none }
theorem pz (n:Nat):sa tys (ea OutS (Cm n)) (Sn n) n (aa Tryz.f17) 0:=la (fun _=>rfl) _ _ (by kernel_rfl)
theorem fB (n:Nat):Enters Tryz.prog 17:=enters_of (c:=aa Tryz.f17) Tryz.func17 (by kernel_rfl) (by kernel_rfl)
def nk:List RSp:=[.agg [.dat (.int .i64),.row 0],.one (.row 1),.one (.row 2),.one (.dat (.int .i64))]
def jk:List RS:=[.row 59 10 K3 false false,.row 70 6 K2 false false,.row 9 1 .str true false]
def gB:List Sl:=[.top,.top,.top,.top]
def jB:List RSp:=[.one (.row 0),.one (.row 1),.one (.dat (.int .i64))]
def ef:List RS:=[.row 33 4 K4 true false,.row 3 1 (.int .i64) true false]
def Nh (y:U3):OutS:=⟨false,An (Ie ef (y.2.1,(y.2.2.1,()))) gB (),SD (FC (Ie ef (y.2.1,(y.2.2.1,()))) jB ((),((),((y.1,()),())))),fu (Ie ef (y.2.1,(y.2.2.1,()))) ef (y.2.1,(y.2.2.1,()))⟩
theorem Kr (n:Nat):EntryOk Tryz.prog gl ⟨17,Ae,none,some (lV nk jk (fun σ ρ=>rd n σ.1.1 σ.2.2.2.1.1 ρ.1 ρ.2.1 ρ.2.2.1) Nh)⟩:=
 Ki (fB n) fun σ ρ y h=>Ab tys_ok (Nn n) mixed (hint:=Sn n) (n:=n) Tryz.func17 (Ra (pz n)) (oa (φ:=fun y=>some (Nh y)) (by kernel_rfl) (CE n σ.1.1 σ.2.2.2.1.1 ρ.1 ρ.2.1 ρ.2.2.1 _) h)
def jb (n:Nat):List Entry:=⟨17,Ae,none,some (lV nk jk (fun σ ρ=>rd n σ.1.1 σ.2.2.2.1.1 ρ.1 ρ.2.1 ρ.2.2.1) Nh)⟩::Cm n
theorem ul (n:Nat):AllOk Tryz.prog gl (jb n):=.cons (Kr n) (Nn n)
def Ih (n:Nat) {R:Type} (hosts1:(Sq T2)) (now1:Int) (t20:(Sq BA)) (t21 t22 s1:Int) (l:(Sq U0)) (costs:(Sq Int)) (seen:(Sq BA)) (r4:(Sq T1)) (kn:(Sq T2)→Int→(Sq BA)→Int→Int→Int→(Sq U0)→(Sq Int)→(Sq BA)→(Sq T1)→Option R) (ko:cV→Option R) (kr:Unit→Option R) (kp:Int→Option R):Option R:=
 if (decide (t22<t21))=true then
 if 0≤t22∧t22<(t20.n:Int) then
  if ib .str (t20.at' (Int.toNat t22))=true then
  kn hosts1 now1 t20 t21 (IntKind.wrap .i64 (t22+(1:Int))) s1 l costs (UB .str seen (t20.at' (Int.toNat t22))) r4
  else
  none
 else
  none
 else
 ko (hosts1,now1,s1,l,costs,seen,r4)
def zc (n:Nat):Nat→(Sq T2)→Int→(Sq BA)→Int→Int→Int→(Sq U0)→(Sq Int)→(Sq BA)→(Sq T1)→Option (Lx cV Unit)
 | 0,_,_,_,_,_,_,_,_,_,_=>none
 | m+1,hosts1,now1,t20,t21,t22,s1,l,costs,seen,r4=>Ih n hosts1 now1 t20 t21 t22 s1 l costs seen r4 (zc n m) (fun a=>some (.out a)) (fun a=>some (.ret a)) (fun p=>some (.pan p))
theorem TA (n m:Nat) {S:Type}:∀ hosts1 now1 t20 t21 t22 s1 l costs seen r4 (φ:_→Option S),(zc n (m+1) hosts1 now1 t20 t21 t22 s1 l costs seen r4).bind φ=Ih n hosts1 now1 t20 t21 t22 s1 l costs seen r4 (fun hosts1 now1 t20 t21 t22 s1 l costs seen r4=>(zc n m hosts1 now1 t20 t21 t22 s1 l costs seen r4).bind φ) (fun a=>φ (.out a)) (fun a=>φ (.ret a)) (fun p=>φ (.pan p)):=by
 intros;first | (simp only [zc,Ih,ia,ba,iB,bB,oL,oX,nB,Option.bind_some]) | rfl
def bh:List Sl:=.top::.dat (.sl K2)::.top::.dat (.int .i64)::.ptr 0 0 0::.top::.top::.top::.row 1::.row 2::.mp 3::tp 9 (.dat (.sl .str)::.dat (.int .i64)::.dat (.int .i64)::tp 88 [])
def ah:List RS:=[.box 24 2 false [.dat (.int .i64),.row 4],.row 33 4 K4 true false,.row 3 1 (.int .i64) true false,.set 148 .str,.row 59 10 K3 false false,.ghost [.top,.top,.top,.top]]
def yr:List Sl:=.top::.dat (.sl K2)::.top::.dat (.int .i64)::.ptr 0 0 0::.top::.top::.top::.row 1::.row 2::.mp 3::tp 100 []
def xr:List RS:=[.box 24 2 false [.dat (.int .i64),.row 4],.row 33 4 K4 true false,.row 3 1 (.int .i64) true false,.set 148 .str,.row 59 10 K3 false false,.ghost [.top,.top,.top,.top]]
def Ub (K:XE→List AV→fa→Option OutS):Lx cV Unit→Option OutS:=fun x=>LV x (fun a=>ql yr xr (a.1,(a.2.1,())) ((a.2.2.1,()),(a.2.2.2.1,(a.2.2.2.2.1,(a.2.2.2.2.2.1,(a.2.2.2.2.2.2,((),())))))) (K (.exit 0))) (fun _=>none) (fun _=>none)
def Kh (n:Nat) {R:Type} (hosts4:(Sq T2)) (now4 t311 t321:Int) (t37:(Sq T0)) (t38 t39:Int) (l3:(Sq U0)) (costs3:(Sq Int)) (seen3:(Sq BA)) (r31:(Sq Int)) (m0 m01:Int) (m02:Bool) (m03 m04:BA) (m05:(Sq T0)) (m06:BA) (m07:Int) (m08 m09:Bool) (t301:(Sq T1)) (kn:(Sq T2)→Int→Int→Int→(Sq T0)→Int→Int→(Sq U0)→(Sq Int)→(Sq BA)→(Sq Int)→Int→Int→Bool→BA→BA→(Sq T0)→BA→Int→Bool→Bool→(Sq T1)→Option R) (ko:U9→Option R) (kr:Unit→Option R) (kp:Int→Option R):Option R:=
 if (decide (t39<t38))=true then
 if 0≤t39∧t39<(t37.n:Int) then
  (Zh n m01 (((((t37.at' (Int.toNat t39))).1).2).1)).bind fun v=>
  (uj n (m0,(m01,(m02,((m03,(m04,())),(m05,(m06,(m07,(m08,(m09,()))))))))) (((((t37.at' (Int.toNat t39))).1).1,(((((t37.at' (Int.toNat t39))).1).2).1,())),((((t37.at' (Int.toNat t39))).2).1,(((((t37.at' (Int.toNat t39))).2).2).1,((((((t37.at' (Int.toNat t39))).2).2).2).1,(((((((t37.at' (Int.toNat t39))).2).2).2).2).1,()))))) now4).bind fun v1=>
  if (!v1)=false then
  if ib .str v=true then
   if (tF .str seen3 v)=false then
   if 0≤m01∧m01<(4:Int)∧m01<(r31.n:Int) then
    if ((r31.at' (Int.toNat m01))==(32:Int))=false then
    (ai n hosts4 (((((t37.at' (Int.toNat t39))).1).2).1) now4).bind fun v2=>
    if (!v2)=true then
     kn hosts4 now4 t311 t321 t37 t38 (IntKind.wrap .i64 (t39+(1:Int))) l3 costs3 seen3 r31 m0 m01 m02 m03 m04 m05 m06 m07 m08 m09 t301
    else
     if ib .str v=true then
     if 0≤m01∧m01<(4:Int)∧m01<(r31.n:Int) then
      if 0≤m01∧m01<(4:Int)∧m01<(r31.n:Int) then
      (oe n (m0,(m01,(m02,((m03,(m04,())),(m05,(m06,(m07,(m08,(m09,()))))))))) (((((t37.at' (Int.toNat t39))).1).2).1) now4).bind fun v3=>
      if ld (l3.n+1) 56=true then
       (Jf n (m06.size:Int)).bind fun v4=>
       if ld (costs3.n+1) 8=true then
       kn hosts4 now4 t311 t321 t37 t38 (IntKind.wrap .i64 (t39+(1:Int))) (⟨(l3.n+1),fun q=>if q<l3.n then l3.at' q else (fun q=>List.getD (α:=U0) [(m0,(m01,(((((t37.at' (Int.toNat t39))).1).2).1,(v3,()))))] q (ra K4)) (q - l3.n)⟩:Sq U0) (⟨(costs3.n+1),fun q=>if q<costs3.n then costs3.at' q else (fun q=>List.getD (α:=Int) [v4] q (ra (.int .i64))) (q - costs3.n)⟩:Sq Int) (UB .str seen3 v) (⟨r31.n,fun q=>if q=(Int.toNat m01)∧q<r31.n then (IntKind.wrap .i64 ((r31.at' (Int.toNat m01))+(1:Int))) else r31.at' q⟩:Sq Int) m0 m01 m02 m03 m04 m05 m06 m07 m08 m09 t301
       else
       none
      else
       none
      else
      none
     else
      none
     else
     none
    else
    kn hosts4 now4 t311 t321 t37 t38 (IntKind.wrap .i64 (t39+(1:Int))) l3 costs3 seen3 r31 m0 m01 m02 m03 m04 m05 m06 m07 m08 m09 t301
   else
    none
   else
   kn hosts4 now4 t311 t321 t37 t38 (IntKind.wrap .i64 (t39+(1:Int))) l3 costs3 seen3 r31 m0 m01 m02 m03 m04 m05 m06 m07 m08 m09 t301
  else
   none
  else
  kn hosts4 now4 t311 t321 t37 t38 (IntKind.wrap .i64 (t39+(1:Int))) l3 costs3 seen3 r31 m0 m01 m02 m03 m04 m05 m06 m07 m08 m09 t301
 else
  none
 else
 ko (hosts4,now4,t311,t321,l3,costs3,seen3,r31,t301)
def Bc (n:Nat):Nat→(Sq T2)→Int→Int→Int→(Sq T0)→Int→Int→(Sq U0)→(Sq Int)→(Sq BA)→(Sq Int)→Int→Int→Bool→BA→BA→(Sq T0)→BA→Int→Bool→Bool→(Sq T1)→Option (Lx U9 Unit)
 | 0,_,_,_,_,_,_,_,_,_,_,_,_,_,_,_,_,_,_,_,_,_,_=>none
 | m+1,hosts4,now4,t311,t321,t37,t38,t39,l3,costs3,seen3,r31,m0,m01,m02,m03,m04,m05,m06,m07,m08,m09,t301=>Kh n hosts4 now4 t311 t321 t37 t38 t39 l3 costs3 seen3 r31 m0 m01 m02 m03 m04 m05 m06 m07 m08 m09 t301 (Bc n m) (fun a=>some (.out a)) (fun a=>some (.ret a)) (fun p=>some (.pan p))
theorem VA (n m:Nat) {S:Type}:∀ hosts4 now4 t311 t321 t37 t38 t39 l3 costs3 seen3 r31 m0 m01 m02 m03 m04 m05 m06 m07 m08 m09 t301 (φ:_→Option S),(Bc n (m+1) hosts4 now4 t311 t321 t37 t38 t39 l3 costs3 seen3 r31 m0 m01 m02 m03 m04 m05 m06 m07 m08 m09 t301).bind φ=Kh n hosts4 now4 t311 t321 t37 t38 t39 l3 costs3 seen3 r31 m0 m01 m02 m03 m04 m05 m06 m07 m08 m09 t301 (fun hosts4 now4 t311 t321 t37 t38 t39 l3 costs3 seen3 r31 m0 m01 m02 m03 m04 m05 m06 m07 m08 m09 t301=>(Bc n m hosts4 now4 t311 t321 t37 t38 t39 l3 costs3 seen3 r31 m0 m01 m02 m03 m04 m05 m06 m07 m08 m09 t301).bind φ) (fun a=>φ (.out a)) (fun a=>φ (.ret a)) (fun p=>φ (.pan p)):=by
 intros;first | (simp only [Bc,Kh,ia,ba,iB,bB,oL,oX,nB,Option.bind_some]) | rfl
def fh:List Sl:=.top::.dat (.sl K2)::.top::.dat (.int .i64)::tp 4 (.row 0::.row 1::.mp 2::.top::.top::.ptr 3 0 0::.top::.ptr 4 0 0::tp 14 (.row 5::.dat (.int .i64)::.dat (.int .i64)::tp 4 (.dat (.sl K0)::.dat (.int .i64)::.dat (.int .i64)::tp 71 [])))
def eh:List RS:=[.row 33 4 K4 true false,.row 3 1 (.int .i64) true false,.set 148 .str,.row 149 1 (.int .i64) false true,.box 59 10 true [.dat (.int .i64),.dat (.int .i64),.dat .bool,.dat .str,.dat .str,.dat (.sl K0),.dat .str,.dat (.int .i64),.dat .bool,.dat .bool],.row 59 10 K3 false false,.ghost [.top,.top,.top,.top]]
def Cr:List Sl:=.top::.dat (.sl K2)::.top::.dat (.int .i64)::tp 4 (.row 0::.row 1::.mp 2::.top::.top::.ptr 3 0 0::tp 16 (.row 4::.dat (.int .i64)::.dat (.int .i64)::tp 78 []))
def Br:List RS:=[.row 33 4 K4 true false,.row 3 1 (.int .i64) true false,.set 148 .str,.row 149 1 (.int .i64) false true,.row 59 10 K3 false false,.ghost [.top,.top,.top,.top]]
def Wb (K:XE→List AV→fa→Option OutS):Lx U9 Unit→Option OutS:=fun x=>LV x (fun a=>ql Cr Br (a.1,(a.2.1,(a.2.2.1,(a.2.2.2.1,())))) (a.2.2.2.2.1,(a.2.2.2.2.2.1,(a.2.2.2.2.2.2.1,(a.2.2.2.2.2.2.2.1,(a.2.2.2.2.2.2.2.2,((),())))))) (K (.exit 4))) (fun _=>none) (fun _=>none)
def Jh (n:Nat) {R:Type} (hosts3:(Sq T2)) (now3 t31 t32:Int) (l2:(Sq U0)) (costs2:(Sq Int)) (seen2:(Sq BA)) (r3:(Sq Int)) (t30:(Sq T1)) (kn:(Sq T2)→Int→Int→Int→(Sq U0)→(Sq Int)→(Sq BA)→(Sq Int)→(Sq T1)→Option R) (ko:U5→Option R) (kr:Unit→Option R) (kp:Int→Option R):Option R:=
 if (decide (t32<t31))=true then
 if 0≤t32∧t32<(t30.n:Int) then
  (Bc n n hosts3 now3 t31 t32 (((((((t30.at' (Int.toNat t32))).2).2).2).2).1) (((((((((t30.at' (Int.toNat t32))).2).2).2).2).1).n):Int) (0:Int) l2 costs2 seen2 r3 (((t30.at' (Int.toNat t32))).1) ((((t30.at' (Int.toNat t32))).2).1) (((((t30.at' (Int.toNat t32))).2).2).1) (((((((t30.at' (Int.toNat t32))).2).2).2).1).1) ((((((((t30.at' (Int.toNat t32))).2).2).2).1).2).1) (((((((t30.at' (Int.toNat t32))).2).2).2).2).1) ((((((((t30.at' (Int.toNat t32))).2).2).2).2).2).1) (((((((((t30.at' (Int.toNat t32))).2).2).2).2).2).2).1) ((((((((((t30.at' (Int.toNat t32))).2).2).2).2).2).2).2).1) (((((((((((t30.at' (Int.toNat t32))).2).2).2).2).2).2).2).2).1) t30).bind fun x_1=>LV x_1
  (fun a_2=>
   kn a_2.1 a_2.2.1 a_2.2.2.1 (IntKind.wrap .i64 (a_2.2.2.2.1+(1:Int))) a_2.2.2.2.2.1 a_2.2.2.2.2.2.1 a_2.2.2.2.2.2.2.1 a_2.2.2.2.2.2.2.2.1 a_2.2.2.2.2.2.2.2.2)
  (fun _=>none)
  (fun _=>none)
 else
  none
 else
 ko (l2,costs2)
def Ac (n:Nat):Nat→(Sq T2)→Int→Int→Int→(Sq U0)→(Sq Int)→(Sq BA)→(Sq Int)→(Sq T1)→Option (Lx U5 Unit)
 | 0,_,_,_,_,_,_,_,_,_=>none
 | m+1,hosts3,now3,t31,t32,l2,costs2,seen2,r3,t30=>Jh n hosts3 now3 t31 t32 l2 costs2 seen2 r3 t30 (Ac n m) (fun a=>some (.out a)) (fun a=>some (.ret a)) (fun p=>some (.pan p))
theorem UA (n m:Nat) {S:Type}:∀ hosts3 now3 t31 t32 l2 costs2 seen2 r3 t30 (φ:_→Option S),(Ac n (m+1) hosts3 now3 t31 t32 l2 costs2 seen2 r3 t30).bind φ=Jh n hosts3 now3 t31 t32 l2 costs2 seen2 r3 t30 (fun hosts3 now3 t31 t32 l2 costs2 seen2 r3 t30=>(Ac n m hosts3 now3 t31 t32 l2 costs2 seen2 r3 t30).bind φ) (fun a=>φ (.out a)) (fun a=>φ (.ret a)) (fun p=>φ (.pan p)):=by
 intros;first | (simp only [Ac,Jh,ia,ba,iB,bB,oL,oX,nB,Option.bind_some]) | rfl
def dh:List Sl:=.top::.dat (.sl K2)::.top::.dat (.int .i64)::tp 4 (.row 0::.row 1::.mp 2::.top::.top::.ptr 3 0 0::tp 16 (.row 4::.dat (.int .i64)::.dat (.int .i64)::tp 78 []))
def ch:List RS:=[.row 33 4 K4 true false,.row 3 1 (.int .i64) true false,.set 148 .str,.row 149 1 (.int .i64) false true,.row 59 10 K3 false false,.ghost [.top,.top,.top,.top]]
def Ar:List Sl:=tp 8 (.row 0::.row 1::tp 101 [])
def zr:List RS:=[.row 33 4 K4 true false,.row 3 1 (.int .i64) true false,.ghost [.top,.top,.top,.top]]
def Vb (K:XE→List AV→fa→Option OutS):Lx U5 Unit→Option OutS:=fun x=>LV x (fun a=>ql Ar zr () (a.1,(a.2,((),()))) (K (.exit 2))) (fun _=>none) (fun _=>none)
def Zo (n:Nat) {R:Type} (s:Int) (hosts:(Sq T2)) (busy:(Sq BA)) (now:Int) (r0:(Sq T1)) (k:U4→Option R):Option R:=
 (zc n n hosts now busy (busy.n:Int) (0:Int) s (⟨0,fun _=>ra K4⟩:Sq U0) (⟨0,fun _=>ra (.int .i64)⟩:Sq Int) (⟨0,fun _=>ra .str⟩:Sq BA) r0).bind fun x_1=>LV x_1
 (fun a_2=>
  (Ac n n a_2.1 a_2.2.1 (a_2.2.2.2.2.2.2.n:Int) (0:Int) a_2.2.2.2.1 a_2.2.2.2.2.1 a_2.2.2.2.2.2.1 (⟨4,fun _=>(0:Int)⟩:Sq Int) a_2.2.2.2.2.2.2).bind fun x_3=>LV x_3
  (fun a_4=>
   k (a_4.1,(a_4.2,())))
  (fun _=>none)
  (fun _=>none))
 (fun _=>none)
 (fun _=>none)
def Zg (n:Nat) (s:Int) (hosts:(Sq T2)) (busy:(Sq BA)) (now:Int) (r0:(Sq T1)):Option U4:=Zo n s hosts busy now r0 some
theorem BG (n:Nat) {S:Type}:∀ s hosts busy now r0 (φ:_→Option S),(Zg n s hosts busy now r0).bind φ=Zo n s hosts busy now r0 φ:=by
 intros;unfold Zg Zo;first | (simp only [ia,ba,iB,bB,oL,oX,nB,Option.bind_some]) | rfl
def rb (n:Nat):Hint OutS:={ live:=fun c=>(cond (Nat.beq c 2) [(1,some (.sl K2)),(3,none),(8,some (.sl K4)),(9,some (.sl (.int .i64))),(10,none),(13,none),(30,some (.sl K3)),(31,none),(32,none)] (cond (Nat.beq c 4) [(1,some (.sl K2)),(3,none),(8,some (.sl K4)),(9,some (.sl (.int .i64))),(10,none),(13,none),(15,none),(30,some (.sl K3)),(31,none),(32,none),(37,some (.sl K0)),(38,none),(39,none)] (cond (Nat.beq c 0) [(1,some (.sl K2)),(3,none),(4,none),(8,some (.sl K4)),(9,some (.sl (.int .i64))),(10,none),(20,some (.sl .str)),(21,none),(22,none)] []))),run:=fun c=>(cond (Nat.beq c 2) (some (sq dh ch fun σ ρ K=>(Ac n n σ.1 σ.2.1 σ.2.2.1 σ.2.2.2.1 ρ.1 ρ.2.1 ρ.2.2.1 ρ.2.2.2.1 ρ.2.2.2.2.1).bind (Vb K))) (cond (Nat.beq c 4) (some (sq fh eh fun σ ρ K=>(Bc n n σ.1 σ.2.1 σ.2.2.1 σ.2.2.2.1 σ.2.2.2.2.1 σ.2.2.2.2.2.1 σ.2.2.2.2.2.2.1 ρ.1 ρ.2.1 ρ.2.2.1 ρ.2.2.2.1 ρ.2.2.2.2.1.1 ρ.2.2.2.2.1.2.1 ρ.2.2.2.2.1.2.2.1 ρ.2.2.2.2.1.2.2.2.1 ρ.2.2.2.2.1.2.2.2.2.1 ρ.2.2.2.2.1.2.2.2.2.2.1 ρ.2.2.2.2.1.2.2.2.2.2.2.1 ρ.2.2.2.2.1.2.2.2.2.2.2.2.1 ρ.2.2.2.2.1.2.2.2.2.2.2.2.2.1 ρ.2.2.2.2.1.2.2.2.2.2.2.2.2.2.1 ρ.2.2.2.2.2.1).bind (Wb K))) (cond (Nat.beq c 0) (some (sq bh ah fun σ ρ K=>(zc n n σ.1 σ.2.1 σ.2.2.1 σ.2.2.2.1 σ.2.2.2.2.1 ρ.1.1 ρ.2.1 ρ.2.2.1 ρ.2.2.2.1 ρ.2.2.2.2.1).bind (Ub K))) none))),xm:=fun c q=>(cond (Nat.beq c 2&&Nat.beq (q.getD 1000000) 2&&q.isSome) (some [(8,some (.sl K4)),(9,some (.sl (.int .i64)))]) (cond (Nat.beq c 4&&Nat.beq (q.getD 1000000) 4&&q.isSome) (some [(1,some (.sl K2)),(3,none),(8,some (.sl K4)),(9,some (.sl (.int .i64))),(10,none),(13,none),(30,some (.sl K3)),(31,none),(32,none)]) (cond (Nat.beq c 0&&Nat.beq (q.getD 1000000) 0&&q.isSome) (some [(1,some (.sl K2)),(3,none),(4,none),(8,some (.sl K4)),(9,some (.sl (.int .i64))),(10,none)]) none))),sch:=fun c=>(cond (Nat.beq c 18) (some [(0,0),(1,0),(3,0),(5,0),(6,0),(9,0),(10,0),(12,0),(2,1),(4,1),(7,1),(8,1),(11,1),(13,3),(14,2),(15,2),(16,2),(17,0)]) none) }
def Ze (n:Nat) (K:XE→List AV→fa→Option OutS) (m:Nat) (hosts1:(Sq T2)) (now1:Int) (t20:(Sq BA)) (t21:Int) (t22:Int) (s1:Int) (l:(Sq U0)) (costs:(Sq Int)) (seen:(Sq BA)) (r4:(Sq T1)):Option OutS:=ze tys (ea OutS (jb n)) (rb n) n (Ba [1,1,0,1,0,0] (aa Tryz.f64)) 0 bh ah K m (hosts1,(now1,(t20,(t21,(t22,()))))) ((s1,()),(l,(costs,(seen,(r4,((),()))))))
theorem Wp (n:Nat) (K:XE→List AV→fa→Option OutS):∀ (m:Nat) hosts1 now1 t20 t21 t22 s1 l costs seen r4,Ze n K m hosts1 now1 t20 t21 t22 s1 l costs seen r4=(zc n m hosts1 now1 t20 t21 t22 s1 l costs seen r4).bind (Ub K)
 | 0,_,_,_,_,_,_,_,_,_,_=>by kernel_rfl
 | m+1,hosts1,now1,t20,t21,t22,s1,l,costs,seen,r4=>by
  have h1:Ze n K (m+1) hosts1 now1 t20 t21 t22 s1 l costs seen r4=Ih n hosts1 now1 t20 t21 t22 s1 l costs seen r4 (Ze n K m) (fun a=>Ub K (.out a)) (fun a=>Ub K (.ret a)) (fun p=>Ub K (.pan p)):=by kernel_rfl
  have h2:Ze n K m=fun hosts1 now1 t20 t21 t22 s1 l costs seen r4=>(zc n m hosts1 now1 t20 t21 t22 s1 l costs seen r4).bind (Ub K):=by
   repeat (refine funext fun _=>?_)
   exact Wp n K m _ _ _ _ _ _ _ _ _ _
  rw [h1,h2];exact (TA n m _ _ _ _ _ _ _ _ _ _ (Ub K)).symm
theorem jz (n:Nat):Wd tys (ea OutS (jb n)) (rb n) n (Ba [1,1,0,1,0,0] (aa Tryz.f64)) 0:=Qa (sp:=bh) (rp:=ah) (by kernel_rfl) fun K σ ρ=>Wp n K n σ.1 σ.2.1 σ.2.2.1 σ.2.2.2.1 σ.2.2.2.2.1 ρ.1.1 ρ.2.1 ρ.2.2.1 ρ.2.2.2.1 ρ.2.2.2.2.1
def bf (n:Nat) (K:XE→List AV→fa→Option OutS) (m:Nat) (hosts4:(Sq T2)) (now4:Int) (t311:Int) (t321:Int) (t37:(Sq T0)) (t38:Int) (t39:Int) (l3:(Sq U0)) (costs3:(Sq Int)) (seen3:(Sq BA)) (r31:(Sq Int)) (m0:Int) (m01:Int) (m02:Bool) (m03:BA) (m04:BA) (m05:(Sq T0)) (m06:BA) (m07:Int) (m08:Bool) (m09:Bool) (t301:(Sq T1)):Option OutS:=ze tys (ea OutS (jb n)) (rb n) n (Ba [1,1,1,1,0,1,0,0,1,1,0,0,1,1,0,0] (aa Tryz.f64)) 4 fh eh K m (hosts4,(now4,(t311,(t321,(t37,(t38,(t39,()))))))) (l3,(costs3,(seen3,(r31,((m0,(m01,(m02,(m03,(m04,(m05,(m06,(m07,(m08,(m09,())))))))))),(t301,((),())))))))
theorem Yp (n:Nat) (K:XE→List AV→fa→Option OutS):∀ (m:Nat) hosts4 now4 t311 t321 t37 t38 t39 l3 costs3 seen3 r31 m0 m01 m02 m03 m04 m05 m06 m07 m08 m09 t301,bf n K m hosts4 now4 t311 t321 t37 t38 t39 l3 costs3 seen3 r31 m0 m01 m02 m03 m04 m05 m06 m07 m08 m09 t301=(Bc n m hosts4 now4 t311 t321 t37 t38 t39 l3 costs3 seen3 r31 m0 m01 m02 m03 m04 m05 m06 m07 m08 m09 t301).bind (Wb K)
 | 0,_,_,_,_,_,_,_,_,_,_,_,_,_,_,_,_,_,_,_,_,_,_=>by kernel_rfl
 | m+1,hosts4,now4,t311,t321,t37,t38,t39,l3,costs3,seen3,r31,m0,m01,m02,m03,m04,m05,m06,m07,m08,m09,t301=>by
  have h1:bf n K (m+1) hosts4 now4 t311 t321 t37 t38 t39 l3 costs3 seen3 r31 m0 m01 m02 m03 m04 m05 m06 m07 m08 m09 t301=Kh n hosts4 now4 t311 t321 t37 t38 t39 l3 costs3 seen3 r31 m0 m01 m02 m03 m04 m05 m06 m07 m08 m09 t301 (bf n K m) (fun a=>Wb K (.out a)) (fun a=>Wb K (.ret a)) (fun p=>Wb K (.pan p)):=by kernel_rfl
  have h2:bf n K m=fun hosts4 now4 t311 t321 t37 t38 t39 l3 costs3 seen3 r31 m0 m01 m02 m03 m04 m05 m06 m07 m08 m09 t301=>(Bc n m hosts4 now4 t311 t321 t37 t38 t39 l3 costs3 seen3 r31 m0 m01 m02 m03 m04 m05 m06 m07 m08 m09 t301).bind (Wb K):=by
   repeat (refine funext fun _=>?_)
   exact Yp n K m _ _ _ _ _ _ _ _ _ _ _ _ _ _ _ _ _ _ _ _ _ _
  rw [h1,h2];exact (VA n m _ _ _ _ _ _ _ _ _ _ _ _ _ _ _ _ _ _ _ _ _ _ (Wb K)).symm
theorem lz (n:Nat):Wd tys (ea OutS (jb n)) (rb n) n (Ba [1,1,1,1,0,1,0,0,1,1,0,0,1,1,0,0] (aa Tryz.f64)) 4:=Qa (sp:=fh) (rp:=eh) (by kernel_rfl) fun K σ ρ=>Yp n K n σ.1 σ.2.1 σ.2.2.1 σ.2.2.2.1 σ.2.2.2.2.1 σ.2.2.2.2.2.1 σ.2.2.2.2.2.2.1 ρ.1 ρ.2.1 ρ.2.2.1 ρ.2.2.2.1 ρ.2.2.2.2.1.1 ρ.2.2.2.2.1.2.1 ρ.2.2.2.2.1.2.2.1 ρ.2.2.2.2.1.2.2.2.1 ρ.2.2.2.2.1.2.2.2.2.1 ρ.2.2.2.2.1.2.2.2.2.2.1 ρ.2.2.2.2.1.2.2.2.2.2.2.1 ρ.2.2.2.2.1.2.2.2.2.2.2.2.1 ρ.2.2.2.2.1.2.2.2.2.2.2.2.2.1 ρ.2.2.2.2.1.2.2.2.2.2.2.2.2.2.1 ρ.2.2.2.2.2.1
def af (n:Nat) (K:XE→List AV→fa→Option OutS) (m:Nat) (hosts3:(Sq T2)) (now3:Int) (t31:Int) (t32:Int) (l2:(Sq U0)) (costs2:(Sq Int)) (seen2:(Sq BA)) (r3:(Sq Int)) (t30:(Sq T1)):Option OutS:=ze tys (ea OutS (jb n)) (rb n) n (Ba [1,1,1,1,0,1,0,0] (aa Tryz.f64)) 2 dh ch K m (hosts3,(now3,(t31,(t32,())))) (l2,(costs2,(seen2,(r3,(t30,((),()))))))
theorem Xp (n:Nat) (K:XE→List AV→fa→Option OutS):∀ (m:Nat) hosts3 now3 t31 t32 l2 costs2 seen2 r3 t30,af n K m hosts3 now3 t31 t32 l2 costs2 seen2 r3 t30=(Ac n m hosts3 now3 t31 t32 l2 costs2 seen2 r3 t30).bind (Vb K)
 | 0,_,_,_,_,_,_,_,_,_=>by kernel_rfl
 | m+1,hosts3,now3,t31,t32,l2,costs2,seen2,r3,t30=>by
  have h1:af n K (m+1) hosts3 now3 t31 t32 l2 costs2 seen2 r3 t30=Jh n hosts3 now3 t31 t32 l2 costs2 seen2 r3 t30 (af n K m) (fun a=>Vb K (.out a)) (fun a=>Vb K (.ret a)) (fun p=>Vb K (.pan p)):=by kernel_rfl
  have h2:af n K m=fun hosts3 now3 t31 t32 l2 costs2 seen2 r3 t30=>(Ac n m hosts3 now3 t31 t32 l2 costs2 seen2 r3 t30).bind (Vb K):=by
   repeat (refine funext fun _=>?_)
   exact Xp n K m _ _ _ _ _ _ _ _ _
  rw [h1,h2];exact (UA n m _ _ _ _ _ _ _ _ _ (Vb K)).symm
theorem kz (n:Nat):Wd tys (ea OutS (jb n)) (rb n) n (Ba [1,1,1,1,0,1,0,0] (aa Tryz.f64)) 2:=Qa (sp:=dh) (rp:=ch) (by kernel_rfl) fun K σ ρ=>Xp n K n σ.1 σ.2.1 σ.2.2.1 σ.2.2.2.1 ρ.1 ρ.2.1 ρ.2.2.1 ρ.2.2.2.1 ρ.2.2.2.2.1
theorem WA (n:Nat):sa tys (ea OutS (jb n)) (rb n) n (aa Tryz.f64) 0:=⟨trivial,⟨trivial,⟨⟨trivial,⟨jz n,⟨trivial,⟨⟨trivial,trivial⟩,⟨⟨trivial,trivial⟩,trivial⟩⟩⟩⟩⟩,⟨trivial,⟨⟨trivial,⟨kz n,⟨trivial,⟨⟨trivial,trivial⟩,⟨⟨trivial,⟨trivial,⟨lz n,⟨trivial,⟨⟨trivial,trivial⟩,⟨⟨trivial,⟨trivial,⟨⟨trivial,⟨trivial,trivial⟩⟩,⟨trivial,⟨trivial,⟨trivial,trivial⟩⟩⟩⟩⟩⟩,trivial⟩⟩⟩⟩⟩⟩,trivial⟩⟩⟩⟩⟩,⟨trivial,trivial⟩⟩⟩⟩⟩⟩
theorem kD (n:Nat):Enters Tryz.prog 64:=enters_of (c:=aa Tryz.f64) Tryz.func64 (by kernel_rfl) (by kernel_rfl)
def Hm:List RSp:=[.agg [.dat (.int .i64),.row 0],.one (.dat (.sl K2)),.one (.dat (.sl .str)),.one (.dat (.int .i64))]
def Gm:List RS:=[.row 59 10 K3 false false]
def lD:List Sl:=[.top,.top,.top,.top]
def mD:List RSp:=[.one (.row 0),.one (.row 1)]
def Yf:List RS:=[.row 33 4 K4 true false,.row 3 1 (.int .i64) true false]
def tj (y:U4):OutS:=⟨false,An (Ie Yf (y.1,(y.2.1,()))) lD (),SD (FC (Ie Yf (y.1,(y.2.1,()))) mD ((),((),()))),fu (Ie Yf (y.1,(y.2.1,()))) Yf (y.1,(y.2.1,()))⟩
theorem su (n:Nat):EntryOk Tryz.prog gl ⟨64,Ae,none,some (lV Hm Gm (fun σ ρ=>Zg n σ.1.1 σ.2.1.1 σ.2.2.1.1 σ.2.2.2.1.1 ρ.1) tj)⟩:=
 Ki (kD n) fun σ ρ y h=>Ab tys_ok (ul n) mixed (hint:=rb n) (n:=n) Tryz.func64 (Ra (WA n)) (oa (φ:=fun y=>some (tj y)) (by kernel_rfl) (BG n σ.1.1 σ.2.1.1 σ.2.2.1.1 σ.2.2.2.1.1 ρ.1 _) h)
def Fm (n:Nat):List Entry:=⟨64,Ae,none,some (lV Hm Gm (fun σ ρ=>Zg n σ.1.1 σ.2.1.1 σ.2.2.1.1 σ.2.2.2.1.1 ρ.1) tj)⟩::jb n
theorem On (n:Nat):AllOk Tryz.prog gl (Fm n):=.cons (su n) (ul n)
def Mm (n:Nat) {R:Type} (s:Int) (hosts:(Sq T2)) (busy:(Sq BA)) (now:Int) (r0:(Sq T1)) (k:U3→Option R):Option R:=
 (wi n (s,(r0,()))).bind fun v=>
 if (!v)=false then
 (Tc n hosts).bind fun v1=>
 if (!v1)=false then
  (ci n now).bind fun v2=>
  if (!v2)=true then
  k ((1:Int),((⟨0,fun _=>ra K4⟩:Sq U0),((⟨0,fun _=>ra (.int .i64)⟩:Sq Int),())))
  else
  (Zg n s hosts busy now r0).bind fun v3=>
  k ((0:Int),(v3.1,(v3.2.1,())))
 else
  k ((1:Int),((⟨0,fun _=>ra K4⟩:Sq U0),((⟨0,fun _=>ra (.int .i64)⟩:Sq Int),())))
 else
 k ((1:Int),((⟨0,fun _=>ra K4⟩:Sq U0),((⟨0,fun _=>ra (.int .i64)⟩:Sq Int),())))
def me (n:Nat) (s:Int) (hosts:(Sq T2)) (busy:(Sq BA)) (now:Int) (r0:(Sq T1)):Option U3:=Mm n s hosts busy now r0 some
theorem DE (n:Nat) {S:Type}:∀ s hosts busy now r0 (φ:_→Option S),(me n s hosts busy now r0).bind φ=Mm n s hosts busy now r0 φ:=by
 intros;unfold me Mm;first | (simp only [ia,ba,iB,bB,oL,oX,nB,Option.bind_some]) | rfl
def Tn (n:Nat):Hint OutS:={ live:=fun c=>[],run:=fun c=>none,xm:=fun c q=>none }
theorem qz (n:Nat):sa tys (ea OutS (Fm n)) (Tn n) n (aa Tryz.f17) 0:=la (fun _=>rfl) _ _ (by kernel_rfl)
theorem kB (n:Nat):Enters Tryz.prog 17:=enters_of (c:=aa Tryz.f17) Tryz.func17 (by kernel_rfl) (by kernel_rfl)
def sk:List RSp:=[.agg [.dat (.int .i64),.row 0],.one (.dat (.sl K2)),.one (.dat (.sl .str)),.one (.dat (.int .i64))]
def rk:List RS:=[.row 59 10 K3 false false]
def lB:List Sl:=[.top,.top,.top,.top]
def mB:List RSp:=[.one (.row 0),.one (.row 1),.one (.dat (.int .i64))]
def ff:List RS:=[.row 33 4 K4 true false,.row 3 1 (.int .i64) true false]
def Oh (y:U3):OutS:=⟨false,An (Ie ff (y.2.1,(y.2.2.1,()))) lB (),SD (FC (Ie ff (y.2.1,(y.2.2.1,()))) mB ((),((),((y.1,()),())))),fu (Ie ff (y.2.1,(y.2.2.1,()))) ff (y.2.1,(y.2.2.1,()))⟩
theorem Lr (n:Nat):EntryOk Tryz.prog gl ⟨17,Ae,none,some (lV sk rk (fun σ ρ=>me n σ.1.1 σ.2.1.1 σ.2.2.1.1 σ.2.2.2.1.1 ρ.1) Oh)⟩:=
 Ki (kB n) fun σ ρ y h=>Ab tys_ok (On n) mixed (hint:=Tn n) (n:=n) Tryz.func17 (Ra (qz n)) (oa (φ:=fun y=>some (Oh y)) (by kernel_rfl) (DE n σ.1.1 σ.2.1.1 σ.2.2.1.1 σ.2.2.2.1.1 ρ.1 _) h)
def qk (n:Nat):List Entry:=⟨17,Ae,none,some (lV sk rk (fun σ ρ=>me n σ.1.1 σ.2.1.1 σ.2.2.1.1 σ.2.2.2.1.1 ρ.1) Oh)⟩::Fm n
theorem vl (n:Nat):AllOk Tryz.prog gl (qk n):=.cons (Lr n) (On n)
def Rm (n:Nat) {R:Type} (k:T1→Option R):Option R:=
 k ((1:Int),((0:Int),(false,(((⟨#[97]⟩:BA),((⟨#[120]⟩:BA),())),((⟨1,fun q=>List.getD (α:=T0) [(((⟨#[97]⟩:BA),((⟨#[120]⟩:BA),())),((0:Int),((0:Int),((0:Int),((0:Int),())))))] q (ra K0)⟩:Sq T0),((⟨#[]⟩:BA),((0:Int),(false,(false,())))))))))
def xl (n:Nat):Option T1:=Rm n some
theorem IE (n:Nat) {S:Type}:∀ (φ:_→Option S),(xl n).bind φ=Rm n φ:=by
 intros;unfold xl Rm;first | (simp only [ia,ba,iB,bB,oL,oX,nB,Option.bind_some]) | rfl
def Wn (n:Nat):Hint Out:={ live:=fun c=>[],run:=fun c=>none,xm:=fun c q=>none }
theorem vz (n:Nat):sa tys (ea Out (qk n)) (Wn n) n (aa Tryz.f30) 0:=la (fun _=>rfl) _ _ (by kernel_rfl)
theorem rB (n:Nat):Enters Tryz.prog 30:=enters_of (c:=aa Tryz.f30) Tryz.func30 (by kernel_rfl) (by kernel_rfl)
def vk (n:Nat):Entry:=⟨30,RV .unit (.one K3) (fun xs=>xl n),none,none⟩
theorem Yr (n:Nat):EntryOk Tryz.prog gl (vk n):=
 Ha (rB n) fun xs y h=>qa tys_ok (vl n) mixed (hint:=Wn n) (n:=n) Tryz.func30 (Ra (vz n)) (oa (φ:=(fun y=>some (Out.ret (Od (.one K3) y)))) (by kernel_rfl) (IE n  _) h)
def qe (n:Nat):List Entry:=vk n::qk n
theorem yl (n:Nat):AllOk Tryz.prog gl (qe n):=.cons (Yr n) (vl n)
def gg (n:Nat) {R:Type} (a1 b1:(Sq Int)) (i:Int) (kn:(Sq Int)→(Sq Int)→Int→Option R) (ko:(Unit)→Option R) (kr:(Bool)→Option R) (kp:Int→Option R):Option R:=
 if (decide (i<(a1.n:Int)))=true then
 if 0≤i∧i<(a1.n:Int) then
  if 0≤i∧i<(b1.n:Int) then
  if ((a1.at' (Int.toNat i)) !=(b1.at' (Int.toNat i)))=true then
   kr false
  else
   kn a1 b1 (IntKind.wrap .i64 (i+(1:Int)))
  else
  none
 else
  none
 else
 ko ()
def Hb (n:Nat):Nat→(Sq Int)→(Sq Int)→Int→Option (Lx (Unit) (Bool))
 | 0,_,_,_=>none
 | m+1,a1,b1,i=>gg n a1 b1 i (Hb n m) (fun a=>some (.out a)) (fun a=>some (.ret a)) (fun p=>some (.pan p))
theorem yz (n m:Nat) {S:Type}:∀ a1 b1 i (φ:_→Option S),(Hb n (m+1) a1 b1 i).bind φ=gg n a1 b1 i (fun a1 b1 i=>(Hb n m a1 b1 i).bind φ) (fun a=>φ (.out a)) (fun a=>φ (.ret a)) (fun p=>φ (.pan p)):=by
 intros;first | (simp only [Hb,gg,ia,ba,iB,bB,oL,oX,nB,Option.bind_some]) | rfl
def jg:List Sl:=.dat (.sl (.int .i64))::.dat (.sl (.int .i64))::.top::.top::.top::.dat (.int .i64)::tp 20 []
def ig:List RS:=[]
def pq:List Sl:=tp 26 []
def oq:List RS:=[]
def rq:List Sl:=tp 4 (.dat .bool::tp 21 [])
def qq:List RS:=[]
def Cb (K:XE→List AV→fa→Option Out):Lx (Unit) (Bool)→Option Out:=fun x=>LV x (fun a=>ql pq oq () () (K (.exit 0))) (fun a=>ql rq qq (a,()) () (K .ret)) (fun _=>none)
def Vm (n:Nat) {R:Type} (a b:(Sq Int)) (k:Bool→Option R):Option R:=
 if ((a.n:Int) !=(b.n:Int))=true then
 k false
 else
 (Hb n n a b (0:Int)).bind fun x_1=>LV x_1
  (fun a_2=>
  k true)
  (fun a_3=>
  k a_3)
  (fun _=>none)
def Cl (n:Nat) (a b:(Sq Int)):Option Bool:=Vm n a b some
theorem KE (n:Nat) {S:Type}:∀ a b (φ:_→Option S),(Cl n a b).bind φ=Vm n a b φ:=by
 intros;unfold Cl Vm;first | (simp only [ia,ba,iB,bB,oL,oX,nB,Option.bind_some]) | rfl
def Ce (n:Nat):Hint Out:={ live:=fun c=>(cond (Nat.beq c 0) [(0,some (.sl (.int .i64))),(1,some (.sl (.int .i64))),(5,none)] []),run:=fun c=>(cond (Nat.beq c 0) (some (sq jg ig fun σ ρ K=>(Hb n n σ.1 σ.2.1 σ.2.2.1).bind (Cb K))) none),xm:=fun c q=>(cond (Nat.beq c 0&&Nat.beq (q.getD 1000000) 0&&q.isSome) (some []) (cond (Nat.beq c 1&&q.isNone) (some [(4,none)]) none)) }
def Be (n:Nat) (K:XE→List AV→fa→Option Out) (m:Nat) (a1:(Sq Int)) (b1:(Sq Int)) (i:Int):Option Out:=ze tys (ea Out (qe n)) (Ce n) n (Ba [1,1,0,1,0,0] (aa Tryz.f26)) 0 jg ig K m (a1,(b1,(i,()))) ()
theorem bo (n:Nat) (K:XE→List AV→fa→Option Out):∀ (m:Nat) a1 b1 i,Be n K m a1 b1 i=(Hb n m a1 b1 i).bind (Cb K)
 | 0,_,_,_=>by kernel_rfl
 | m+1,a1,b1,i=>by
  have h1:Be n K (m+1) a1 b1 i=gg n a1 b1 i (Be n K m) (fun a=>Cb K (.out a)) (fun a=>Cb K (.ret a)) (fun p=>Cb K (.pan p)):=by kernel_rfl
  have h2:Be n K m=fun a1 b1 i=>(Hb n m a1 b1 i).bind (Cb K):=by
   repeat (refine funext fun _=>?_)
   exact bo n K m _ _ _
  rw [h1,h2];exact (yz n m _ _ _ (Cb K)).symm
theorem Ux (n:Nat):Wd tys (ea Out (qe n)) (Ce n) n (Ba [1,1,0,1,0,0] (aa Tryz.f26)) 0:=Qa (sp:=jg) (rp:=ig) (by kernel_rfl) fun K σ ρ=>bo n K n σ.1 σ.2.1 σ.2.2.1
theorem zz (n:Nat):sa tys (ea Out (qe n)) (Ce n) n (aa Tryz.f26) 0:=⟨trivial,⟨⟨trivial,⟨⟨trivial,trivial⟩,trivial⟩⟩,⟨⟨trivial,⟨Ux n,⟨⟨trivial,⟨trivial,trivial⟩⟩,⟨⟨trivial,⟨⟨trivial,trivial⟩,trivial⟩⟩,trivial⟩⟩⟩⟩,⟨trivial,trivial⟩⟩⟩⟩
theorem vB (n:Nat):Enters Tryz.prog 26:=enters_of (c:=aa Tryz.f26) Tryz.func26 (by kernel_rfl) (by kernel_rfl)
def Bk (n:Nat):Entry:=⟨26,RV (.pair (.sl (.int .i64)) (.pair (.sl (.int .i64)) .unit)) (.one .bool) (fun xs=>Cl n xs.1 xs.2.1),none,none⟩
theorem ss (n:Nat):EntryOk Tryz.prog gl (Bk n):=
 Ha (vB n) fun xs y h=>qa tys_ok (yl n) mixed (hint:=Ce n) (n:=n) Tryz.func26 (Ra (zz n)) (oa (φ:=(fun y=>some (Out.ret (Od (.one .bool) y)))) (by kernel_rfl) (KE n xs.1 xs.2.1 _) h)
def qs (n:Nat):List Entry:=Bk n::qe n
theorem Vx (n:Nat):AllOk Tryz.prog gl (qs n):=.cons (ss n) (yl n)
def zk (n:Nat):List Entry:=Bk n::vk n::⟨17,Ae,none,some (lV sk rk (fun σ ρ=>me n σ.1.1 σ.2.1.1 σ.2.2.1.1 σ.2.2.2.1.1 ρ.1) Oh)⟩::⟨64,Ae,none,some (lV Hm Gm (fun σ ρ=>Zg n σ.1.1 σ.2.1.1 σ.2.2.1.1 σ.2.2.2.1.1 ρ.1) tj)⟩::⟨17,Ae,none,some (lV nk jk (fun σ ρ=>rd n σ.1.1 σ.2.2.2.1.1 ρ.1 ρ.2.1 ρ.2.2.1) Nh)⟩::⟨64,Ae,none,some (lV Em Dm (fun σ ρ=>Sg n σ.1.1 σ.2.2.2.1.1 ρ.1 ρ.2.1 ρ.2.2.1) sj)⟩::ph n::⟨17,Ae,none,some (lV ik fk (fun σ ρ=>le n σ.1.1 σ.2.2.2.1.1 ρ.1 ρ.2.1 ρ.2.2.1) Mh)⟩::⟨64,Ae,none,some (lV Bm Am (fun σ ρ=>Lg n σ.1.1 σ.2.2.2.1.1 ρ.1 ρ.2.1 ρ.2.2.1) rj)⟩::cg n::np n::nh n::⟨17,Ae,none,some (lV dk ck (fun σ ρ=>Cc n σ.1.1 σ.2.2.2.1.1 ρ.1 ρ.2.1 ρ.2.2.1) Lh)⟩::⟨64,Ae,none,some (lV ym wm (fun σ ρ=>Eg n σ.1.1 σ.2.2.2.1.1 ρ.1 ρ.2.1 ρ.2.2.1) qj)⟩::Gr n::wv n::No n::Nm n::Qr n::Lj n::Dr n::⟨202,Ae,none,some (lV Ga Fa (fun σ ρ=>ta n σ.1.1 σ.2.1.1) Aa)⟩::Im n::Bp n::⟨233,RV (.pair .str (.pair .str .unit)) (.one (.int .i64)) (fun xs=>OB xs.1 xs.2.1),none,none⟩::Cv n::Mr n::Vr n::Pm n::Ci n::Le n::Lo n::Fs n::qp n::Ov n::As n::⟨219,Ae,some (.flat HM),none⟩::vv n::⟨116,Ae,some (.flat dt),none⟩::Bg n::Ps n::Ii n::sv n::mv n::Fq n::⟨214,RV (.pair .str (.pair .str .unit)) (.one .bool) (fun xs=>RL xs.1 xs.2.1),none,none⟩::FD n::LC n::Oo n::Rq n::eC n::Mu n::Fy n::⟨103,RV (.pair .str .unit) (.one .bool) (fun xs=>vf n xs.1),none,none⟩::Ou n::Ao n::⟨157,RV (.pair (.int .i64) .unit) (.one .str) (fun xs=>iL xs.1),none,none⟩::⟨196,fun {R}=>tK (R:=R) 260,none,none⟩::nw n::en n::kw n::lw n::⟨238,RV (.pair .str (.pair .str .unit)) (.one (.int .i64)) (fun xs=>uF xs.1 xs.2.1),none,none⟩::⟨250,Ae,some (.flat EI),none⟩::Ok n::Rj n::Dj n::Xu n::Qu n::Su n::Ru n::yy n::Qk n::Tj n::⟨285,Ae,some (.flat vo),none⟩::Gy n::wq n::⟨288,Ae,none,some (lV og ng (fun σ ρ=>La n σ.2.1.1 ρ.2.1) Ee)⟩::⟨275,Ae,none,some (lV ug tg (fun σ ρ=>pd n ρ.2.1) Ge)⟩::⟨246,Ae,none,some (lV Gk Fk (fun σ ρ=>se n ρ.2.1) Rh)⟩::⟨288,Ae,none,some (lV mg lg (fun σ ρ=>fb n σ.2.1.1) De)⟩::⟨275,Ae,none,some (lV rg qg (fun σ ρ=>od n) Fe)⟩::⟨290,Ae,some .ident,none⟩::⟨246,Ae,none,some (lV Dk Ck (fun σ ρ=>Kf n) Qh)⟩::By n::Mk n::Pj n::bC n::lm n::HS n
theorem nq (n:Nat):AllOk Tryz.prog gl (zk n):=.cons (ss n) (.cons (Yr n) (.cons (Lr n) (.cons (su n) (.cons (Kr n) (.cons (ru n) (.cons (Zn n) (.cons (Jr n) (.cons (qu n) (.cons (Bl n) (.cons (Tx n) (.cons (Yn n) (.cons (Ir n) (.cons (ou n) (.cons (kA n) (.cons (ZC n) (.cons (rx n) (.cons (zu n) (.cons (mA n) (.cons (Cq n) (.cons (jA n) (.cons (Xa n) (.cons (tu n) (.cons (gy n) (.cons BC (.cons (rD n) (.cons (lA n) (.cons (nA n) (.cons (Bu n) (.cons (aq n) (.cons (Ji n) (.cons (kx n) (.cons (pA n) (.cons (Wx n) (.cons (zD n) (.cons (oA n) (.cons Xj (.cons (VC n) (.cons Uf (.cons (zn n) (.cons (sA n) (.cons (gq n) (.cons (PC n) (.cons (EC n) (.cons (bA n) (.cons cu (.cons (wI n) (.cons (QH n) (.cons (tx n) (.cons (gA n) (.cons (lH n) (.cons (iC n) (.cons (jF n) (.cons (Vt n) (.cons (Pu n) (.cons (Bo n) (.cons gM (.cons ML (.cons (KD n) (.cons (Ku n) (.cons (ED n) (.cons (mw n) (.cons RH (.cons Dn (.cons (Pk n) (.cons (Mq n) (.cons (Fj n) (.cons (xC n) (.cons (oC n) (.cons (rC n) (.cons (qC n) (.cons (fF n) (.cons (Ws n) (.cons (Nq n) (.cons Xh (.cons (lF n) (.cons (Yz n) (.cons (Il n) (.cons (Kl n) (.cons (Ms n) (.cons (Hl n) (.cons (Jl n) (.cons If (.cons (Ls n) (.cons (iF n) (.cons (Us n) (.cons (Lq n) (.cons (jH n) (.cons (mu n) (cJ n)))))))))))))))))))))))))))))))))))))))))))))))))))))))))))))))))))))))))))))))))))))))))
def bg (n:Nat) {R:Type} (k:Bool→Option R):Option R:=
 (xl n).bind fun v=>
 (me n (2:Int) (⟨0,fun _=>ra K2⟩:Sq T2) (⟨0,fun _=>ra .str⟩:Sq BA) (0:Int) (⟨1,fun q=>List.getD (α:=T1) [(v.1,(v.2.1,(v.2.2.1,((v.2.2.2.1.1,(v.2.2.2.1.2.1,())),(v.2.2.2.2.1,(v.2.2.2.2.2.1,(v.2.2.2.2.2.2.1,(v.2.2.2.2.2.2.2.1,(v.2.2.2.2.2.2.2.2.1,())))))))))] q (ra K3)⟩:Sq T1)).bind fun v1=>
 (Pa n v1.1).bind fun v2=>
 if (v2==(0:Int))=true then
 if ((v1.2.1.n:Int)==(1:Int))=true then
  if 0≤(0:Int)∧(0:Int)<(v1.2.1.n:Int) then
  if ((((((v1.2.1.at' (Int.toNat (0:Int)))).2).2).1).toList==(⟨#[120]⟩:BA).toList)=true then
   (Cl n v1.2.2.1 (⟨1,fun q=>List.getD (α:=Int) [(1000:Int)] q (ra (.int .i64))⟩:Sq Int)).bind fun v3=>
   k v3
  else
   k false
  else
  none
 else
  k false
 else
 k false
def lf (n:Nat):Option Bool:=bg n some
theorem Rx (n:Nat) {S:Type}:∀ (φ:_→Option S),(lf n).bind φ=bg n φ:=by
 intros;unfold lf bg;first | (simp only [ia,ba,iB,bB,oL,oX,nB,Option.bind_some]) | rfl
def qi (n:Nat):Hint Out:={ live:=fun c=>[],run:=fun c=>none,xm:=fun c q=>none }
theorem Zr (n:Nat):sa tys (ea Out (zk n)) (qi n) n (aa Tryz.f29) 0:=la (fun _=>rfl) _ _ (by kernel_rfl)
theorem Lt (n:Nat):Enters Tryz.prog 29:=enters_of (c:=aa Tryz.f29) Tryz.func29 (by kernel_rfl) (by kernel_rfl)
def xk (n:Nat):Entry:=⟨29,RV .unit (.one .bool) (fun xs=>lf n),none,none⟩
theorem Jv (n:Nat):EntryOk Tryz.prog gl (xk n):=
 Ha (Lt n) fun xs y h=>qa tys_ok (nq n) mixed (hint:=qi n) (n:=n) Tryz.func29 (Ra (Zr n)) (oa (φ:=(fun y=>some (Out.ret (Od (.one .bool) y)))) (by kernel_rfl) (Rx n  _) h)
def Bb (n:Nat):List Entry:=xk n::qs n
theorem mq (n:Nat):AllOk Tryz.prog gl (Bb n):=.cons (Jv n) (Vx n)
end
end Go.Proofs.YtdhehcnfkcibiaaGreatDoor.AM
