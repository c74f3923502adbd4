/- Typed functions that tell what the Go functions of this seat answer, and proofs of it, by program (gen.py). -/
import Derived.Test.YtdohilmgblkppaaGreatDoorZF0
set_option linter.all false
set_option linter.unusedVariables false
set_option linter.unusedSimpArgs false
set_option maxRecDepth 1000000
set_option maxHeartbeats 0
namespace Go.Proofs.YtdohilmgblkppaaGreatDoor.AM
open Go Go.RowKit
noncomputable section
def Nf (n:Nat) {R:Type} (s1 sep1:BA) (sepSave1 n01 i:Int) (a:(Sq BA)) (kn:BA→BA→Int→Int→Int→(Sq BA)→Option R) (ko:(BA×Int×(Sq BA))→Option R) (kr:Unit→Option R) (kp:Int→Option R):Option R:=if (decide (i<n01))=true then (wl n s1 sep1).bind fun v1=>if (decide (v1<(0:Int)))=true then ko (s1,i,a) else if 0≤(IntKind.wrap .i64 (v1+sepSave1))∧(IntKind.wrap .i64 (v1+sepSave1))≤(s1.size:Int) then if 0≤i∧i<(a.n:Int) then if 0≤(IntKind.wrap .i64 (v1+(sep1.size:Int)))∧(IntKind.wrap .i64 (v1+(sep1.size:Int)))≤(s1.size:Int) then kn (s1.extract (Int.toNat (IntKind.wrap .i64 (v1+(sep1.size:Int)))) (Int.toNat (s1.size:Int))) sep1 sepSave1 n01 (IntKind.wrap .i64 (i+(1:Int))) (⟨a.n,fun q=>if q=(Int.toNat i)∧q<a.n then (s1.extract (Int.toNat (0:Int)) (Int.toNat (IntKind.wrap .i64 (v1+sepSave1)))) else a.at' q⟩:Sq BA) else none else none else none else ko (s1,i,a)
def qb (n:Nat):Nat→BA→BA→Int→Int→Int→(Sq BA)→Option (Lx (BA×Int×(Sq BA)) Unit)
 | 0,_,_,_,_,_,_=>none
 | m+1,s1,sep1,sepSave1,n01,i,a=>Nf n s1 sep1 sepSave1 n01 i a (qb n m) (fun a=>some (.out a)) (fun a=>some (.ret a)) (fun p=>some (.pan p))
theorem EP (n m:Nat) {S:Type}:∀ s1 sep1 sepSave1 n01 i a (φ:_→Option S),(qb n (m+1) s1 sep1 sepSave1 n01 i a).bind φ=Nf n s1 sep1 sepSave1 n01 i a (fun s1 sep1 sepSave1 n01 i a=>(qb n m s1 sep1 sepSave1 n01 i a).bind φ) (fun a=>φ (.out a)) (fun a=>φ (.ret a)) (fun p=>φ (.pan p)):=by
  intros;first | (simp only [qb,Nf,la,fa,iB,bB,oL,oX,nB,Option.bind_some]) | rfl
def tk:List Sl:=.dat .str::.dat .str::.dat (.int .i64)::.dat (.int .i64)::tp 5 (.row 0::.dat (.int .i64)::tp 55 [])
def rk:List RS:=[.row 9 1 .str false false]
def pB:List Sl:=.dat .str::tp 8 (.row 0::.dat (.int .i64)::tp 55 [])
def oB:List RS:=[.row 9 1 .str false false]
def Lc (K:XE→List AV→pa→Option Out):Lx (BA×Int×(Sq BA)) Unit→Option Out:=fun x=>onL x (fun a=>vc pB oB (a.1,(a.2.1,())) (a.2.2,()) (K (.exit 0))) (fun _=>none) (fun _=>none)
def mo (n:Nat) {R:Type} (s sep:BA) (sepSave n0:Int) (k:(Sq BA)→Option R):Option R:=if (n0==(0:Int))=true then k (⟨0,fun _=>ua .str⟩:Sq BA) else if (sep.toList==(⟨#[]⟩:BA).toList)=true then none else if (decide (n0<(0:Int)))=true then (PC n s sep).bind fun v=>if 0≤(if (IntKind.wrap .i64 ((s.size:Int)+(1:Int)))<(IntKind.wrap .i64 (v+(1:Int))) then (IntKind.wrap .i64 ((s.size:Int)+(1:Int))) else (IntKind.wrap .i64 (v+(1:Int))))∧(if (IntKind.wrap .i64 ((s.size:Int)+(1:Int)))<(IntKind.wrap .i64 (v+(1:Int))) then (IntKind.wrap .i64 ((s.size:Int)+(1:Int))) else (IntKind.wrap .i64 (v+(1:Int))))≤(if (IntKind.wrap .i64 ((s.size:Int)+(1:Int)))<(IntKind.wrap .i64 (v+(1:Int))) then (IntKind.wrap .i64 ((s.size:Int)+(1:Int))) else (IntKind.wrap .i64 (v+(1:Int)))) then if zb (Int.toNat (if (IntKind.wrap .i64 ((s.size:Int)+(1:Int)))<(IntKind.wrap .i64 (v+(1:Int))) then (IntKind.wrap .i64 ((s.size:Int)+(1:Int))) else (IntKind.wrap .i64 (v+(1:Int))))) 16=true then (qb n n s sep sepSave (IntKind.wrap .i64 ((if (IntKind.wrap .i64 ((s.size:Int)+(1:Int)))<(IntKind.wrap .i64 (v+(1:Int))) then (IntKind.wrap .i64 ((s.size:Int)+(1:Int))) else (IntKind.wrap .i64 (v+(1:Int)))) - (1:Int))) (0:Int) (⟨(Int.toNat (if (IntKind.wrap .i64 ((s.size:Int)+(1:Int)))<(IntKind.wrap .i64 (v+(1:Int))) then (IntKind.wrap .i64 ((s.size:Int)+(1:Int))) else (IntKind.wrap .i64 (v+(1:Int))))),fun _=>(⟨#[]⟩:BA)⟩:Sq BA)).bind fun x_1=>onL x_1
 (fun a_2=>if 0≤a_2.2.1∧a_2.2.1<(a_2.2.2.n:Int) then if 0≤(IntKind.wrap .i64 (a_2.2.1+(1:Int)))∧(IntKind.wrap .i64 (a_2.2.1+(1:Int)))≤(a_2.2.2.n:Int) then k (⟨((Int.toNat (IntKind.wrap .i64 (a_2.2.1+(1:Int)))) - (Int.toNat (0:Int))),fun i=>(fun q=>if q=(Int.toNat a_2.2.1)∧q<a_2.2.2.n then a_2.1 else a_2.2.2.at' q) ((Int.toNat (0:Int))+i)⟩:Sq BA) else none else none) (fun _=>none) (fun _=>none) else none else none else if 0≤(if (IntKind.wrap .i64 ((s.size:Int)+(1:Int)))<n0 then (IntKind.wrap .i64 ((s.size:Int)+(1:Int))) else n0)∧(if (IntKind.wrap .i64 ((s.size:Int)+(1:Int)))<n0 then (IntKind.wrap .i64 ((s.size:Int)+(1:Int))) else n0)≤(if (IntKind.wrap .i64 ((s.size:Int)+(1:Int)))<n0 then (IntKind.wrap .i64 ((s.size:Int)+(1:Int))) else n0) then if zb (Int.toNat (if (IntKind.wrap .i64 ((s.size:Int)+(1:Int)))<n0 then (IntKind.wrap .i64 ((s.size:Int)+(1:Int))) else n0)) 16=true then (qb n n s sep sepSave (IntKind.wrap .i64 ((if (IntKind.wrap .i64 ((s.size:Int)+(1:Int)))<n0 then (IntKind.wrap .i64 ((s.size:Int)+(1:Int))) else n0) - (1:Int))) (0:Int) (⟨(Int.toNat (if (IntKind.wrap .i64 ((s.size:Int)+(1:Int)))<n0 then (IntKind.wrap .i64 ((s.size:Int)+(1:Int))) else n0)),fun _=>(⟨#[]⟩:BA)⟩:Sq BA)).bind fun x_3=>onL x_3 (fun a_4=>if 0≤a_4.2.1∧a_4.2.1<(a_4.2.2.n:Int) then if 0≤(IntKind.wrap .i64 (a_4.2.1+(1:Int)))∧(IntKind.wrap .i64 (a_4.2.1+(1:Int)))≤(a_4.2.2.n:Int) then
 k (⟨((Int.toNat (IntKind.wrap .i64 (a_4.2.1+(1:Int)))) - (Int.toNat (0:Int))),fun i=>(fun q=>if q=(Int.toNat a_4.2.1)∧q<a_4.2.2.n then a_4.1 else a_4.2.2.at' q) ((Int.toNat (0:Int))+i)⟩:Sq BA) else none else none) (fun _=>none) (fun _=>none) else none else none
def bq (n:Nat) (s sep:BA) (sepSave n0:Int):Option (Sq BA):=mo n s sep sepSave n0 some
theorem nZ (n:Nat) {S:Type}:∀ s sep sepSave n0 (φ:_→Option S),(bq n s sep sepSave n0).bind φ=mo n s sep sepSave n0 φ:=by
  intros;unfold bq mo;first | (simp only [la,fa,iB,bB,oL,oX,nB,Option.bind_some]) | rfl
def Sh (n:Nat):Hint Out:={ live:=fun c=>(cond (Nat.beq c 0) [(0,none),(1,none),(2,none),(3,none),(9,some (.sl .str)),(10,none)] []),run:=fun c=>(cond (Nat.beq c 0) (some (Ng tk rk fun σ ρ K=>(qb n n σ.1 σ.2.1 σ.2.2.1 σ.2.2.2.1 σ.2.2.2.2.1 ρ.1).bind (Lc K))) none),xm:=fun c q=>(cond (Nat.beq c 0&&Nat.beq (q.getD 1000000) 0&&q.isSome) (some [(0,none),(9,some (.sl .str)),(10,none)]) (cond (Nat.beq c 1&&Nat.beq (q.getD 1000000) 0&&q.isSome) (some [(0,none),(9,some (.sl .str)),(10,none)]) none)) }
def Rh (n:Nat) (K:XE→List AV→pa→Option Out) (m:Nat) (s1:BA) (sep1:BA) (sepSave1:Int) (n01:Int) (i:Int) (a:(Sq BA)):Option Out:=Oc tys (ja Out (Vp n)) (Sh n) n (ya [1,1,1,1,1,1,1,1,0,0,0] (ia Tryz.f164)) 0 tk rk K m (s1,(sep1,(sepSave1,(n01,(i,()))))) (a,())
theorem dy (n:Nat) (K:XE→List AV→pa→Option Out):∀ (m:Nat) s1 sep1 sepSave1 n01 i a,Rh n K m s1 sep1 sepSave1 n01 i a=(qb n m s1 sep1 sepSave1 n01 i a).bind (Lc K)
  | 0,_,_,_,_,_,_=>by kernel_rfl
  | m+1,s1,sep1,sepSave1,n01,i,a=>by
    have h1:Rh n K (m+1) s1 sep1 sepSave1 n01 i a=Nf n s1 sep1 sepSave1 n01 i a (Rh n K m) (fun a=>Lc K (.out a)) (fun a=>Lc K (.ret a)) (fun p=>Lc K (.pan p)):=by kernel_rfl
    have h2:Rh n K m=fun s1 sep1 sepSave1 n01 i a=>(qb n m s1 sep1 sepSave1 n01 i a).bind (Lc K):=by
      repeat (refine funext fun _=>?_)
      exact dy n K m _ _ _ _ _ _
    rw [h1,h2];exact (EP n m _ _ _ _ _ _ (Lc K)).symm
theorem PM (n:Nat):yc tys (ja Out (Vp n)) (Sh n) n (ya [1,1,1,1,1,1,1,1,0,0,0] (ia Tryz.f164)) 0:=Fa (sp:=tk) (rp:=rk) (by kernel_rfl) fun K σ ρ=>dy n K n σ.1 σ.2.1 σ.2.2.1 σ.2.2.2.1 σ.2.2.2.2.1 ρ.1
theorem FP (n:Nat):ra tys (ja Out (Vp n)) (Sh n) n (ia Tryz.f164) 0:=⟨aa,⟨⟨aa,⟨⟨aa,aa⟩,aa⟩⟩,⟨⟨aa,⟨⟨aa,aa⟩,aa⟩⟩,⟨⟨aa,⟨aa,aa⟩⟩,⟨aa,⟨aa,⟨aa,⟨aa,⟨⟨PM n,⟨⟨aa,⟨aa,aa⟩⟩,⟨aa,⟨⟨aa,⟨aa,aa⟩⟩,⟨aa,⟨aa,aa⟩⟩⟩⟩⟩⟩,⟨aa,⟨aa,aa⟩⟩⟩⟩⟩⟩⟩⟩⟩⟩⟩
theorem wT (n:Nat):Enters Tryz.prog 164:=enters_of (c:=ia Tryz.f164) Tryz.func164 (by kernel_rfl) (by kernel_rfl)
def WE (n:Nat):Entry:=⟨164,pcT K7 (.one (.sl .str)) (fun xs=>bq n xs.1 xs.2.1 xs.2.2.1 xs.2.2.2.1),none,none⟩
theorem RV (n:Nat):EntryOk Tryz.prog gl (WE n):=Aa (wT n) fun xs y h=>oa tys_ok (UE n) mixed (hint:=Sh n) (n:=n) Tryz.func164 (Ba (FP n)) (ma (φ:=(fun y=>some (Out.ret (rb (.one (.sl .str)) y)))) (by kernel_rfl) (nZ n xs.1 xs.2.1 xs.2.2.1 xs.2.2.2.1 _) h)
def Ut (n:Nat):List Entry:=WE n::Vp n
theorem Dv (n:Nat):AllOk Tryz.prog gl (Ut n):=.cons (RV n) (UE n)
def TC (n:Nat) {R:Type} (s sep:BA) (k:(Sq BA)→Option R):Option R:=(bq n s sep (0:Int) (-1:Int)).bind fun v=>k v
def SC (n:Nat) (s sep:BA):Option (Sq BA):=TC n s sep some
theorem Ycb (n:Nat) {S:Type}:∀ s sep (φ:_→Option S),(SC n s sep).bind φ=TC n s sep φ:=by
  intros;unfold SC TC;first | (simp only [la,fa,iB,bB,oL,oX,nB,Option.bind_some]) | rfl
def IK (n:Nat):Hint Out:={ live:=fun c=>[],run:=fun c=>none,xm:=fun c q=>none }
theorem mZ (n:Nat):ra tys (ja Out (Ut n)) (IK n) n (ia Tryz.f142) 0:=na (fun _=>rfl) _ _ (by kernel_rfl)
theorem r5 (n:Nat):Enters Tryz.prog 142:=enters_of (c:=ia Tryz.f142) Tryz.func142 (by kernel_rfl) (by kernel_rfl)
def tT (n:Nat):Entry:=⟨142,pcT (.pair .str (.pair .str .unit)) (.one (.sl .str)) (fun xs=>SC n xs.1 xs.2.1),none,none⟩
theorem Z8 (n:Nat):EntryOk Tryz.prog gl (tT n):=Aa (r5 n) fun xs y h=>oa tys_ok (Dv n) mixed (hint:=IK n) (n:=n) Tryz.func142 (Ba (mZ n)) (ma (φ:=(fun y=>some (Out.ret (rb (.one (.sl .str)) y)))) (by kernel_rfl) (Ycb n xs.1 xs.2.1 _) h)
def uT (n:Nat):List Entry:=tT n::Ut n
theorem QV (n:Nat):AllOk Tryz.prog gl (uT n):=.cons (Z8 n) (Dv n)
def qB (n:Nat):List Entry:=⟨143,fun {R}=>Zeb (R:=R) 196,none,none⟩::uT n
theorem KK (n:Nat):AllOk Tryz.prog gl (qB n):=.cons cjb (QV n)
def Fg (n:Nat):List Entry:=⟨82,pcT (.pair (.int .i64) .unit) (.one .str) (fun xs=>Aeb xs.1),none,none⟩::qB n
theorem Yr (n:Nat):AllOk Tryz.prog gl (Fg n):=.cons Ejb (KK n)
def Pg (n:Nat) {R:Type} (l t10:(Sq BA)) (t11 t12:Int) (kn:(Sq BA)→(Sq BA)→Int→Int→Option R) (ko:((Sq BA))→Option R) (kr:(Bool)→Option R) (kp:Int→Option R):Option R:=if (decide (t12<t11))=true then if 0≤t12∧t12<(t10.n:Int) then (Kgb (t10.at' (Int.toNat t12))).bind fun v1=>if v1.2=true then if (decide (v1.1<(0:Int)))=false then if (decide (v1.1>(255:Int)))=false then (Aeb v1.1).bind fun v2=>if (!(v2.toList==(t10.at' (Int.toNat t12)).toList))=true then kr false else kn l t10 t11 (IntKind.wrap .i64 (t12+(1:Int))) else kr false else kr false else kr false else none else ko l
def Rb (n:Nat):Nat→(Sq BA)→(Sq BA)→Int→Int→Option (Lx ((Sq BA)) (Bool))
 | 0,_,_,_,_=>none
 | m+1,l,t10,t11,t12=>Pg n l t10 t11 t12 (Rb n m) (fun a=>some (.out a)) (fun a=>some (.ret a)) (fun p=>some (.pan p))
theorem PQ (n m:Nat) {S:Type}:∀ l t10 t11 t12 (φ:_→Option S),(Rb n (m+1) l t10 t11 t12).bind φ=Pg n l t10 t11 t12 (fun l t10 t11 t12=>(Rb n m l t10 t11 t12).bind φ) (fun a=>φ (.out a)) (fun a=>φ (.ret a)) (fun p=>φ (.pan p)):=by
  intros;first | (simp only [Rb,Pg,la,fa,iB,bB,oL,oX,nB,Option.bind_some]) | rfl
def am:List Sl:=.top::.top::.top::.dat (.sl .str)::tp 6 (.dat (.sl .str)::.dat (.int .i64)::.dat (.int .i64)::tp 28 [])
def Zl:List RS:=[]
def ZC:List Sl:=.top::.top::.top::.dat (.sl .str)::tp 37 []
def YC:List RS:=[]
def bD:List Sl:=.top::.top::.dat .bool::tp 38 []
def aD:List RS:=[]
def gd (K:XE→List AV→pa→Option Out):Lx ((Sq BA)) (Bool)→Option Out:=fun x=>onL x (fun a=>vc ZC YC (a,()) () (K (.exit 0))) (fun a=>vc bD aD (a,()) () (K .ret)) (fun _=>none)
def Bq (n:Nat) {R:Type} (s:BA) (k:Bool→Option R):Option R:=(SC n s (⟨#[46]⟩:BA)).bind fun v=>(Rb n n v v (v.n:Int) (0:Int)).bind fun x_1=>onL x_1 (fun a_2=>k ((a_2.n:Int)==(4:Int))) (fun a_3=>k a_3) (fun _=>none)
def Oj (n:Nat) (s:BA):Option Bool:=Bq n s some
theorem o0 (n:Nat) {S:Type}:∀ s (φ:_→Option S),(Oj n s).bind φ=Bq n s φ:=by
  intros;unfold Oj Bq;first | (simp only [la,fa,iB,bB,oL,oX,nB,Option.bind_some]) | rfl
def Mi (n:Nat):Hint Out:={ live:=fun c=>(cond (Nat.beq c 0) [(3,some (.sl .str)),(10,some (.sl .str)),(11,none),(12,none)] []),run:=fun c=>(cond (Nat.beq c 0) (some (Ng am Zl fun σ ρ K=>(Rb n n σ.1 σ.2.1 σ.2.2.1 σ.2.2.2.1).bind (gd K))) none),xm:=fun c q=>(cond (Nat.beq c 0&&Nat.beq (q.getD 1000000) 0&&q.isSome) (some [(3,some (.sl .str))]) (cond (Nat.beq c 1&&q.isNone) (some [(2,none)]) none)) }
def Li (n:Nat) (K:XE→List AV→pa→Option Out) (m:Nat) (l:(Sq BA)) (t10:(Sq BA)) (t11:Int) (t12:Int):Option Out:=Oc tys (ja Out (Fg n)) (Mi n) n (ya [1,1,0,1,0,0] (ia Tryz.f120)) 0 am Zl K m (l,(t10,(t11,(t12,())))) ()
theorem iz (n:Nat) (K:XE→List AV→pa→Option Out):∀ (m:Nat) l t10 t11 t12,Li n K m l t10 t11 t12=(Rb n m l t10 t11 t12).bind (gd K)
  | 0,_,_,_,_=>by kernel_rfl
  | m+1,l,t10,t11,t12=>by
    have h1:Li n K (m+1) l t10 t11 t12=Pg n l t10 t11 t12 (Li n K m) (fun a=>gd K (.out a)) (fun a=>gd K (.ret a)) (fun p=>gd K (.pan p)):=by kernel_rfl
    have h2:Li n K m=fun l t10 t11 t12=>(Rb n m l t10 t11 t12).bind (gd K):=by
      repeat (refine funext fun _=>?_)
      exact iz n K m _ _ _ _
    rw [h1,h2];exact (PQ n m _ _ _ _ (gd K)).symm
theorem FO (n:Nat):yc tys (ja Out (Fg n)) (Mi n) n (ya [1,1,0,1,0,0] (ia Tryz.f120)) 0:=Fa (sp:=am) (rp:=Zl) (by kernel_rfl) fun K σ ρ=>iz n K n σ.1 σ.2.1 σ.2.2.1 σ.2.2.2.1
theorem QQ (n:Nat):ra tys (ja Out (Fg n)) (Mi n) n (ia Tryz.f120) 0:=⟨aa,⟨aa,⟨⟨aa,⟨FO n,⟨aa,⟨⟨aa,aa⟩,⟨⟨aa,⟨aa,⟨aa,⟨⟨aa,aa⟩,aa⟩⟩⟩⟩,aa⟩⟩⟩⟩⟩,⟨aa,aa⟩⟩⟩⟩
theorem oU (n:Nat):Enters Tryz.prog 120:=enters_of (c:=ia Tryz.f120) Tryz.func120 (by kernel_rfl) (by kernel_rfl)
def OH (n:Nat):Entry:=⟨120,pcT (.pair .str .unit) (.one .bool) (fun xs=>Oj n xs.1),none,none⟩
theorem PH (n:Nat):EntryOk Tryz.prog gl (OH n):=Aa (oU n) fun xs y h=>oa tys_ok (Yr n) mixed (hint:=Mi n) (n:=n) Tryz.func120 (Ba (QQ n)) (ma (φ:=(fun y=>some (Out.ret (rb (.one .bool) y)))) (by kernel_rfl) (o0 n xs.1 _) h)
def cw (n:Nat):List Entry:=OH n::Fg n
theorem Ex (n:Nat):AllOk Tryz.prog gl (cw n):=.cons (PH n) (Yr n)
def cI (n:Nat) {R:Type} (c:Int) (k:Bool→Option R):Option R:=if (decide (c≥(97:Int)))=true then if (decide (c≤(122:Int)))=false then if (decide (c≥(48:Int)))=true then k (decide (c≤(57:Int))) else k false else k true else if (decide (c≥(48:Int)))=true then k (decide (c≤(57:Int))) else k false
def lF (n:Nat) (c:Int):Option Bool:=cI n c some
theorem Ndb (n:Nat) {S:Type}:∀ c (φ:_→Option S),(lF n c).bind φ=cI n c φ:=by
  intros;unfold lF cI;first | (simp only [la,fa,iB,bB,oL,oX,nB,Option.bind_some]) | rfl
def BN (n:Nat):Hint Out:={ live:=fun c=>[],run:=fun c=>none,xm:=fun c q=>none }
theorem G0 (n:Nat):ra tys (ja Out (cw n)) (BN n) n (ia Tryz.f145) 0:=na (fun _=>rfl) _ _ (by kernel_rfl)
theorem O6 (n:Nat):Enters Tryz.prog 145:=enters_of (c:=ia Tryz.f145) Tryz.func145 (by kernel_rfl) (by kernel_rfl)
def fW (n:Nat):Entry:=⟨145,pcT (.pair (.int .u8) .unit) (.one .bool) (fun xs=>lF n xs.1),none,none⟩
theorem Kbb (n:Nat):EntryOk Tryz.prog gl (fW n):=Aa (O6 n) fun xs y h=>oa tys_ok (Ex n) mixed (hint:=BN n) (n:=n) Tryz.func145 (Ba (G0 n)) (ma (φ:=(fun y=>some (Out.ret (rb (.one .bool) y)))) (by kernel_rfl) (Ndb n xs.1 _) h)
def lu (n:Nat):List Entry:=fW n::cw n
theorem dI (n:Nat):AllOk Tryz.prog gl (lu n):=.cons (Kbb n) (Ex n)
def Nj (n:Nat) {R:Type} (s1:BA) (t5 t6:Int) (kn:BA→Int→Int→Option R) (ko:(BA)→Option R) (kr:(Bool)→Option R) (kp:Int→Option R):Option R:=if (decide (t6<t5))=true then if 0≤t6∧t6<(s1.size:Int) then (lF n (bt s1 t6)).bind fun v=>if (!v)=true then if 0≤t6∧t6<(s1.size:Int) then if ((bt s1 t6) !=(45:Int))=false then if (t6==(0:Int))=false then if (t6==(IntKind.wrap .i64 ((s1.size:Int) - (1:Int))))=true then kr false else kn s1 t5 (IntKind.wrap .i64 (t6+(1:Int))) else kr false else kr false else none else kn s1 t5 (IntKind.wrap .i64 (t6+(1:Int))) else none else ko s1
def ed (n:Nat):Nat→BA→Int→Int→Option (Lx (BA) (Bool))
 | 0,_,_,_=>none
 | m+1,s1,t5,t6=>Nj n s1 t5 t6 (ed n m) (fun a=>some (.out a)) (fun a=>some (.ret a)) (fun p=>some (.pan p))
theorem fX (n m:Nat) {S:Type}:∀ s1 t5 t6 (φ:_→Option S),(ed n (m+1) s1 t5 t6).bind φ=Nj n s1 t5 t6 (fun s1 t5 t6=>(ed n m s1 t5 t6).bind φ) (fun a=>φ (.out a)) (fun a=>φ (.ret a)) (fun p=>φ (.pan p)):=by
  intros;first | (simp only [ed,Nj,la,fa,iB,bB,oL,oX,nB,Option.bind_some]) | rfl
def Ps:List Sl:=.dat .str::tp 4 (.dat (.int .i64)::.dat (.int .i64)::tp 33 [])
def Ns:List RS:=[]
def LH:List Sl:=.dat .str::tp 39 []
def KH:List RS:=[]
def NH:List Sl:=.top::.top::.dat .bool::tp 37 []
def MH:List RS:=[]
def Ne (K:XE→List AV→pa→Option Out):Lx (BA) (Bool)→Option Out:=fun x=>onL x (fun a=>vc LH KH (a,()) () (K (.exit 0))) (fun a=>vc NH MH (a,()) () (K .ret)) (fun _=>none)
def TB (n:Nat) {R:Type} (s:BA) (k:Bool→Option R):Option R:=(ed n n s (s.size:Int) (0:Int)).bind fun x_1=>onL x_1 (fun a_2=>if (decide ((a_2.size:Int)≥(1:Int)))=true then k (decide ((a_2.size:Int)≤(63:Int))) else k false) (fun a_3=>k a_3) (fun _=>none)
def Aq (n:Nat) (s:BA):Option Bool:=TB n s some
theorem Fbb (n:Nat) {S:Type}:∀ s (φ:_→Option S),(Aq n s).bind φ=TB n s φ:=by
  intros;unfold Aq TB;first | (simp only [la,fa,iB,bB,oL,oX,nB,Option.bind_some]) | rfl
def Zm (n:Nat):Hint Out:={ live:=fun c=>(cond (Nat.beq c 0) (lv [0,5,6]) []),run:=fun c=>(cond (Nat.beq c 0) (some (Ng Ps Ns fun σ ρ K=>(ed n n σ.1 σ.2.1 σ.2.2.1).bind (Ne K))) none),xm:=fun c q=>(cond (Nat.beq c 0&&Nat.beq (q.getD 1000000) 0&&q.isSome) (some [(0,none)]) (cond (Nat.beq c 1&&q.isNone) (some [(2,none)]) none)) }
def Ym (n:Nat) (K:XE→List AV→pa→Option Out) (m:Nat) (s1:BA) (t5:Int) (t6:Int):Option Out:=Oc tys (ja Out (lu n)) (Zm n) n (ya [1,0,1,0,0] (ia Tryz.f122)) 0 Ps Ns K m (s1,(t5,(t6,()))) ()
theorem JH (n:Nat) (K:XE→List AV→pa→Option Out):∀ (m:Nat) s1 t5 t6,Ym n K m s1 t5 t6=(ed n m s1 t5 t6).bind (Ne K)
  | 0,_,_,_=>by kernel_rfl
  | m+1,s1,t5,t6=>by
    have h1:Ym n K (m+1) s1 t5 t6=Nj n s1 t5 t6 (Ym n K m) (fun a=>Ne K (.out a)) (fun a=>Ne K (.ret a)) (fun p=>Ne K (.pan p)):=by kernel_rfl
    have h2:Ym n K m=fun s1 t5 t6=>(ed n m s1 t5 t6).bind (Ne K):=by
      repeat (refine funext fun _=>?_)
      exact JH n K m _ _ _
    rw [h1,h2];exact (fX n m _ _ _ (Ne K)).symm
theorem mU (n:Nat):yc tys (ja Out (lu n)) (Zm n) n (ya [1,0,1,0,0] (ia Tryz.f122)) 0:=Fa (sp:=Ps) (rp:=Ns) (by kernel_rfl) fun K σ ρ=>JH n K n σ.1 σ.2.1 σ.2.2.1
theorem gX (n:Nat):ra tys (ja Out (lu n)) (Zm n) n (ia Tryz.f122) 0:=⟨aa,⟨⟨aa,⟨mU n,⟨aa,⟨⟨aa,aa⟩,⟨⟨aa,⟨aa,⟨⟨aa,aa⟩,aa⟩⟩⟩,aa⟩⟩⟩⟩⟩,⟨aa,aa⟩⟩⟩
theorem ZZ (n:Nat):Enters Tryz.prog 122:=enters_of (c:=ia Tryz.f122) Tryz.func122 (by kernel_rfl) (by kernel_rfl)
def MQ (n:Nat):Entry:=⟨122,pcT (.pair .str .unit) (.one .bool) (fun xs=>Aq n xs.1),none,none⟩
theorem OQ (n:Nat):EntryOk Tryz.prog gl (MQ n):=Aa (ZZ n) fun xs y h=>oa tys_ok (dI n) mixed (hint:=Zm n) (n:=n) Tryz.func122 (Ba (gX n)) (ma (φ:=(fun y=>some (Out.ret (rb (.one .bool) y)))) (by kernel_rfl) (Fbb n xs.1 _) h)
def NQ (n:Nat):List Entry:=MQ n::lu n
theorem nU (n:Nat):AllOk Tryz.prog gl (NQ n):=.cons (OQ n) (dI n)
def cd (n:Nat) (s:BA):Option Bool:=(Fe n s).bind fun b=>if b=true then (Le n s ⟨#[93]⟩).bind fun c=>if c=true then (if 2≤(s.size:Int)∧(s.size:Int)≤9223372036854775807 then Oj n (s.extract 1 (s.size - 1)) else none) else some false else Dom.domT (fun x=>wl n x Dom.dot) (Aq n) n s
theorem iU:Tryz.prog.funcs[90]?=some Tryz.f90:=by kernel_rfl
theorem jU (n:Nat):EntryOk Tryz.prog gl ⟨90,pcT (.pair .str .unit) (.one .bool) (fun xs=>cd n xs.1),none,none⟩:=Aa (enters_of (c:=ia Tryz.f90) iU (by kernel_rfl) (by kernel_rfl)) fun xs y h=>by
  refine gQ (args:=[.string xs.1]) (v:=.bool y) (fun w0 hg hn=>?_)
  have hlit:∀ b,Fe n xs.1=some b→∀ (w:World),Below w0.heap.size w0 w→Calls Tryz.prog 118 #[.string xs.1] w fun e w'=>e=.returned (.bool b)∧Below w.heap.size w w':=fun b hb' w hb=>
    yI (az n) (args:=[.string xs.1]) (v:=.bool b) (by show (Fe n xs.1).bind _=_;rw [hb'];rfl) hg hn hb
  have hsuf:∀ b,Le n xs.1 ⟨#[93]⟩=some b→∀ (w:World),Below w0.heap.size w0 w→Calls Tryz.prog 119 #[.string xs.1,.string ⟨#[93]⟩] w fun e w'=>e=.returned (.bool b)∧Below w.heap.size w w':=fun b hb' w hb=>
    yI (kB n) (args:=[.string xs.1,.string ⟨#[93]⟩]) (v:=.bool b) (by show (Le n xs.1 ⟨#[93]⟩).bind _=_;rw [hb'];rfl) hg hn hb
  unfold cd at h
  obtain ⟨b,hb,h⟩:=Option.bind_eq_some_iff.1 h
  cases b with
  | true=>
    rw [if_pos rfl] at h
    obtain ⟨c,hc,h⟩:=Option.bind_eq_some_iff.1 h
    refine Dom.dom2 xs.1 c y w0 (hlit true hb) (hsuf c hc) (fun hc'=>?_) (fun hc'=>?_)
    · rw [if_pos hc'] at h
      split at h
      · rename_i hsz
        exact ⟨hsz,fun w hbw=>yI (PH n) (args:=[.string (xs.1.extract 1 (xs.1.size - 1))]) (v:=.bool y) (by show (Oj n (xs.1.extract 1 (xs.1.size - 1))).bind _=_;rw [h];rfl) hg hn hbw⟩
      · cases h
    · rw [if_neg (by rw [hc'];simp)] at h
      exact (Option.some.inj h).symm
  | false=>
    rw [if_neg (by simp)] at h
    exact Dom.dom1 _ _ n xs.1 y w0 (fun x i w hbw hx=>yI (sT n) (args:=[.string x,.string Dom.dot]) (v:=.int .i64 i) (by show (wl n x Dom.dot).bind _=_;rw [hx];rfl) hg hn hbw)
      (fun x i w hbw hx=>yI (OQ n) (args:=[.string x]) (v:=.bool i) (by show (Aq n x).bind _=_;rw [hx];rfl) hg hn hbw) (hlit false hb) h
def Ms (n:Nat):List Entry:=⟨90,pcT (.pair .str .unit) (.one .bool) (fun xs=>cd n xs.1),none,none⟩::NQ n
theorem iu (n:Nat):AllOk Tryz.prog gl (Ms n):=.cons (jU n) (nU n)
def qu (n:Nat) {R:Type} (s:BA) (k:Bool→Option R):Option R:=if (decide ((s.size:Int)≤(200:Int)))=true then (cd n s).bind fun v=>k v else k false
def ke (n:Nat) (s:BA):Option Bool:=qu n s some
theorem Vdb (n:Nat) {S:Type}:∀ s (φ:_→Option S),(ke n s).bind φ=qu n s φ:=by
  intros;unfold ke qu;first | (simp only [la,fa,iB,bB,oL,oX,nB,Option.bind_some]) | rfl
def MN (n:Nat):Hint Out:={ live:=fun c=>[],run:=fun c=>none,xm:=fun c q=>none }
theorem H1 (n:Nat):ra tys (ja Out (Ms n)) (MN n) n (ia Tryz.f65) 0:=na (fun _=>rfl) _ _ (by kernel_rfl)
theorem i7 (n:Nat):Enters Tryz.prog 65:=enters_of (c:=ia Tryz.f65) Tryz.func65 (by kernel_rfl) (by kernel_rfl)
def nW (n:Nat):Entry:=⟨65,pcT (.pair .str .unit) (.one .bool) (fun xs=>ke n xs.1),none,none⟩
theorem Ubb (n:Nat):EntryOk Tryz.prog gl (nW n):=Aa (i7 n) fun xs y h=>oa tys_ok (iu n) mixed (hint:=MN n) (n:=n) Tryz.func65 (Ba (H1 n)) (ma (φ:=(fun y=>some (Out.ret (rb (.one .bool) y)))) (by kernel_rfl) (Vdb n xs.1 _) h)
def EL (n:Nat):List Entry:=nW n::Ms n
theorem rI (n:Nat):AllOk Tryz.prog gl (EL n):=.cons (Ubb n) (iu n)
def eQ (n:Nat) {R:Type} (m0:U0) (k:BA→Option R):Option R:=if Eg m0.1 (⟨#[64]⟩:BA)=true then if Eg (m0.1++(⟨#[64]⟩:BA)) m0.2.1=true then k ((m0.1++(⟨#[64]⟩:BA))++m0.2.1) else none else none
def ZV (n:Nat) (m0:U0):Option BA:=eQ n m0 some
theorem Igb (n:Nat) {S:Type}:∀ m0 (φ:_→Option S),(ZV n m0).bind φ=eQ n m0 φ:=by
  intros;unfold ZV eQ;first | (simp only [la,fa,iB,bB,oL,oX,nB,Option.bind_some]) | rfl
def JQ (n:Nat):Hint Out:={ live:=fun c=>[],run:=fun c=>none,xm:=fun c q=>none }
theorem D6 (n:Nat):ra tys (ja Out (EL n)) (JQ n) n (ia Tryz.f124) 0:=na (fun _=>rfl) _ _ (by kernel_rfl)
theorem zbb (n:Nat):Enters Tryz.prog 124:=enters_of (c:=ia Tryz.f124) Tryz.func124 (by kernel_rfl) (by kernel_rfl)
def UZ (n:Nat):Entry:=⟨124,pcT (.pair (.pair .str (.pair .str .unit)) .unit) (.one .str) (fun xs=>ZV n xs.1),none,none⟩
theorem Jdb (n:Nat):EntryOk Tryz.prog gl (UZ n):=Aa (zbb n) fun xs y h=>oa tys_ok (rI n) mixed (hint:=JQ n) (n:=n) Tryz.func124 (Ba (D6 n)) (ma (φ:=(fun y=>some (Out.ret (rb (.one .str) y)))) (by kernel_rfl) (Igb n xs.1 _) h)
def IQ (n:Nat):List Entry:=UZ n::EL n
theorem bz (n:Nat):AllOk Tryz.prog gl (IQ n):=.cons (Jdb n) (rI n)
def RH (n:Nat) {R:Type} (ok:Bool) (k:(Unit)→Option R) (kp:Int→Option R):Option R:=if (!ok)=true then kp (8:Int) else k ()
def Eb (n:Nat) (ok:Bool):Option (Except Int (Unit)):=RH n ok (fun y=>some (.ok y)) (fun p=>some (.error p))
theorem x0 (n:Nat) {S:Type}:∀ ok (φ:_→Option S),(Eb n ok).bind φ=RH n ok (fun y=>φ (.ok y)) (fun p=>φ (.error p)):=by
  intros;unfold Eb RH;first | (simp only [la,fa,iB,bB,oL,oX,nB,Option.bind_some]) | rfl
def jz (n:Nat):Hint Out:={ live:=fun c=>[],run:=fun c=>none,xm:=fun c q=>none }
theorem yN (n:Nat):ra tys (ja Out (IQ n)) (jz n) n (ia Tryz.f170) 0:=na (fun _=>rfl) _ _ (by kernel_rfl)
theorem J6 (n:Nat):Enters Tryz.prog 170:=enters_of (c:=ia Tryz.f170) Tryz.func170 (by kernel_rfl) (by kernel_rfl)
def dW (n:Nat):Entry:=⟨170,pcX 174 (.pair .bool .unit) (.many .unit) (fun xs=>Eb n xs.1),none,none⟩
theorem Gbb (n:Nat):EntryOk Tryz.prog gl (dW n):=KI (J6 n) (fun xs y h=>oa tys_ok (bz n) mixed (hint:=jz n) (n:=n) Tryz.func170 (Ba (yN n)) (ma (φ:=(fun r=>onX r (fun p=>some (Out.pan (th 174 p))) fun y=>some (Out.ret (rb (.many .unit) y)))) (by kernel_rfl) (x0 n xs.1 _) h)) (fun xs p h=>oa tys_ok (bz n) mixed (hint:=jz n) (n:=n) Tryz.func170 (Ba (yN n)) (ma (φ:=(fun r=>onX r (fun p=>some (Out.pan (th 174 p))) fun y=>some (Out.ret (rb (.many .unit) y)))) (by kernel_rfl) (x0 n xs.1 _) h))
def uL (n:Nat):List Entry:=dW n::IQ n
theorem SH (n:Nat):AllOk Tryz.prog gl (uL n):=.cons (Gbb n) (bz n)
def ql (n:Nat) {R:Type} (k:(BA×Unit)→Option R):Option R:=if ((0:Nat):Int)=0 then k ((⟨#[]⟩:BA),()) else none
def Hi (n:Nat):Option (BA×Unit):=ql n some
theorem JV (n:Nat) {S:Type}:∀ (φ:_→Option S),(Hi n).bind φ=ql n φ:=by
  intros;unfold Hi ql;first | (simp only [la,fa,iB,bB,oL,oX,nB,Option.bind_some]) | rfl
def wv (n:Nat):Hint OutS:={ live:=fun c=>[],run:=fun c=>none,xm:=fun c q=>none,sch:=fun c=>(cond (Nat.beq c 1) (some [(0,0),(1,0),(2,0),(5,0),(6,0),(7,0),(3,1),(8,1),(9,0),(4,3),(10,2),(11,0)]) none) }
theorem DM (n:Nat):ra tys (ja OutS (uL n)) (wv n) n (ia Tryz.f83) 0:=na (fun _=>rfl) _ _ (by kernel_rfl)
theorem qP (n:Nat):Enters Tryz.prog 83:=enters_of (c:=ia Tryz.f83) Tryz.func83 (by kernel_rfl) (by kernel_rfl)
def WA:List RSp:=[.one (.ptr 0 0 0)]
def VA:List RS:=[.box 108 2 true [.cn .nilp,.cn .nils]]
def rP:List Sl:=[.ptr 0 0 0]
def sP:List RSp:=[.one (.dat .str)]
def Oh:List RS:=[.box 108 2 true [.cn .nilp,.cn .nils]]
def Ot (y:(BA×Unit)):OutS:=⟨false,Yo (Zc Oh ((),())) rP (),nH (iE (Zc Oh ((),())) sP ((y.1,()),())),Vv (Zc Oh ((),())) Oh ((),())⟩
theorem cT (n:Nat):EntryOk Tryz.prog gl ⟨83,Ee,none,some (csT WA VA (fun σ ρ=>Hi n) Ot)⟩:=Ge (qP n) fun σ ρ y h=>Kb tys_ok (SH n) mixed (hint:=wv n) (n:=n) Tryz.func83 (Ba (DM n)) (ma (φ:=fun y=>some (Ot y)) (by kernel_rfl) (JV n _) h)
def UA (n:Nat):List Entry:=⟨83,Ee,none,some (csT WA VA (fun σ ρ=>Hi n) Ot)⟩::uL n
theorem tK (n:Nat):AllOk Tryz.prog gl (UA n):=.cons (cT n) (SH n)
theorem Du:Tryz.prog.funcs[137]?=some Tryz.f137:=by kernel_rfl
theorem Eu:EntryOk Tryz.prog gl ⟨137,Ee,some .ident,none⟩:=XU Du (by kernel_rfl) (by kernel_rfl) (by kernel_rfl) (by kernel_rfl)
def le (n:Nat):List Entry:=⟨137,Ee,some .ident,none⟩::UA n
theorem og (n:Nat):AllOk Tryz.prog gl (le n):=.cons Eu (tK n)
def jk (n:Nat) {R:Type} (k:Unit→Option R):Option R:=k ()
def zg (n:Nat):Option Unit:=jk n some
theorem HM (n:Nat) {S:Type}:∀ (φ:_→Option S),(zg n).bind φ=jk n φ:=by
  intros;unfold zg jk;first | (simp only [la,fa,iB,bB,oL,oX,nB,Option.bind_some]) | rfl
def Lm (n:Nat):Hint OutS:={ live:=fun c=>[],run:=fun c=>none,xm:=fun c q=>none }
theorem zD (n:Nat):ra tys (ja OutS (le n)) (Lm n) n (ia Tryz.f113) 0:=na (fun _=>rfl) _ _ (by kernel_rfl)
theorem eH (n:Nat):Enters Tryz.prog 113:=enters_of (c:=ia Tryz.f113) Tryz.func113 (by kernel_rfl) (by kernel_rfl)
def Sr:List RSp:=[.one (.ptr 0 0 0)]
def Qr:List RS:=[.box 108 2 true [.cn .nilp,.cn .nils]]
def fH:List Sl:=[.ptr 0 0 0]
def gH:List RSp:=[]
def vf:List RS:=[.box 108 2 false [.ptr 0 0 0,.cn .nils]]
def lk (y:Unit):OutS:=⟨false,Yo (Zc vf ((),())) fH (),nH (iE (Zc vf ((),())) gH ()),Vv (Zc vf ((),())) vf ((),())⟩
theorem wK (n:Nat):EntryOk Tryz.prog gl ⟨113,Ee,none,some (csT Sr Qr (fun σ ρ=>zg n) lk)⟩:=Ge (eH n) fun σ ρ y h=>Kb tys_ok (og n) mixed (hint:=Lm n) (n:=n) Tryz.func113 (Ba (zD n)) (ma (φ:=fun y=>some (lk y)) (by kernel_rfl) (HM n _) h)
def nj (n:Nat):List Entry:=⟨113,Ee,none,some (csT Sr Qr (fun σ ρ=>zg n) lk)⟩::le n
theorem Ol (n:Nat):AllOk Tryz.prog gl (nj n):=.cons (wK n) (og n)
def ek (n:Nat) {R:Type} (c:Int) (k:U19→Option R):Option R:=(zg n).bind fun v=>if zb (0+1) 1=true then k ((⟨(0+1),fun q=>if q<0 then (fun _=>ua (.int .u8)) q else (fun q=>List.getD (α:=Int) [c] q (ua (.int .u8))) (q - 0)⟩:Sq Int),()) else none
def Ab (n:Nat) (c:Int):Option U19:=ek n c some
theorem FM (n:Nat) {S:Type}:∀ c (φ:_→Option S),(Ab n c).bind φ=ek n c φ:=by
  intros;unfold Ab ek;first | (simp only [la,fa,iB,bB,oL,oX,nB,Option.bind_some]) | rfl
def Jm (n:Nat):Hint OutS:={ live:=fun c=>[],run:=fun c=>none,xm:=fun c q=>none }
theorem xD (n:Nat):ra tys (ja OutS (nj n)) (Jm n) n (ia Tryz.f203) 0:=na (fun _=>rfl) _ _ (by kernel_rfl)
theorem YG (n:Nat):Enters Tryz.prog 203:=enters_of (c:=ia Tryz.f203) Tryz.func203 (by kernel_rfl) (by kernel_rfl)
def Mr:List RSp:=[.one (.ptr 0 0 0),.one (.dat (.int .u8))]
def Lr:List RS:=[.box 108 2 true [.cn .nilp,.cn .nils]]
def ZG:List Sl:=[.ptr 0 0 0,.top]
def aH:List RSp:=[.one (.cn .nili)]
def tf:List RS:=[.box 108 2 false [.ptr 0 0 0,.row 1],.row 5 1 (.int .u8) true false]
def fk (y:U19):OutS:=⟨false,Yo (Zc tf ((),(y.1,()))) ZG (),nH (iE (Zc tf ((),(y.1,()))) aH ((),())),Vv (Zc tf ((),(y.1,()))) tf ((),(y.1,()))⟩
theorem uK (n:Nat):EntryOk Tryz.prog gl ⟨203,Ee,none,some (csT Mr Lr (fun σ ρ=>Ab n σ.2.1.1) fk)⟩:=Ge (YG n) fun σ ρ y h=>Kb tys_ok (Ol n) mixed (hint:=Jm n) (n:=n) Tryz.func203 (Ba (xD n)) (ma (φ:=fun y=>some (fk y)) (by kernel_rfl) (FM n σ.2.1.1 _) h)
def mj (n:Nat):List Entry:=⟨203,Ee,none,some (csT Mr Lr (fun σ ρ=>Ab n σ.2.1.1) fk)⟩::nj n
theorem Nl (n:Nat):AllOk Tryz.prog gl (mj n):=.cons (uK n) (Ol n)
def rl (n:Nat) {R:Type} (r1:(Sq Int)) (k:(BA×Unit)→Option R):Option R:=if (r1.n:Int)=(r1.n:Int)∧(r1.n:Int)≤9223372036854775807 then k ((CD r1.n r1.at'),()) else none
def Ke (n:Nat) (r1:(Sq Int)):Option (BA×Unit):=rl n r1 some
theorem KV (n:Nat) {S:Type}:∀ r1 (φ:_→Option S),(Ke n r1).bind φ=rl n r1 φ:=by
  intros;unfold Ke rl;first | (simp only [la,fa,iB,bB,oL,oX,nB,Option.bind_some]) | rfl
def xv (n:Nat):Hint OutS:={ live:=fun c=>[],run:=fun c=>none,xm:=fun c q=>none,sch:=fun c=>(cond (Nat.beq c 1) (some [(0,0),(1,0),(2,0),(5,0),(6,0),(7,0),(3,1),(8,1),(9,0),(4,3),(10,2),(11,0)]) none) }
theorem EM (n:Nat):ra tys (ja OutS (mj n)) (xv n) n (ia Tryz.f83) 0:=na (fun _=>rfl) _ _ (by kernel_rfl)
theorem tP (n:Nat):Enters Tryz.prog 83:=enters_of (c:=ia Tryz.f83) Tryz.func83 (by kernel_rfl) (by kernel_rfl)
def YA:List RSp:=[.one (.ptr 0 0 0)]
def XA:List RS:=[.box 108 2 false [.ptr 0 0 0,.row 1],.row 5 1 (.int .u8) true false]
def uP:List Sl:=[.ptr 0 0 0]
def vP:List RSp:=[.one (.dat .str)]
def Ph:List RS:=[.box 108 2 false [.ptr 0 0 0,.top]]
def Pt (y:(BA×Unit)):OutS:=⟨false,Yo (Zc Ph ((),())) uP (),nH (iE (Zc Ph ((),())) vP ((y.1,()),())),Vv (Zc Ph ((),())) Ph ((),())⟩
theorem dT (n:Nat):EntryOk Tryz.prog gl ⟨83,Ee,none,some (csT YA XA (fun σ ρ=>Ke n ρ.2.1) Pt)⟩:=Ge (tP n) fun σ ρ y h=>Kb tys_ok (Nl n) mixed (hint:=xv n) (n:=n) Tryz.func83 (Ba (EM n)) (ma (φ:=fun y=>some (Pt y)) (by kernel_rfl) (KV n ρ.2.1 _) h)
def Sp (n:Nat):List Entry:=⟨83,Ee,none,some (csT YA XA (fun σ ρ=>Ke n ρ.2.1) Pt)⟩::mj n
theorem Kr (n:Nat):AllOk Tryz.prog gl (Sp n):=.cons (dT n) (Nl n)
def jh (n:Nat) {R:Type} (r1:(Sq Int)) (k:U19→Option R):Option R:=k (r1,())
def ze (n:Nat) (r1:(Sq Int)):Option U19:=jh n r1 some
theorem IM (n:Nat) {S:Type}:∀ r1 (φ:_→Option S),(ze n r1).bind φ=jh n r1 φ:=by
  intros;unfold ze jh;first | (simp only [la,fa,iB,bB,oL,oX,nB,Option.bind_some]) | rfl
def Mm (n:Nat):Hint OutS:={ live:=fun c=>[],run:=fun c=>none,xm:=fun c q=>none }
theorem AD (n:Nat):ra tys (ja OutS (Sp n)) (Mm n) n (ia Tryz.f113) 0:=na (fun _=>rfl) _ _ (by kernel_rfl)
theorem iH (n:Nat):Enters Tryz.prog 113:=enters_of (c:=ia Tryz.f113) Tryz.func113 (by kernel_rfl) (by kernel_rfl)
def Ur:List RSp:=[.one (.ptr 0 0 0)]
def Tr:List RS:=[.box 108 2 false [.ptr 0 0 0,.row 1],.row 5 1 (.int .u8) true false]
def jH:List Sl:=[.ptr 0 0 0]
def kH:List RSp:=[]
def xf:List RS:=[.box 108 2 false [.ptr 0 0 0,.row 1],.row 5 1 (.int .u8) true false]
def nk (y:U19):OutS:=⟨false,Yo (Zc xf ((),(y.1,()))) jH (),nH (iE (Zc xf ((),(y.1,()))) kH ()),Vv (Zc xf ((),(y.1,()))) xf ((),(y.1,()))⟩
theorem xK (n:Nat):EntryOk Tryz.prog gl ⟨113,Ee,none,some (csT Ur Tr (fun σ ρ=>ze n ρ.2.1) nk)⟩:=Ge (iH n) fun σ ρ y h=>Kb tys_ok (Kr n) mixed (hint:=Mm n) (n:=n) Tryz.func113 (Ba (AD n)) (ma (φ:=fun y=>some (nk y)) (by kernel_rfl) (IM n ρ.2.1 _) h)
def pj (n:Nat):List Entry:=⟨113,Ee,none,some (csT Ur Tr (fun σ ρ=>ze n ρ.2.1) nk)⟩::Sp n
theorem Pl (n:Nat):AllOk Tryz.prog gl (pj n):=.cons (xK n) (Kr n)
def fh (n:Nat) {R:Type} (c:Int) (r1:(Sq Int)) (k:U19→Option R):Option R:=(ze n r1).bind fun v=>if zb (v.1.n+1) 1=true then k ((⟨(v.1.n+1),fun q=>if q<v.1.n then v.1.at' q else (fun q=>List.getD (α:=Int) [c] q (ua (.int .u8))) (q - v.1.n)⟩:Sq Int),()) else none
def Qa (n:Nat) (c:Int) (r1:(Sq Int)):Option U19:=fh n c r1 some
theorem GM (n:Nat) {S:Type}:∀ c r1 (φ:_→Option S),(Qa n c r1).bind φ=fh n c r1 φ:=by
  intros;unfold Qa fh;first | (simp only [la,fa,iB,bB,oL,oX,nB,Option.bind_some]) | rfl
def Km (n:Nat):Hint OutS:={ live:=fun c=>[],run:=fun c=>none,xm:=fun c q=>none }
theorem yD (n:Nat):ra tys (ja OutS (pj n)) (Km n) n (ia Tryz.f203) 0:=na (fun _=>rfl) _ _ (by kernel_rfl)
theorem bH (n:Nat):Enters Tryz.prog 203:=enters_of (c:=ia Tryz.f203) Tryz.func203 (by kernel_rfl) (by kernel_rfl)
def Pr:List RSp:=[.one (.ptr 0 0 0),.one (.dat (.int .u8))]
def Nr:List RS:=[.box 108 2 false [.ptr 0 0 0,.row 1],.row 5 1 (.int .u8) true false]
def cH:List Sl:=[.ptr 0 0 0,.top]
def dH:List RSp:=[.one (.cn .nili)]
def uf:List RS:=[.box 108 2 false [.ptr 0 0 0,.row 1],.row 5 1 (.int .u8) true false]
def ik (y:U19):OutS:=⟨false,Yo (Zc uf ((),(y.1,()))) cH (),nH (iE (Zc uf ((),(y.1,()))) dH ((),())),Vv (Zc uf ((),(y.1,()))) uf ((),(y.1,()))⟩
theorem vK (n:Nat):EntryOk Tryz.prog gl ⟨203,Ee,none,some (csT Pr Nr (fun σ ρ=>Qa n σ.2.1.1 ρ.2.1) ik)⟩:=Ge (bH n) fun σ ρ y h=>Kb tys_ok (Pl n) mixed (hint:=Km n) (n:=n) Tryz.func203 (Ba (yD n)) (ma (φ:=fun y=>some (ik y)) (by kernel_rfl) (GM n σ.2.1.1 ρ.2.1 _) h)
def Pd (n:Nat):List Entry:=⟨203,Ee,none,some (csT Pr Nr (fun σ ρ=>Qa n σ.2.1.1 ρ.2.1) ik)⟩::pj n
theorem yg (n:Nat):AllOk Tryz.prog gl (Pd n):=.cons (vK n) (Pl n)
def Jb (n:Nat) {R:Type} (s1:BA) (i:Int) (r1:(Sq Int)) (kn:BA→Int→(Sq Int)→Option R) (ko:Unit→Option R) (kr:(BA×BA)→Option R) (kp:Int→Option R):Option R:=(Eb n (decide (i<(s1.size:Int)))).bind fun x_1=>onX x_1 (fun p3=>kp p3) (fun v5=>if 0≤i∧i<(s1.size:Int) then if ((bt s1 i)==(34:Int))=true then if 0≤(IntKind.wrap .i64 (i+(1:Int)))∧(IntKind.wrap .i64 (i+(1:Int)))≤(s1.size:Int) then (Ke n r1).bind fun v6=>kr (v6.1,(s1.extract (Int.toNat (IntKind.wrap .i64 (i+(1:Int)))) (Int.toNat (s1.size:Int)))) else none else if 0≤i∧i<(s1.size:Int) then if ((bt s1 i)==(92:Int))=true then (Eb n (decide ((IntKind.wrap .i64 (i+(1:Int)))<(s1.size:Int)))).bind fun x_2=>onX x_2 (fun p4=>kp p4) (fun v7=>if 0≤(IntKind.wrap .i64 (i+(1:Int)))∧(IntKind.wrap .i64 (i+(1:Int)))<(s1.size:Int) then if (decide ((bt s1 (IntKind.wrap .i64 (i+(1:Int))))≥(32:Int)))=true then if 0≤(IntKind.wrap .i64 (i+(1:Int)))∧(IntKind.wrap .i64 (i+(1:Int)))<(s1.size:Int) then (Eb n (decide ((bt s1 (IntKind.wrap .i64 (i+(1:Int))))≤(126:Int)))).bind fun x_3=>onX x_3 (fun p5=>kp p5) (fun v8=>if 0≤(IntKind.wrap .i64 (i+(1:Int)))∧(IntKind.wrap .i64 (i+(1:Int)))<(s1.size:Int) then (Qa n (bt s1 (IntKind.wrap .i64 (i+(1:Int)))) r1).bind fun v9=>
 kn s1 (IntKind.wrap .i64 ((IntKind.wrap .i64 (i+(1:Int)))+(1:Int))) v9.1 else none) else none else (Eb n false).bind fun x_4=>onX x_4 (fun p6=>kp p6) (fun v10=>if 0≤(IntKind.wrap .i64 (i+(1:Int)))∧(IntKind.wrap .i64 (i+(1:Int)))<(s1.size:Int) then (Qa n (bt s1 (IntKind.wrap .i64 (i+(1:Int)))) r1).bind fun v11=>kn s1 (IntKind.wrap .i64 ((IntKind.wrap .i64 (i+(1:Int)))+(1:Int))) v11.1 else none) else none) else if 0≤i∧i<(s1.size:Int) then if (decide ((bt s1 i)≥(32:Int)))=true then if 0≤i∧i<(s1.size:Int) then (Eb n (decide ((bt s1 i)≤(126:Int)))).bind fun x_5=>onX x_5 (fun p7=>kp p7) (fun v12=>if 0≤i∧i<(s1.size:Int) then (Qa n (bt s1 i) r1).bind fun v13=>kn s1 (IntKind.wrap .i64 (i+(1:Int))) v13.1 else none) else none else (Eb n false).bind fun x_6=>onX x_6 (fun p8=>kp p8) (fun v14=>if 0≤i∧i<(s1.size:Int) then (Qa n (bt s1 i) r1).bind fun v15=>kn s1 (IntKind.wrap .i64 (i+(1:Int))) v15.1 else none) else none else none else none)
def Ea (n:Nat):Nat→BA→Int→(Sq Int)→Option (Lx Unit (BA×BA))
 | 0,_,_,_=>none
 | m+1,s1,i,r1=>Jb n s1 i r1 (Ea n m) (fun a=>some (.out a)) (fun a=>some (.ret a)) (fun p=>some (.pan p))
theorem rU (n m:Nat) {S:Type}:∀ s1 i r1 (φ:_→Option S),(Ea n (m+1) s1 i r1).bind φ=Jb n s1 i r1 (fun s1 i r1=>(Ea n m s1 i r1).bind φ) (fun a=>φ (.out a)) (fun a=>φ (.ret a)) (fun p=>φ (.pan p)):=by
  intros;first | (simp only [Ea,Jb,la,fa,iB,bB,oL,oX,nB,Option.bind_some]) | rfl
def Ko:List Sl:=.dat .str::.top::.top::.top::.ptr 0 0 0::.dat (.int .i64)::tp 42 []
def Jo:List RS:=[.box 108 2 false [.ptr 0 0 0,.row 1],.row 5 1 (.int .u8) true false]
def kF:List Sl:=.top::.top::.dat .str::.dat .str::tp 44 []
def jF:List RS:=[]
def Ud (K:XE→List AV→pa→Option Out):Lx Unit (BA×BA)→Option Out:=fun x=>onL x (fun _=>none) (fun a=>vc kF jF (a.1,(a.2,())) () (K .ret)) (fun p=>K (.panic (th 174 p)) (List.replicate 48 .top) [])
def Td (n:Nat) {R:Type} (s:BA) (k:(BA×BA×Unit)→Option R) (kp:Int→Option R):Option R:=(Eb n (decide ((1:Int)<(s.size:Int)))).bind fun x_1=>onX x_1 (fun p=>kp p) (fun v=>if 0≤(1:Int)∧(1:Int)<(s.size:Int) then if ((bt s (1:Int))==(34:Int))=true then if 0≤(IntKind.wrap .i64 ((1:Int)+(1:Int)))∧(IntKind.wrap .i64 ((1:Int)+(1:Int)))≤(s.size:Int) then (Hi n).bind fun v1=>k (v1.1,((s.extract (Int.toNat (IntKind.wrap .i64 ((1:Int)+(1:Int)))) (Int.toNat (s.size:Int))),())) else none else if 0≤(1:Int)∧(1:Int)<(s.size:Int) then if ((bt s (1:Int))==(92:Int))=true then (Eb n (decide ((IntKind.wrap .i64 ((1:Int)+(1:Int)))<(s.size:Int)))).bind fun x_2=>onX x_2 (fun p1=>kp p1) (fun v2=>if 0≤(IntKind.wrap .i64 ((1:Int)+(1:Int)))∧(IntKind.wrap .i64 ((1:Int)+(1:Int)))<(s.size:Int) then if (decide ((bt s (IntKind.wrap .i64 ((1:Int)+(1:Int))))≥(32:Int)))=true then if 0≤(IntKind.wrap .i64 ((1:Int)+(1:Int)))∧(IntKind.wrap .i64 ((1:Int)+(1:Int)))<(s.size:Int) then (Eb n (decide ((bt s (IntKind.wrap .i64 ((1:Int)+(1:Int))))≤(126:Int)))).bind fun x_3=>onX x_3 (fun p2=>kp p2) (fun v3=>if 0≤(IntKind.wrap .i64 ((1:Int)+(1:Int)))∧(IntKind.wrap .i64 ((1:Int)+(1:Int)))<(s.size:Int) then (Ab n (bt s (IntKind.wrap .i64 ((1:Int)+(1:Int))))).bind fun v4=>
 (Ea n n s (IntKind.wrap .i64 ((IntKind.wrap .i64 ((1:Int)+(1:Int)))+(1:Int))) v4.1).bind fun x_4=>onL x_4 (fun _=>none) (fun a_5=>k (a_5.1,(a_5.2,()))) (fun p9=>kp p9) else none) else none else (Eb n false).bind fun x_6=>onX x_6 (fun p10=>kp p10) (fun v16=>if 0≤(IntKind.wrap .i64 ((1:Int)+(1:Int)))∧(IntKind.wrap .i64 ((1:Int)+(1:Int)))<(s.size:Int) then (Ab n (bt s (IntKind.wrap .i64 ((1:Int)+(1:Int))))).bind fun v17=>(Ea n n s (IntKind.wrap .i64 ((IntKind.wrap .i64 ((1:Int)+(1:Int)))+(1:Int))) v17.1).bind fun x_7=>onL x_7 (fun _=>none) (fun a_8=>k (a_8.1,(a_8.2,()))) (fun p11=>kp p11) else none) else none) else if 0≤(1:Int)∧(1:Int)<(s.size:Int) then if (decide ((bt s (1:Int))≥(32:Int)))=true then if 0≤(1:Int)∧(1:Int)<(s.size:Int) then (Eb n (decide ((bt s (1:Int))≤(126:Int)))).bind fun x_9=>onX x_9 (fun p12=>kp p12) (fun v18=>if 0≤(1:Int)∧(1:Int)<(s.size:Int) then (Ab n (bt s (1:Int))).bind fun v19=>(Ea n n s (IntKind.wrap .i64 ((1:Int)+(1:Int))) v19.1).bind fun x_10=>onL x_10 (fun _=>none) (fun a_11=>k (a_11.1,(a_11.2,()))) (fun p13=>kp p13) else none) else none else (Eb n false).bind fun x_12=>onX x_12 (fun p14=>kp p14) (fun v20=>if 0≤(1:Int)∧(1:Int)<(s.size:Int) then (Ab n (bt s (1:Int))).bind fun v21=>
 (Ea n n s (IntKind.wrap .i64 ((1:Int)+(1:Int))) v21.1).bind fun x_13=>onL x_13 (fun _=>none) (fun a_14=>k (a_14.1,(a_14.2,()))) (fun p15=>kp p15) else none) else none else none else none)
def ld (n:Nat) (s:BA):Option (Except Int (BA×BA×Unit)):=Td n s (fun y=>some (.ok y)) (fun p=>some (.error p))
theorem VQ (n:Nat) {S:Type}:∀ s (φ:_→Option S),(ld n s).bind φ=Td n s (fun y=>φ (.ok y)) (fun p=>φ (.error p)):=by
  intros;unfold ld Td;first | (simp only [la,fa,iB,bB,oL,oX,nB,Option.bind_some]) | rfl
def Ch (n:Nat):Hint Out:={ live:=fun c=>(cond (Nat.beq c 0) (lv [0,4,5]) []),run:=fun c=>(cond (Nat.beq c 0) (some (Ng Ko Jo fun σ ρ K=>(Ea n n σ.1 σ.2.1 ρ.2.1).bind (Ud K))) none),xm:=fun c q=>(cond (Nat.beq c 1&&q.isNone) (some [(2,none),(3,none)]) none),sch:=fun c=>(cond (Nat.beq c 6) (some [(1,0),(2,0),(3,0),(4,0),(0,2),(5,0),(6,0)]) none),pl:=fun c=>Nat.beq c 0 }
def Gk (n:Nat) (K:XE→List AV→pa→Option Out) (m:Nat) (s1:BA) (i:Int) (r1:(Sq Int)):Option Out:=Oc tys (ja Out (Pd n)) (Ch n) n (ya [1,1,1,0,0] (ia Tryz.f191)) 0 Ko Jo K m (s1,(i,())) ((),(r1,()))
theorem VD (n:Nat) (K:XE→List AV→pa→Option Out):∀ (m:Nat) s1 i r1,Gk n K m s1 i r1=(Ea n m s1 i r1).bind (Ud K)
  | 0,_,_,_=>by kernel_rfl
  | m+1,s1,i,r1=>by
    have h1:Gk n K (m+1) s1 i r1=Jb n s1 i r1 (Gk n K m) (fun a=>Ud K (.out a)) (fun a=>Ud K (.ret a)) (fun p=>Ud K (.pan p)):=by kernel_rfl
    have h2:Gk n K m=fun s1 i r1=>(Ea n m s1 i r1).bind (Ud K):=by
      repeat (refine funext fun _=>?_)
      exact VD n K m _ _ _
    rw [h1,h2];exact (rU n m _ _ _ (Ud K)).symm
theorem UQ (n:Nat):yc tys (ja Out (Pd n)) (Ch n) n (ya [1,1,1,0,0] (ia Tryz.f191)) 0:=Fa (sp:=Ko) (rp:=Jo) (by kernel_rfl) fun K σ ρ=>VD n K n σ.1 σ.2.1 ρ.2.1
theorem WD (n:Nat):ra tys (ja Out (Pd n)) (Ch n) n (ia Tryz.f191) 0:=⟨aa,⟨aa,⟨aa,⟨UQ n,⟨⟨aa,⟨⟨aa,⟨⟨aa,aa⟩,aa⟩⟩,⟨⟨aa,⟨⟨aa,aa⟩,aa⟩⟩,⟨aa,aa⟩⟩⟩⟩,aa⟩⟩⟩⟩⟩
theorem mX (n:Nat):Enters Tryz.prog 191:=enters_of (c:=ia Tryz.f191) Tryz.func191 (by kernel_rfl) (by kernel_rfl)
def zN (n:Nat):Entry:=⟨191,pcX 174 (.pair .str .unit) (.many (.pair .str (.pair .str .unit))) (fun xs=>ld n xs.1),none,none⟩
theorem D0 (n:Nat):EntryOk Tryz.prog gl (zN n):=KI (mX n) (fun xs y h=>oa tys_ok (yg n) mixed (hint:=Ch n) (n:=n) Tryz.func191 (Ba (WD n)) (ma (φ:=(fun r=>onX r (fun p=>some (Out.pan (th 174 p))) fun y=>some (Out.ret (rb (.many (.pair .str (.pair .str .unit))) y)))) (by kernel_rfl) (VQ n xs.1 _) h)) (fun xs p h=>oa tys_ok (yg n) mixed (hint:=Ch n) (n:=n) Tryz.func191 (Ba (WD n)) (ma (φ:=(fun r=>onX r (fun p=>some (Out.pan (th 174 p))) fun y=>some (Out.ret (rb (.many (.pair .str (.pair .str .unit))) y)))) (by kernel_rfl) (VQ n xs.1 _) h))
def kz (n:Nat):List Entry:=zN n::Pd n
theorem lz (n:Nat):AllOk Tryz.prog gl (kz n):=.cons (D0 n) (yg n)
def xl (n:Nat) {R:Type} (s:BA) (c:Int) (k:Int→Option R):Option R:=(mg n s c).bind fun v=>k v
def Me (n:Nat) (s:BA) (c:Int):Option Int:=xl n s c some
theorem OV (n:Nat) {S:Type}:∀ s c (φ:_→Option S),(Me n s c).bind φ=xl n s c φ:=by
  intros;unfold Me xl;first | (simp only [la,fa,iB,bB,oL,oX,nB,Option.bind_some]) | rfl
def Cv (n:Nat):Hint Out:={ live:=fun c=>[],run:=fun c=>none,xm:=fun c q=>none }
theorem NM (n:Nat):ra tys (ja Out (kz n)) (Cv n) n (ia Tryz.f193) 0:=na (fun _=>rfl) _ _ (by kernel_rfl)
theorem CP (n:Nat):Enters Tryz.prog 193:=enters_of (c:=ia Tryz.f193) Tryz.func193 (by kernel_rfl) (by kernel_rfl)
def lB (n:Nat):Entry:=⟨193,pcT (.pair .str (.pair (.int .u8) .unit)) (.one (.int .i64)) (fun xs=>Me n xs.1 xs.2.1),none,none⟩
theorem qT (n:Nat):EntryOk Tryz.prog gl (lB n):=Aa (CP n) fun xs y h=>oa tys_ok (lz n) mixed (hint:=Cv n) (n:=n) Tryz.func193 (Ba (NM n)) (ma (φ:=(fun y=>some (Out.ret (rb (.one (.int .i64)) y)))) (by kernel_rfl) (OV n xs.1 xs.2.1 _) h)
def Xp (n:Nat):List Entry:=lB n::kz n
theorem Wr (n:Nat):AllOk Tryz.prog gl (Xp n):=.cons (qT n) (lz n)
def HH (n:Nat) {R:Type} (c:Int) (k:Bool→Option R):Option R:=(lF n c).bind fun v=>if v=false then if (decide (c≥(65:Int)))=true then if (decide (c≤(90:Int)))=false then (Me n (⟨#[33,35,36,37,38,39,42,43,45,47,61,63,94,95,96,123,124,125,126]⟩:BA) c).bind fun v1=>k (decide (v1≥(0:Int))) else k true else (Me n (⟨#[33,35,36,37,38,39,42,43,45,47,61,63,94,95,96,123,124,125,126]⟩:BA) c).bind fun v2=>k (decide (v2≥(0:Int))) else k true
def gF (n:Nat) (c:Int):Option Bool:=HH n c some
theorem Mdb (n:Nat) {S:Type}:∀ c (φ:_→Option S),(gF n c).bind φ=HH n c φ:=by
  intros;unfold gF HH;first | (simp only [la,fa,iB,bB,oL,oX,nB,Option.bind_some]) | rfl
def xN (n:Nat):Hint Out:={ live:=fun c=>[],run:=fun c=>none,xm:=fun c q=>none }
theorem YZ (n:Nat):ra tys (ja Out (Xp n)) (xN n) n (ia Tryz.f204) 0:=na (fun _=>rfl) _ _ (by kernel_rfl)
theorem H6 (n:Nat):Enters Tryz.prog 204:=enters_of (c:=ia Tryz.f204) Tryz.func204 (by kernel_rfl) (by kernel_rfl)
def bW (n:Nat):Entry:=⟨204,pcT (.pair (.int .u8) .unit) (.one .bool) (fun xs=>gF n xs.1),none,none⟩
theorem Ebb (n:Nat):EntryOk Tryz.prog gl (bW n):=Aa (H6 n) fun xs y h=>oa tys_ok (Wr n) mixed (hint:=xN n) (n:=n) Tryz.func204 (Ba (YZ n)) (ma (φ:=(fun y=>some (Out.ret (rb (.one .bool) y)))) (by kernel_rfl) (Mdb n xs.1 _) h)
def ku (n:Nat):List Entry:=bW n::Xp n
theorem IH (n:Nat):AllOk Tryz.prog gl (ku n):=.cons (Ebb n) (Wr n)
def Pj (n:Nat) {R:Type} (s1:BA) (word t6 t7:Int) (kn:BA→Int→Int→Int→Option R) (ko:(Int)→Option R) (kr:(Bool)→Option R) (kp:Int→Option R):Option R:=if (decide (t7<t6))=true then if 0≤t7∧t7<(s1.size:Int) then if ((bt s1 t7)==(46:Int))=true then if (word==(0:Int))=false then if 0≤t7∧t7<(s1.size:Int) then if ((bt s1 t7) !=(46:Int))=true then if 0≤t7∧t7<(s1.size:Int) then (gF n (bt s1 t7)).bind fun v=>if (!v)=true then kr false else if 0≤t7∧t7<(s1.size:Int) then if ((bt s1 t7)==(46:Int))=true then kn s1 (0:Int) t6 (IntKind.wrap .i64 (t7+(1:Int))) else kn s1 (IntKind.wrap .i64 (word+(1:Int))) t6 (IntKind.wrap .i64 (t7+(1:Int))) else none else none else if 0≤t7∧t7<(s1.size:Int) then if ((bt s1 t7)==(46:Int))=true then kn s1 (0:Int) t6 (IntKind.wrap .i64 (t7+(1:Int))) else kn s1 (IntKind.wrap .i64 (word+(1:Int))) t6 (IntKind.wrap .i64 (t7+(1:Int))) else none else none else kr false else if 0≤t7∧t7<(s1.size:Int) then if ((bt s1 t7) !=(46:Int))=true then if 0≤t7∧t7<(s1.size:Int) then (gF n (bt s1 t7)).bind fun v1=>if (!v1)=true then kr false else if 0≤t7∧t7<(s1.size:Int) then if ((bt s1 t7)==(46:Int))=true then kn s1 (0:Int) t6 (IntKind.wrap .i64 (t7+(1:Int))) else kn s1 (IntKind.wrap .i64 (word+(1:Int))) t6 (IntKind.wrap .i64 (t7+(1:Int))) else none else none
 else if 0≤t7∧t7<(s1.size:Int) then if ((bt s1 t7)==(46:Int))=true then kn s1 (0:Int) t6 (IntKind.wrap .i64 (t7+(1:Int))) else kn s1 (IntKind.wrap .i64 (word+(1:Int))) t6 (IntKind.wrap .i64 (t7+(1:Int))) else none else none else none else ko word
def jd (n:Nat):Nat→BA→Int→Int→Int→Option (Lx (Int) (Bool))
 | 0,_,_,_,_=>none
 | m+1,s1,word,t6,t7=>Pj n s1 word t6 t7 (jd n m) (fun a=>some (.out a)) (fun a=>some (.ret a)) (fun p=>some (.pan p))
theorem iX (n m:Nat) {S:Type}:∀ s1 word t6 t7 (φ:_→Option S),(jd n (m+1) s1 word t6 t7).bind φ=Pj n s1 word t6 t7 (fun s1 word t6 t7=>(jd n m s1 word t6 t7).bind φ) (fun a=>φ (.out a)) (fun a=>φ (.ret a)) (fun p=>φ (.pan p)):=by
  intros;first | (simp only [jd,Pj,la,fa,iB,bB,oL,oX,nB,Option.bind_some]) | rfl
def Rs:List Sl:=.dat .str::.top::.top::.dat (.int .i64)::.top::.top::.dat (.int .i64)::.dat (.int .i64)::tp 32 []
def Qs:List RS:=[]
def VH:List Sl:=.top::.top::.top::.dat (.int .i64)::tp 36 []
def UH:List RS:=[]
def XH:List Sl:=.top::.top::.dat .bool::tp 37 []
def WH:List RS:=[]
def Oe (K:XE→List AV→pa→Option Out):Lx (Int) (Bool)→Option Out:=fun x=>onL x (fun a=>vc VH UH (a,()) () (K (.exit 0))) (fun a=>vc XH WH (a,()) () (K .ret)) (fun _=>none)
def UB (n:Nat) {R:Type} (s:BA) (k:Bool→Option R):Option R:=(jd n n s (0:Int) (s.size:Int) (0:Int)).bind fun x_1=>onL x_1 (fun a_2=>k (decide (a_2>(0:Int)))) (fun a_3=>k a_3) (fun _=>none)
def Cq (n:Nat) (s:BA):Option Bool:=UB n s some
theorem Hbb (n:Nat) {S:Type}:∀ s (φ:_→Option S),(Cq n s).bind φ=UB n s φ:=by
  intros;unfold Cq UB;first | (simp only [la,fa,iB,bB,oL,oX,nB,Option.bind_some]) | rfl
def bn (n:Nat):Hint Out:={ live:=fun c=>(cond (Nat.beq c 0) (lv [0,3,6,7]) []),run:=fun c=>(cond (Nat.beq c 0) (some (Ng Rs Qs fun σ ρ K=>(jd n n σ.1 σ.2.1 σ.2.2.1 σ.2.2.2.1).bind (Oe K))) none),xm:=fun c q=>(cond (Nat.beq c 0&&Nat.beq (q.getD 1000000) 0&&q.isSome) (some [(3,none)]) (cond (Nat.beq c 1&&q.isNone) (some [(2,none)]) none)) }
def an (n:Nat) (K:XE→List AV→pa→Option Out) (m:Nat) (s1:BA) (word:Int) (t6:Int) (t7:Int):Option Out:=Oc tys (ja Out (ku n)) (bn n) n (ya [1,1,0,1,0,0] (ia Tryz.f194)) 0 Rs Qs K m (s1,(word,(t6,(t7,())))) ()
theorem TH (n:Nat) (K:XE→List AV→pa→Option Out):∀ (m:Nat) s1 word t6 t7,an n K m s1 word t6 t7=(jd n m s1 word t6 t7).bind (Oe K)
  | 0,_,_,_,_=>by kernel_rfl
  | m+1,s1,word,t6,t7=>by
    have h1:an n K (m+1) s1 word t6 t7=Pj n s1 word t6 t7 (an n K m) (fun a=>Oe K (.out a)) (fun a=>Oe K (.ret a)) (fun p=>Oe K (.pan p)):=by kernel_rfl
    have h2:an n K m=fun s1 word t6 t7=>(jd n m s1 word t6 t7).bind (Oe K):=by
      repeat (refine funext fun _=>?_)
      exact TH n K m _ _ _ _
    rw [h1,h2];exact (iX n m _ _ _ _ (Oe K)).symm
theorem pU (n:Nat):yc tys (ja Out (ku n)) (bn n) n (ya [1,1,0,1,0,0] (ia Tryz.f194)) 0:=Fa (sp:=Rs) (rp:=Qs) (by kernel_rfl) fun K σ ρ=>TH n K n σ.1 σ.2.1 σ.2.2.1 σ.2.2.2.1
theorem jX (n:Nat):ra tys (ja Out (ku n)) (bn n) n (ia Tryz.f194) 0:=⟨aa,⟨aa,⟨⟨aa,⟨pU n,⟨aa,⟨⟨aa,aa⟩,⟨⟨aa,⟨⟨aa,⟨⟨aa,aa⟩,aa⟩⟩,⟨aa,⟨aa,⟨aa,aa⟩⟩⟩⟩⟩,aa⟩⟩⟩⟩⟩,⟨aa,aa⟩⟩⟩⟩
theorem B0 (n:Nat):Enters Tryz.prog 194:=enters_of (c:=ia Tryz.f194) Tryz.func194 (by kernel_rfl) (by kernel_rfl)
def SQ (n:Nat):Entry:=⟨194,pcT (.pair .str .unit) (.one .bool) (fun xs=>Cq n xs.1),none,none⟩
theorem L6 (n:Nat):EntryOk Tryz.prog gl (SQ n):=Aa (B0 n) fun xs y h=>oa tys_ok (IH n) mixed (hint:=bn n) (n:=n) Tryz.func194 (Ba (jX n)) (ma (φ:=(fun y=>some (Out.ret (rb (.one .bool) y)))) (by kernel_rfl) (Hbb n xs.1 _) h)
def Io (n:Nat):List Entry:=SQ n::ku n
theorem UD (n:Nat):AllOk Tryz.prog gl (Io n):=.cons (L6 n) (IH n)
def Xf (n:Nat) {R:Type} (s1:BA) (t10 t11:Int) (r1:(Sq Int)) (kn:BA→Int→Int→(Sq Int)→Option R) (ko:((Sq Int))→Option R) (kr:Unit→Option R) (kp:Int→Option R):Option R:=if (decide (t11<t10))=true then if 0≤t11∧t11<(s1.size:Int) then if ((bt s1 t11)==(34:Int))=false then if 0≤t11∧t11<(s1.size:Int) then if ((bt s1 t11)==(92:Int))=true then (Qa n (92:Int) r1).bind fun v2=>if 0≤t11∧t11<(s1.size:Int) then (Qa n (bt s1 t11) v2.1).bind fun v3=>kn s1 t10 (IntKind.wrap .i64 (t11+(1:Int))) v3.1 else none else if 0≤t11∧t11<(s1.size:Int) then (Qa n (bt s1 t11) r1).bind fun v4=>kn s1 t10 (IntKind.wrap .i64 (t11+(1:Int))) v4.1 else none else none else (Qa n (92:Int) r1).bind fun v5=>if 0≤t11∧t11<(s1.size:Int) then (Qa n (bt s1 t11) v5.1).bind fun v6=>kn s1 t10 (IntKind.wrap .i64 (t11+(1:Int))) v6.1 else none else none else ko r1
def lc (n:Nat):Nat→BA→Int→Int→(Sq Int)→Option (Lx ((Sq Int)) Unit)
 | 0,_,_,_,_=>none
 | m+1,s1,t10,t11,r1=>Xf n s1 t10 t11 r1 (lc n m) (fun a=>some (.out a)) (fun a=>some (.ret a)) (fun p=>some (.pan p))
theorem kX (n m:Nat) {S:Type}:∀ s1 t10 t11 r1 (φ:_→Option S),(lc n (m+1) s1 t10 t11 r1).bind φ=Xf n s1 t10 t11 r1 (fun s1 t10 t11 r1=>(lc n m s1 t10 t11 r1).bind φ) (fun a=>φ (.out a)) (fun a=>φ (.ret a)) (fun p=>φ (.pan p)):=by
  intros;first | (simp only [lc,Xf,la,fa,iB,bB,oL,oX,nB,Option.bind_some]) | rfl
def Ts:List Sl:=.dat .str::.top::.top::.ptr 0 0 0::tp 6 (.dat (.int .i64)::.dat (.int .i64)::tp 20 [])
def Ss:List RS:=[.box 108 2 false [.ptr 0 0 0,.row 1],.row 5 1 (.int .u8) true false]
def aI:List Sl:=.top::.top::.top::.ptr 0 0 0::tp 28 []
def ZH:List RS:=[.box 108 2 false [.ptr 0 0 0,.row 1],.row 5 1 (.int .u8) true false]
def Pe (K:XE→List AV→pa→Option Out):Lx ((Sq Int)) Unit→Option Out:=fun x=>onL x (fun a=>vc aI ZH () ((),(a,())) (K (.exit 0))) (fun _=>none) (fun _=>none)
def WB (n:Nat) {R:Type} (s:BA) (k:BA→Option R):Option R:=(Cq n s).bind fun v=>if v=true then k s else (Ab n (34:Int)).bind fun v1=>(lc n n s (s.size:Int) (0:Int) v1.1).bind fun x_1=>onL x_1 (fun a_2=>(Ke n a_2).bind fun v7=>if Eg v7.1 (⟨#[34]⟩:BA)=true then k (v7.1++(⟨#[34]⟩:BA)) else none) (fun _=>none) (fun _=>none)
def VB (n:Nat) (s:BA):Option BA:=WB n s some
theorem Ibb (n:Nat) {S:Type}:∀ s (φ:_→Option S),(VB n s).bind φ=WB n s φ:=by
  intros;unfold VB WB;first | (simp only [la,fa,iB,bB,oL,oX,nB,Option.bind_some]) | rfl
def en (n:Nat):Hint Out:={ live:=fun c=>(cond (Nat.beq c 0) (lv [0,3,10,11]) []),run:=fun c=>(cond (Nat.beq c 0) (some (Ng Ts Ss fun σ ρ K=>(lc n n σ.1 σ.2.1 σ.2.2.1 ρ.2.1).bind (Pe K))) none),xm:=fun c q=>(cond (Nat.beq c 0&&Nat.beq (q.getD 1000000) 0&&q.isSome) (some [(3,none)]) none) }
def dn (n:Nat) (K:XE→List AV→pa→Option Out) (m:Nat) (s1:BA) (t10:Int) (t11:Int) (r1:(Sq Int)):Option Out:=Oc tys (ja Out (Io n)) (en n) n (ya [1,1,1,1,0,1,0,0] (ia Tryz.f192)) 0 Ts Ss K m (s1,(t10,(t11,()))) ((),(r1,()))
theorem YH (n:Nat) (K:XE→List AV→pa→Option Out):∀ (m:Nat) s1 t10 t11 r1,dn n K m s1 t10 t11 r1=(lc n m s1 t10 t11 r1).bind (Pe K)
  | 0,_,_,_,_=>by kernel_rfl
  | m+1,s1,t10,t11,r1=>by
    have h1:dn n K (m+1) s1 t10 t11 r1=Xf n s1 t10 t11 r1 (dn n K m) (fun a=>Pe K (.out a)) (fun a=>Pe K (.ret a)) (fun p=>Pe K (.pan p)):=by kernel_rfl
    have h2:dn n K m=fun s1 t10 t11 r1=>(lc n m s1 t10 t11 r1).bind (Pe K):=by
      repeat (refine funext fun _=>?_)
      exact YH n K m _ _ _ _
    rw [h1,h2];exact (kX n m _ _ _ _ (Pe K)).symm
theorem qU (n:Nat):yc tys (ja Out (Io n)) (en n) n (ya [1,1,1,1,0,1,0,0] (ia Tryz.f192)) 0:=Fa (sp:=Ts) (rp:=Ss) (by kernel_rfl) fun K σ ρ=>YH n K n σ.1 σ.2.1 σ.2.2.1 ρ.2.1
theorem lX (n:Nat):ra tys (ja Out (Io n)) (en n) n (ia Tryz.f192) 0:=⟨aa,⟨⟨aa,⟨⟨aa,aa⟩,aa⟩⟩,⟨aa,⟨aa,⟨⟨aa,⟨qU n,⟨aa,⟨⟨aa,aa⟩,⟨⟨aa,⟨⟨aa,⟨aa,aa⟩⟩,aa⟩⟩,aa⟩⟩⟩⟩⟩,⟨aa,aa⟩⟩⟩⟩⟩⟩
theorem C0 (n:Nat):Enters Tryz.prog 192:=enters_of (c:=ia Tryz.f192) Tryz.func192 (by kernel_rfl) (by kernel_rfl)
def TQ (n:Nat):Entry:=⟨192,pcT (.pair .str .unit) (.one .str) (fun xs=>VB n xs.1),none,none⟩
theorem M6 (n:Nat):EntryOk Tryz.prog gl (TQ n):=Aa (C0 n) fun xs y h=>oa tys_ok (UD n) mixed (hint:=en n) (n:=n) Tryz.func192 (Ba (lX n)) (ma (φ:=(fun y=>some (Out.ret (rb (.one .str) y)))) (by kernel_rfl) (Ibb n xs.1 _) h)
def iF (n:Nat):List Entry:=TQ n::Io n
theorem Us (n:Nat):AllOk Tryz.prog gl (iF n):=.cons (M6 n) (UD n)
def ui (n:Nat) {R:Type} (s:BA) (k:(BA×BA×Unit)→Option R) (kp:Int→Option R):Option R:=(Ob n s (⟨#[34]⟩:BA)).bind fun v=>if v=true then (ld n s).bind fun x_1=>onX x_1 (fun p=>kp p) (fun v1=>(VB n v1.1).bind fun v2=>k (v2,(v1.2.1,()))) else (Me n s (64:Int)).bind fun v3=>if (decide (v3≥(0:Int)))=true then if 0≤v3∧v3≤(s.size:Int) then (Cq n (s.extract (Int.toNat (0:Int)) (Int.toNat v3))).bind fun v4=>(Eb n v4).bind fun x_2=>onX x_2 (fun p1=>kp p1) (fun v5=>if 0≤v3∧v3≤(s.size:Int) then if 0≤v3∧v3≤(s.size:Int) then k ((s.extract (Int.toNat (0:Int)) (Int.toNat v3)),((s.extract (Int.toNat v3) (Int.toNat (s.size:Int))),())) else none else none) else none else (Eb n false).bind fun x_3=>onX x_3 (fun p2=>kp p2) (fun v6=>if 0≤v3∧v3≤(s.size:Int) then if 0≤v3∧v3≤(s.size:Int) then k ((s.extract (Int.toNat (0:Int)) (Int.toNat v3)),((s.extract (Int.toNat v3) (Int.toNat (s.size:Int))),())) else none else none)
def Ni (n:Nat) (s:BA):Option (Except Int (BA×BA×Unit)):=ui n s (fun y=>some (.ok y)) (fun p=>some (.error p))
theorem cW (n:Nat) {S:Type}:∀ s (φ:_→Option S),(Ni n s).bind φ=ui n s (fun y=>φ (.ok y)) (fun p=>φ (.error p)):=by
  intros;unfold Ni ui;first | (simp only [la,fa,iB,bB,oL,oX,nB,Option.bind_some]) | rfl
def dw (n:Nat):Hint Out:={ live:=fun c=>[],run:=fun c=>none,xm:=fun c q=>none }
theorem QH (n:Nat):ra tys (ja Out (iF n)) (dw n) n (ia Tryz.f169) 0:=na (fun _=>rfl) _ _ (by kernel_rfl)
theorem u0 (n:Nat):Enters Tryz.prog 169:=enters_of (c:=ia Tryz.f169) Tryz.func169 (by kernel_rfl) (by kernel_rfl)
def RQ (n:Nat):Entry:=⟨169,pcX 174 (.pair .str .unit) (.many (.pair .str (.pair .str .unit))) (fun xs=>Ni n xs.1),none,none⟩
theorem I6 (n:Nat):EntryOk Tryz.prog gl (RQ n):=KI (u0 n) (fun xs y h=>oa tys_ok (Us n) mixed (hint:=dw n) (n:=n) Tryz.func169 (Ba (QH n)) (ma (φ:=(fun r=>onX r (fun p=>some (Out.pan (th 174 p))) fun y=>some (Out.ret (rb (.many (.pair .str (.pair .str .unit))) y)))) (by kernel_rfl) (cW n xs.1 _) h)) (fun xs p h=>oa tys_ok (Us n) mixed (hint:=dw n) (n:=n) Tryz.func169 (Ba (QH n)) (ma (φ:=(fun r=>onX r (fun p=>some (Out.pan (th 174 p))) fun y=>some (Out.ret (rb (.many (.pair .str (.pair .str .unit))) y)))) (by kernel_rfl) (cW n xs.1 _) h))
def Ho (n:Nat):List Entry:=RQ n::iF n
theorem TD (n:Nat):AllOk Tryz.prog gl (Ho n):=.cons (I6 n) (Us n)
def Yf (n:Nat) {R:Type} (t9 t10:Int) (b:(Sq Int)) (kn:Int→Int→(Sq Int)→Option R) (ko:((Sq Int))→Option R) (kr:Unit→Option R) (kp:Int→Option R):Option R:=if (decide (t10<t9))=true then if 0≤t10∧t10<(b.n:Int) then if (decide ((b.at' (Int.toNat t10))≥(65:Int)))=true then if (decide ((b.at' (Int.toNat t10))≤(90:Int)))=true then if 0≤t10∧t10<(b.n:Int) then kn t9 (IntKind.wrap .i64 (t10+(1:Int))) (⟨b.n,fun q=>if q=(Int.toNat t10)∧q<b.n then (IntKind.wrap .u8 ((IntKind.wrap .u8 ((b.at' (Int.toNat t10))+(97:Int))) - (65:Int))) else b.at' q⟩:Sq Int) else none else kn t9 (IntKind.wrap .i64 (t10+(1:Int))) b else kn t9 (IntKind.wrap .i64 (t10+(1:Int))) b else none else ko b
def Sb (n:Nat):Nat→Int→Int→(Sq Int)→Option (Lx ((Sq Int)) Unit)
 | 0,_,_,_=>none
 | m+1,t9,t10,b=>Yf n t9 t10 b (Sb n m) (fun a=>some (.out a)) (fun a=>some (.ret a)) (fun p=>some (.pan p))
theorem nX (n m:Nat) {S:Type}:∀ t9 t10 b (φ:_→Option S),(Sb n (m+1) t9 t10 b).bind φ=Yf n t9 t10 b (fun t9 t10 b=>(Sb n m t9 t10 b).bind φ) (fun a=>φ (.out a)) (fun a=>φ (.ret a)) (fun p=>φ (.pan p)):=by
  intros;first | (simp only [Sb,Yf,la,fa,iB,bB,oL,oX,nB,Option.bind_some]) | rfl
def Ws:List Sl:=.top::.top::.top::.row 0::tp 4 (.row 0::.dat (.int .i64)::.dat (.int .i64)::tp 19 [])
def Vs:List RS:=[.row 5 1 (.int .u8) false true]
def gI:List Sl:=.top::.top::.top::.row 0::tp 26 []
def fI:List RS:=[.row 5 1 (.int .u8) false true]
def Qe (K:XE→List AV→pa→Option Out):Lx ((Sq Int)) Unit→Option Out:=fun x=>onL x (fun a=>vc gI fI () (a,()) (K (.exit 0))) (fun _=>none) (fun _=>none)
def XB (n:Nat) {R:Type} (s:BA) (k:BA→Option R):Option R:=(Sb n n (s.size:Int) (0:Int) (⟨s.size,fun q=>bt s q⟩:Sq Int)).bind fun x_1=>onL x_1 (fun a_2=>k (CD a_2.n a_2.at')) (fun _=>none) (fun _=>none)
def ln (n:Nat) (s:BA):Option BA:=XB n s some
theorem Lbb (n:Nat) {S:Type}:∀ s (φ:_→Option S),(ln n s).bind φ=XB n s φ:=by
  intros;unfold ln XB;first | (simp only [la,fa,iB,bB,oL,oX,nB,Option.bind_some]) | rfl
def rn (n:Nat):Hint Out:={ live:=fun c=>(cond (Nat.beq c 0) [(3,some (.sl (.int .u8))),(8,some (.sl (.int .u8))),(9,none),(10,none)] []),run:=fun c=>(cond (Nat.beq c 0) (some (Ng Ws Vs fun σ ρ K=>(Sb n n σ.1 σ.2.1 ρ.1).bind (Qe K))) none),xm:=fun c q=>(cond (Nat.beq c 0&&Nat.beq (q.getD 1000000) 0&&q.isSome) (some [(3,some (.sl (.int .u8)))]) none) }
def qn (n:Nat) (K:XE→List AV→pa→Option Out) (m:Nat) (t9:Int) (t10:Int) (b:(Sq Int)):Option Out:=Oc tys (ja Out (Ho n)) (rn n) n (ya [1,1,0,1,0,0] (ia Tryz.f154)) 0 Ws Vs K m (t9,(t10,())) (b,())
theorem eI (n:Nat) (K:XE→List AV→pa→Option Out):∀ (m:Nat) t9 t10 b,qn n K m t9 t10 b=(Sb n m t9 t10 b).bind (Qe K)
  | 0,_,_,_=>by kernel_rfl
  | m+1,t9,t10,b=>by
    have h1:qn n K (m+1) t9 t10 b=Yf n t9 t10 b (qn n K m) (fun a=>Qe K (.out a)) (fun a=>Qe K (.ret a)) (fun p=>Qe K (.pan p)):=by kernel_rfl
    have h2:qn n K m=fun t9 t10 b=>(Sb n m t9 t10 b).bind (Qe K):=by
      repeat (refine funext fun _=>?_)
      exact eI n K m _ _ _
    rw [h1,h2];exact (nX n m _ _ _ (Qe K)).symm
theorem sU (n:Nat):yc tys (ja Out (Ho n)) (rn n) n (ya [1,1,0,1,0,0] (ia Tryz.f154)) 0:=Fa (sp:=Ws) (rp:=Vs) (by kernel_rfl) fun K σ ρ=>eI n K n σ.1 σ.2.1 ρ.1
theorem pX (n:Nat):ra tys (ja Out (Ho n)) (rn n) n (ia Tryz.f154) 0:=⟨aa,⟨aa,⟨⟨aa,⟨sU n,⟨aa,⟨⟨aa,aa⟩,⟨⟨aa,⟨aa,⟨aa,aa⟩⟩⟩,aa⟩⟩⟩⟩⟩,⟨aa,aa⟩⟩⟩⟩
theorem H0 (n:Nat):Enters Tryz.prog 154:=enters_of (c:=ia Tryz.f154) Tryz.func154 (by kernel_rfl) (by kernel_rfl)
def WQ (n:Nat):Entry:=⟨154,pcT (.pair .str .unit) (.one .str) (fun xs=>ln n xs.1),none,none⟩
theorem P6 (n:Nat):EntryOk Tryz.prog gl (WQ n):=Aa (H0 n) fun xs y h=>oa tys_ok (TD n) mixed (hint:=rn n) (n:=n) Tryz.func154 (Ba (pX n)) (ma (φ:=(fun y=>some (Out.ret (rb (.one .str) y)))) (by kernel_rfl) (Lbb n xs.1 _) h)
def mF (n:Nat):List Entry:=WQ n::Ho n
theorem Xs (n:Nat):AllOk Tryz.prog gl (mF n):=.cons (P6 n) (TD n)
def zl (n:Nat) {R:Type} (s:BA) (k:U0→Option R) (kp:Int→Option R):Option R:=(Ni n s).bind fun x_1=>onX x_1 (fun p=>kp p) (fun v=>if (decide ((v.1.size:Int)≤(64:Int)))=true then (Ob n v.2.1 (⟨#[64]⟩:BA)).bind fun v1=>(Eb n v1).bind fun x_2=>onX x_2 (fun p1=>kp p1) (fun v2=>if 0≤(1:Int)∧(1:Int)≤(v.2.1.size:Int) then (ln n (v.2.1.extract (Int.toNat (1:Int)) (Int.toNat (v.2.1.size:Int)))).bind fun v3=>(cd n v3).bind fun v4=>(Eb n v4).bind fun x_3=>onX x_3 (fun p2=>kp p2) (fun v5=>k (v.1,(v3,()))) else none) else (Eb n false).bind fun x_4=>onX x_4 (fun p3=>kp p3) (fun v6=>if 0≤(1:Int)∧(1:Int)≤(v.2.1.size:Int) then (ln n (v.2.1.extract (Int.toNat (1:Int)) (Int.toNat (v.2.1.size:Int)))).bind fun v7=>(cd n v7).bind fun v8=>(Eb n v8).bind fun x_5=>onX x_5 (fun p4=>kp p4) (fun v9=>k (v.1,(v7,()))) else none))
def Lo (n:Nat) (s:BA):Option (Except Int U0):=zl n s (fun y=>some (.ok y)) (fun p=>some (.error p))
theorem F0 (n:Nat) {S:Type}:∀ s (φ:_→Option S),(Lo n s).bind φ=zl n s (fun y=>φ (.ok y)) (fun p=>φ (.error p)):=by
  intros;unfold Lo zl;first | (simp only [la,fa,iB,bB,oL,oX,nB,Option.bind_some]) | rfl
def mz (n:Nat):Hint Out:={ live:=fun c=>[],run:=fun c=>none,xm:=fun c q=>none }
theorem AN (n:Nat):ra tys (ja Out (mF n)) (mz n) n (ia Tryz.f147) 0:=na (fun _=>rfl) _ _ (by kernel_rfl)
theorem N6 (n:Nat):Enters Tryz.prog 147:=enters_of (c:=ia Tryz.f147) Tryz.func147 (by kernel_rfl) (by kernel_rfl)
def eW (n:Nat):Entry:=⟨147,pcX 174 (.pair .str .unit) (.one (.pair .str (.pair .str .unit))) (fun xs=>Lo n xs.1),none,none⟩
theorem Jbb (n:Nat):EntryOk Tryz.prog gl (eW n):=KI (N6 n) (fun xs y h=>oa tys_ok (Xs n) mixed (hint:=mz n) (n:=n) Tryz.func147 (Ba (AN n)) (ma (φ:=(fun r=>onX r (fun p=>some (Out.pan (th 174 p))) fun y=>some (Out.ret (rb (.one (.pair .str (.pair .str .unit))) y)))) (by kernel_rfl) (F0 n xs.1 _) h)) (fun xs p h=>oa tys_ok (Xs n) mixed (hint:=mz n) (n:=n) Tryz.func147 (Ba (AN n)) (ma (φ:=(fun r=>onX r (fun p=>some (Out.pan (th 174 p))) fun y=>some (Out.ret (rb (.one (.pair .str (.pair .str .unit))) y)))) (by kernel_rfl) (F0 n xs.1 _) h))
def uo (n:Nat):List Entry:=eW n::mF n
theorem bI (n:Nat):AllOk Tryz.prog gl (uo n):=.cons (Jbb n) (Xs n)
def ro (n:Nat) {R:Type} (s:BA) (k:(U0×Int×Unit)→Option R):Option R:=(Lo n s).bind fun x_1=>onX x_1 (fun p=>k (((⟨#[]⟩:BA),((⟨#[]⟩:BA),())),(p,()))) (fun v=>k ((v.1,(v.2.1,())),((0:Int),())))
def Wm (n:Nat) (s:BA):Option (U0×Int×Unit):=ro n s some
theorem Cbb (n:Nat) {S:Type}:∀ s (φ:_→Option S),(Wm n s).bind φ=ro n s φ:=by
  intros;unfold Wm ro;first | (simp only [la,fa,iB,bB,oL,oX,nB,Option.bind_some]) | rfl
def Xm (n:Nat):Hint Out:={ live:=fun c=>[],run:=fun c=>none,xm:=fun c q=>none,pm:=some [(2,none),(3,none)] }
theorem eX (n:Nat):ra tys (ja Out (uo n)) (Xm n) n (ya [0] (ia Tryz.f123)) 0∧ra tys (ja Out (uo n)) (Xm n) n (ya [1,1] (ia Tryz.f123)) 0:=⟨aa,⟨aa,aa⟩⟩
theorem WZ (n:Nat):Enters Tryz.prog 123:=enters_of (c:=ia Tryz.f123) Tryz.func123 (by kernel_rfl) (by kernel_rfl)
theorem vN:Tryz.prog.funcs[146]?=some Tryz.f146:=by kernel_rfl
theorem dX:Enters Tryz.prog 146:=enters_of (c:=ia Tryz.f146) vN (by kernel_rfl) (by kernel_rfl)
theorem lU (n:Nat):ra tys (ja Out (uo n)) YX n (ya [1] (ia Tryz.f146)) 0:=⟨⟨aa,⟨aa,aa⟩⟩,⟨aa,⟨⟨aa,⟨aa,aa⟩⟩,aa⟩⟩⟩
theorem Bbb (n:Nat) (s:BA):fnD tys (ja Out (uo n)) (Xm n) n 146 Tryz.f146 Tryz.f123 (fcb (.pair .str .unit) (s,())) (V8 fun v=>some (.ret v))=ro n s (fun y=>some (.ret (rb (.many (.pair (.pair .str (.pair .str .unit)) (.pair (.int .i64) .unit))) y))):=by kernel_rfl
def LQ (n:Nat):Entry:=⟨123,pcT (.pair .str .unit) (.many (.pair (.pair .str (.pair .str .unit)) (.pair (.int .i64) .unit))) (fun xs=>Wm n xs.1),none,none⟩
theorem F6 (n:Nat):EntryOk Tryz.prog gl (LQ n):=Aa (WZ n) fun xs y h=>gW tys_ok (bI n) mixed (hint:=Xm n) (n:=n) (fn:=Tryz.f123) (f2:=Tryz.f146) Tryz.func123 vN dX (vlb (eX n)) (Jib (lU n)) (ma (φ:=(fun y=>some (Out.ret (rb (.many (.pair (.pair .str (.pair .str .unit)) (.pair (.int .i64) .unit))) y)))) (Bbb n xs.1) (Cbb n xs.1 _) h)
def eF (n:Nat):List Entry:=LQ n::uo n
theorem SD (n:Nat):AllOk Tryz.prog gl (eF n):=.cons (F6 n) (bI n)
def fQ (n:Nat) {R:Type} (m0:U0) (k:Bool→Option R):Option R:=(ZV n (m0.1,(m0.2.1,()))).bind fun v=>(Wm n v).bind fun v1=>if (v1.2.1==(0:Int))=true then k ((v1.1.1.toList==m0.1.toList)&&((v1.1.2.1.toList==m0.2.1.toList)&&true)) else k false
def cz (n:Nat) (m0:U0):Option Bool:=fQ n m0 some
theorem Jgb (n:Nat) {S:Type}:∀ m0 (φ:_→Option S),(cz n m0).bind φ=fQ n m0 φ:=by
  intros;unfold cz fQ;first | (simp only [la,fa,iB,bB,oL,oX,nB,Option.bind_some]) | rfl
def KQ (n:Nat):Hint Out:={ live:=fun c=>[],run:=fun c=>none,xm:=fun c q=>none }
theorem E6 (n:Nat):ra tys (ja Out (eF n)) (KQ n) n (ia Tryz.f91) 0:=na (fun _=>rfl) _ _ (by kernel_rfl)
theorem Abb (n:Nat):Enters Tryz.prog 91:=enters_of (c:=ia Tryz.f91) Tryz.func91 (by kernel_rfl) (by kernel_rfl)
def VZ (n:Nat):Entry:=⟨91,pcT (.pair (.pair .str (.pair .str .unit)) .unit) (.one .bool) (fun xs=>cz n xs.1),none,none⟩
theorem Kdb (n:Nat):EntryOk Tryz.prog gl (VZ n):=Aa (Abb n) fun xs y h=>oa tys_ok (SD n) mixed (hint:=KQ n) (n:=n) Tryz.func91 (Ba (E6 n)) (ma (φ:=(fun y=>some (Out.ret (rb (.one .bool) y)))) (by kernel_rfl) (Jgb n xs.1 _) h)
def dz (n:Nat):List Entry:=VZ n::eF n
theorem uN (n:Nat):AllOk Tryz.prog gl (dz n):=.cons (Kdb n) (SD n)
def jT (n:Nat) {R:Type} (s1:(Sq U0)) (t7 t8:Int) (v1 v2:BA) (kn:(Sq U0)→Int→Int→BA→BA→Option R) (ko:(Unit)→Option R) (kr:(Int)→Option R) (kp:Int→Option R):Option R:=if (decide (t8<t7))=true then if 0≤t8∧t8<(s1.n:Int) then if ((v1.toList==(((s1.at' (Int.toNat t8))).1).toList)&&((v2.toList==((((s1.at' (Int.toNat t8))).2).1).toList)&&true))=true then kr t8 else kn s1 t7 (IntKind.wrap .i64 (t8+(1:Int))) v1 v2 else none else ko ()
def Zx (n:Nat):Nat→(Sq U0)→Int→Int→BA→BA→Option (Lx (Unit) (Int))
 | 0,_,_,_,_,_=>none
 | m+1,s1,t7,t8,v1,v2=>jT n s1 t7 t8 v1 v2 (Zx n m) (fun a=>some (.out a)) (fun a=>some (.ret a)) (fun p=>some (.pan p))
theorem Hhb (n m:Nat) {S:Type}:∀ s1 t7 t8 v1 v2 (φ:_→Option S),(Zx n (m+1) s1 t7 t8 v1 v2).bind φ=jT n s1 t7 t8 v1 v2 (fun s1 t7 t8 v1 v2=>(Zx n m s1 t7 t8 v1 v2).bind φ) (fun a=>φ (.out a)) (fun a=>φ (.ret a)) (fun p=>φ (.pan p)):=by
  intros;first | (simp only [Zx,jT,la,fa,iB,bB,oL,oX,nB,Option.bind_some]) | rfl
def lT:List Sl:=.dat (.sl (.pair .str (.pair .str .unit)))::.top::.top::.ptr 0 0 0::.top::.top::.top::.dat (.int .i64)::.dat (.int .i64)::tp 10 []
def kT:List RS:=[.box 25 2 true [.dat .str,.dat .str]]
def eZ:List Sl:=tp 19 []
def dZ:List RS:=[]
def gZ:List Sl:=tp 4 (.dat (.int .i64)::tp 14 [])
def fZ:List RS:=[]
def gx (K:XE→List AV→pa→Option Out):Lx (Unit) (Int)→Option Out:=fun x=>onL x (fun a=>vc eZ dZ () () (K (.exit 0))) (fun a=>vc gZ fZ (a,()) () (K .ret)) (fun _=>none)
def Ghb (n:Nat) {R:Type} (s:(Sq U0)) (v:U0) (k:Int→Option R):Option R:=(Zx n n s (s.n:Int) (0:Int) v.1 v.2.1).bind fun x_1=>onL x_1 (fun a_2=>k (-1:Int)) (fun a_3=>k a_3) (fun _=>none)
def sIx (n:Nat) (s:(Sq U0)) (v:U0):Option Int:=Ghb n s v some
theorem Emb (n:Nat) {S:Type}:∀ s v (φ:_→Option S),(sIx n s v).bind φ=Ghb n s v φ:=by
  intros;unfold sIx Ghb;first | (simp only [la,fa,iB,bB,oL,oX,nB,Option.bind_some]) | rfl
def yQ (n:Nat):Hint Out:={ live:=fun c=>(cond (Nat.beq c 0) [(0,some (.sl (.pair .str (.pair .str .unit)))),(3,none),(7,none),(8,none)] []),run:=fun c=>(cond (Nat.beq c 0) (some (Ng lT kT fun σ ρ K=>(Zx n n σ.1 σ.2.1 σ.2.2.1 ρ.1.1 ρ.1.2.1).bind (gx K))) none),xm:=fun c q=>(cond (Nat.beq c 0&&Nat.beq (q.getD 1000000) 0&&q.isSome) (some []) (cond (Nat.beq c 1&&q.isNone) (some [(4,none)]) none)) }
def xQ (n:Nat) (K:XE→List AV→pa→Option Out) (m:Nat) (s1:(Sq U0)) (t7:Int) (t8:Int) (v1:BA) (v2:BA):Option Out:=Oc tys (ja Out (dz n)) (yQ n) n (ya [1,0,1,0,0] (ia Tryz.f103)) 0 lT kT K m (s1,(t7,(t8,()))) ((v1,(v2,())),())
theorem Zab (n:Nat) (K:XE→List AV→pa→Option Out):∀ (m:Nat) s1 t7 t8 v1 v2,xQ n K m s1 t7 t8 v1 v2=(Zx n m s1 t7 t8 v1 v2).bind (gx K)
  | 0,_,_,_,_,_=>by kernel_rfl
  | m+1,s1,t7,t8,v1,v2=>by
    have h1:xQ n K (m+1) s1 t7 t8 v1 v2=jT n s1 t7 t8 v1 v2 (xQ n K m) (fun a=>gx K (.out a)) (fun a=>gx K (.ret a)) (fun p=>gx K (.pan p)):=by kernel_rfl
    have h2:xQ n K m=fun s1 t7 t8 v1 v2=>(Zx n m s1 t7 t8 v1 v2).bind (gx K):=by
      repeat (refine funext fun _=>?_)
      exact Zab n K m _ _ _ _ _
    rw [h1,h2];exact (Hhb n m _ _ _ _ _ (gx K)).symm
theorem Ffb (n:Nat):yc tys (ja Out (dz n)) (yQ n) n (ya [1,0,1,0,0] (ia Tryz.f103)) 0:=Fa (sp:=lT) (rp:=kT) (by kernel_rfl) fun K σ ρ=>Zab n K n σ.1 σ.2.1 σ.2.2.1 ρ.1.1 ρ.1.2.1
theorem Ihb (n:Nat):ra tys (ja Out (dz n)) (yQ n) n (ia Tryz.f103) 0:=⟨aa,⟨⟨aa,⟨Ffb n,⟨aa,⟨⟨aa,aa⟩,⟨⟨aa,⟨aa,⟨⟨aa,aa⟩,aa⟩⟩⟩,aa⟩⟩⟩⟩⟩,⟨aa,aa⟩⟩⟩
theorem gkb (n:Nat):Enters Tryz.prog 103:=enters_of (c:=ia Tryz.f103) Tryz.func103 (by kernel_rfl) (by kernel_rfl)
def Mib (n:Nat):Entry:=⟨103,pcT K6 (.one (.int .i64)) (fun xs=>sIx n xs.1 xs.2.1),none,none⟩
theorem xlb (n:Nat):EntryOk Tryz.prog gl (Mib n):=Aa (gkb n) fun xs y h=>oa tys_ok (uN n) mixed (hint:=yQ n) (n:=n) Tryz.func103 (Ba (Ihb n)) (ma (φ:=(fun y=>some (Out.ret (rb (.one (.int .i64)) y)))) (by kernel_rfl) (Emb n xs.1 xs.2.1 _) h)
def Gfb (n:Nat):List Entry:=Mib n::dz n
theorem m5 (n:Nat):AllOk Tryz.prog gl (Gfb n):=.cons (xlb n) (uN n)
def Dhb (n:Nat) {R:Type} (s:(Sq U0)) (v:U0) (k:Bool→Option R):Option R:=(sIx n s (v.1,(v.2.1,()))).bind fun v1=>k (decide (v1≥(0:Int)))
def sCn (n:Nat) (s:(Sq U0)) (v:U0):Option Bool:=Dhb n s v some
theorem Dmb (n:Nat) {S:Type}:∀ s v (φ:_→Option S),(sCn n s v).bind φ=Dhb n s v φ:=by
  intros;unfold sCn Dhb;first | (simp only [la,fa,iB,bB,oL,oX,nB,Option.bind_some]) | rfl
def Yab (n:Nat):Hint Out:={ live:=fun c=>[],run:=fun c=>none,xm:=fun c q=>none }
theorem Ehb (n:Nat):ra tys (ja Out (Gfb n)) (Yab n) n (ia Tryz.f75) 0:=na (fun _=>rfl) _ _ (by kernel_rfl)
theorem fkb (n:Nat):Enters Tryz.prog 75:=enters_of (c:=ia Tryz.f75) Tryz.func75 (by kernel_rfl) (by kernel_rfl)
def Kib (n:Nat):Entry:=⟨75,pcT K6 (.one .bool) (fun xs=>sCn n xs.1 xs.2.1),none,none⟩
theorem wlb (n:Nat):EntryOk Tryz.prog gl (Kib n):=Aa (fkb n) fun xs y h=>oa tys_ok (m5 n) mixed (hint:=Yab n) (n:=n) Tryz.func75 (Ba (Ehb n)) (ma (φ:=(fun y=>some (Out.ret (rb (.one .bool) y)))) (by kernel_rfl) (Dmb n xs.1 xs.2.1 _) h)
def W4 (n:Nat):List Entry:=Kib n::Gfb n
theorem X4 (n:Nat):AllOk Tryz.prog gl (W4 n):=.cons (wlb n) (m5 n)
def GL (n:Nat) {R:Type} (l1 t5:(Sq U0)) (t6 t7:Int) (kn:(Sq U0)→(Sq U0)→Int→Int→Option R) (ko:((Sq U0))→Option R) (kr:(Bool)→Option R) (kp:Int→Option R):Option R:=if (decide (t7<t6))=true then if 0≤t7∧t7<(t5.n:Int) then (cz n (((t5.at' (Int.toNat t7))).1,((((t5.at' (Int.toNat t7))).2).1,()))).bind fun v=>if (!v)=false then if 0≤t7∧t7≤(l1.n:Int) then (sCn n (⟨((Int.toNat t7) - (Int.toNat (0:Int))),fun i=>l1.at' ((Int.toNat (0:Int))+i)⟩:Sq U0) (((t5.at' (Int.toNat t7))).1,((((t5.at' (Int.toNat t7))).2).1,()))).bind fun v1=>if v1=true then kr false else kn l1 t5 t6 (IntKind.wrap .i64 (t7+(1:Int))) else none else kr false else none else ko l1
def Uo (n:Nat):Nat→(Sq U0)→(Sq U0)→Int→Int→Option (Lx ((Sq U0)) (Bool))
 | 0,_,_,_,_=>none
 | m+1,l1,t5,t6,t7=>GL n l1 t5 t6 t7 (Uo n m) (fun a=>some (.out a)) (fun a=>some (.ret a)) (fun p=>some (.pan p))
theorem Ydb (n m:Nat) {S:Type}:∀ l1 t5 t6 t7 (φ:_→Option S),(Uo n (m+1) l1 t5 t6 t7).bind φ=GL n l1 t5 t6 t7 (fun l1 t5 t6 t7=>(Uo n m l1 t5 t6 t7).bind φ) (fun a=>φ (.out a)) (fun a=>φ (.ret a)) (fun p=>φ (.pan p)):=by
  intros;first | (simp only [Uo,GL,la,fa,iB,bB,oL,oX,nB,Option.bind_some]) | rfl
def IL:List Sl:=.dat (.sl (.pair .str (.pair .str .unit)))::tp 4 (.dat (.sl (.pair .str (.pair .str .unit)))::.dat (.int .i64)::.dat (.int .i64)::tp 18 [])
def HL:List RS:=[]
def JU:List Sl:=.dat (.sl (.pair .str (.pair .str .unit)))::tp 25 []
def IU:List RS:=[]
def LU:List Sl:=.top::.top::.dat .bool::tp 23 []
def KU:List RS:=[]
def Vo (K:XE→List AV→pa→Option Out):Lx ((Sq U0)) (Bool)→Option Out:=fun x=>onL x (fun a=>vc JU IU (a,()) () (K (.exit 0))) (fun a=>vc LU KU (a,()) () (K .ret)) (fun _=>none)
def hab (n:Nat) {R:Type} (l:(Sq U0)) (k:Bool→Option R):Option R:=(Uo n n l l (l.n:Int) (0:Int)).bind fun x_1=>onL x_1 (fun a_2=>k (decide ((a_2.n:Int)≤(8:Int)))) (fun a_3=>k a_3) (fun _=>none)
def Sgb (n:Nat) (l:(Sq U0)):Option Bool:=hab n l some
theorem Qkb (n:Nat) {S:Type}:∀ l (φ:_→Option S),(Sgb n l).bind φ=hab n l φ:=by
  intros;unfold Sgb hab;first | (simp only [la,fa,iB,bB,oL,oX,nB,Option.bind_some]) | rfl
def vI (n:Nat):Hint Out:={ live:=fun c=>(cond (Nat.beq c 0) [(0,some (.sl (.pair .str (.pair .str .unit)))),(5,some (.sl (.pair .str (.pair .str .unit)))),(6,none),(7,none)] []),run:=fun c=>(cond (Nat.beq c 0) (some (Ng IL HL fun σ ρ K=>(Uo n n σ.1 σ.2.1 σ.2.2.1 σ.2.2.2.1).bind (Vo K))) none),xm:=fun c q=>(cond (Nat.beq c 0&&Nat.beq (q.getD 1000000) 0&&q.isSome) (some [(0,some (.sl (.pair .str (.pair .str .unit))))]) (cond (Nat.beq c 1&&q.isNone) (some [(2,none)]) none)) }
def uI (n:Nat) (K:XE→List AV→pa→Option Out) (m:Nat) (l1:(Sq U0)) (t5:(Sq U0)) (t6:Int) (t7:Int):Option Out:=Oc tys (ja Out (W4 n)) (vI n) n (ya [1,0,1,0,0] (ia Tryz.f92)) 0 IL HL K m (l1,(t5,(t6,(t7,())))) ()
theorem P1 (n:Nat) (K:XE→List AV→pa→Option Out):∀ (m:Nat) l1 t5 t6 t7,uI n K m l1 t5 t6 t7=(Uo n m l1 t5 t6 t7).bind (Vo K)
  | 0,_,_,_,_=>by kernel_rfl
  | m+1,l1,t5,t6,t7=>by
    have h1:uI n K (m+1) l1 t5 t6 t7=GL n l1 t5 t6 t7 (uI n K m) (fun a=>Vo K (.out a)) (fun a=>Vo K (.ret a)) (fun p=>Vo K (.pan p)):=by kernel_rfl
    have h2:uI n K m=fun l1 t5 t6 t7=>(Uo n m l1 t5 t6 t7).bind (Vo K):=by
      repeat (refine funext fun _=>?_)
      exact P1 n K m _ _ _ _
    rw [h1,h2];exact (Ydb n m _ _ _ _ (Vo K)).symm
theorem Zbb (n:Nat):yc tys (ja Out (W4 n)) (vI n) n (ya [1,0,1,0,0] (ia Tryz.f92)) 0:=Fa (sp:=IL) (rp:=HL) (by kernel_rfl) fun K σ ρ=>P1 n K n σ.1 σ.2.1 σ.2.2.1 σ.2.2.2.1
theorem aeb (n:Nat):ra tys (ja Out (W4 n)) (vI n) n (ia Tryz.f92) 0:=⟨aa,⟨⟨aa,⟨Zbb n,⟨aa,⟨⟨aa,aa⟩,⟨⟨aa,⟨aa,⟨⟨aa,aa⟩,aa⟩⟩⟩,aa⟩⟩⟩⟩⟩,⟨aa,aa⟩⟩⟩
theorem Tgb (n:Nat):Enters Tryz.prog 92:=enters_of (c:=ia Tryz.f92) Tryz.func92 (by kernel_rfl) (by kernel_rfl)
def Zdb (n:Nat):Entry:=⟨92,pcT (.pair (.sl (.pair .str (.pair .str .unit))) .unit) (.one .bool) (fun xs=>Sgb n xs.1),none,none⟩
theorem ijb (n:Nat):EntryOk Tryz.prog gl (Zdb n):=Aa (Tgb n) fun xs y h=>oa tys_ok (X4 n) mixed (hint:=vI n) (n:=n) Tryz.func92 (Ba (aeb n)) (ma (φ:=(fun y=>some (Out.ret (rb (.one .bool) y)))) (by kernel_rfl) (Qkb n xs.1 _) h)
def r7 (n:Nat):List Entry:=Zdb n::W4 n
theorem oW (n:Nat):AllOk Tryz.prog gl (r7 n):=.cons (ijb n) (X4 n)
def Lq (n:Nat) {R:Type} (c:T0) (k:Bool→Option R):Option R:=if (decide (c.2.2.2.2.1<(2:Int)))=false then if (decide (c.2.2.2.2.1>(4:Int)))=true then if (!c.2.2.2.2.2.2.1)=true then if ((c.2.2.2.2.2.2.2.1.1.toList==(⟨#[]⟩:BA).toList)&&((c.2.2.2.2.2.2.2.1.2.1.toList==(⟨#[]⟩:BA).toList)&&true))=true then k ((c.2.2.2.2.2.2.2.2.1.n:Int)==(0:Int)) else k false else k false else if c.2.2.2.2.2.2.1=true then if (!((c.2.2.2.2.2.2.2.1.1.toList==(⟨#[]⟩:BA).toList)&&((c.2.2.2.2.2.2.2.1.2.1.toList==(⟨#[]⟩:BA).toList)&&true)))=false then if (!c.2.2.2.2.2.2.1)=true then (cz n c.2.2.2.2.2.2.2.1).bind fun v=>if (!v)=true then k false else (Sgb n c.2.2.2.2.2.2.2.2.1).bind fun v1=>if v1=true then k (((c.2.2.2.2.2.2.2.2.1.n:Int)==(0:Int))==(c.2.2.2.2.1==(2:Int))) else k false else (Sgb n c.2.2.2.2.2.2.2.2.1).bind fun v2=>if v2=true then k (((c.2.2.2.2.2.2.2.2.1.n:Int)==(0:Int))==(c.2.2.2.2.1==(2:Int))) else k false else k false else if (!c.2.2.2.2.2.2.1)=true then (cz n c.2.2.2.2.2.2.2.1).bind fun v3=>if (!v3)=true then k false else (Sgb n c.2.2.2.2.2.2.2.2.1).bind fun v4=>if v4=true then k (((c.2.2.2.2.2.2.2.2.1.n:Int)==(0:Int))==(c.2.2.2.2.1==(2:Int))) else k false else (Sgb n c.2.2.2.2.2.2.2.2.1).bind fun v5=>if v5=true then k (((c.2.2.2.2.2.2.2.2.1.n:Int)==(0:Int))==(c.2.2.2.2.1==(2:Int)))
 else k false else if (!c.2.2.2.2.2.2.1)=true then if ((c.2.2.2.2.2.2.2.1.1.toList==(⟨#[]⟩:BA).toList)&&((c.2.2.2.2.2.2.2.1.2.1.toList==(⟨#[]⟩:BA).toList)&&true))=true then k ((c.2.2.2.2.2.2.2.2.1.n:Int)==(0:Int)) else k false else k false
def je (n:Nat) (c:T0):Option Bool:=Lq n c some
theorem G1 (n:Nat) {S:Type}:∀ c (φ:_→Option S),(je n c).bind φ=Lq n c φ:=by
  intros;unfold je Lq;first | (simp only [la,fa,iB,bB,oL,oX,nB,Option.bind_some]) | rfl
def Fz (n:Nat):Hint Out:={ live:=fun c=>[],run:=fun c=>none,xm:=fun c q=>none }
theorem pR (n:Nat):ra tys (ja Out (r7 n)) (Fz n) n (ia Tryz.f66) 0:=na (fun _=>rfl) _ _ (by kernel_rfl)
theorem GU (n:Nat):Enters Tryz.prog 66:=enters_of (c:=ia Tryz.f66) Tryz.func66 (by kernel_rfl) (by kernel_rfl)
def pI (n:Nat):Entry:=⟨66,pcT K1 (.one .bool) (fun xs=>je n xs.1),none,none⟩
theorem LX (n:Nat):EntryOk Tryz.prog gl (pI n):=Aa (GU n) fun xs y h=>oa tys_ok (oW n) mixed (hint:=Fz n) (n:=n) Tryz.func66 (Ba (pR n)) (ma (φ:=(fun y=>some (Out.ret (rb (.one .bool) y)))) (by kernel_rfl) (G1 n xs.1 _) h)
def qI (n:Nat):List Entry:=pI n::r7 n
theorem KO (n:Nat):AllOk Tryz.prog gl (qI n):=.cons (LX n) (oW n)
def qk (n:Nat):List Entry:=⟨126,pcT (.pair .str (.pair .str .unit)) (.one .bool) (fun xs=>dcb xs.1 xs.2.1),none,none⟩::qI n
theorem Nm (n:Nat):AllOk Tryz.prog gl (qk n):=.cons OU (KO n)
def uw (n:Nat) {R:Type} (s:BA) (k:Bool→Option R):Option R:=if (decide ((s.size:Int)≤(509:Int)))=true then (dcb s (⟨#[13,10]⟩:BA)).bind fun v=>k (!v) else k false
def Fl (n:Nat) (s:BA):Option Bool:=uw n s some
theorem A7 (n:Nat) {S:Type}:∀ s (φ:_→Option S),(Fl n s).bind φ=uw n s φ:=by
  intros;unfold Fl uw;first | (simp only [la,fa,iB,bB,oL,oX,nB,Option.bind_some]) | rfl
def fE (n:Nat):Hint Out:={ live:=fun c=>[],run:=fun c=>none,xm:=fun c q=>none }
theorem PU (n:Nat):ra tys (ja Out (qk n)) (fE n) n (ia Tryz.f95) 0:=na (fun _=>rfl) _ _ (by kernel_rfl)
theorem RX (n:Nat):Enters Tryz.prog 95:=enters_of (c:=ia Tryz.f95) Tryz.func95 (by kernel_rfl) (by kernel_rfl)
def PN (n:Nat):Entry:=⟨95,pcT (.pair .str .unit) (.one .bool) (fun xs=>Fl n xs.1),none,none⟩
theorem Y1 (n:Nat):EntryOk Tryz.prog gl (PN n):=Aa (RX n) fun xs y h=>oa tys_ok (Nm n) mixed (hint:=fE n) (n:=n) Tryz.func95 (Ba (PU n)) (ma (φ:=(fun y=>some (Out.ret (rb (.one .bool) y)))) (by kernel_rfl) (A7 n xs.1 _) h)
def Oz (n:Nat):List Entry:=PN n::qk n
theorem Pz (n:Nat):AllOk Tryz.prog gl (Oz n):=.cons (Y1 n) (Nm n)
def cC (n:Nat) {R:Type} (s:BA) (k:Bool→Option R):Option R:=(Fl n s).bind fun v=>k (!v)
def bC (n:Nat) (s:BA):Option Bool:=cC n s some
theorem Xbb (n:Nat) {S:Type}:∀ s (φ:_→Option S),(bC n s).bind φ=cC n s φ:=by
  intros;unfold bC cC;first | (simp only [la,fa,iB,bB,oL,oX,nB,Option.bind_some]) | rfl
def tI (n:Nat):Hint Out:={ live:=fun c=>[],run:=fun c=>none,xm:=fun c q=>none }
theorem NX (n:Nat):ra tys (ja Out (Oz n)) (tI n) n (ia Tryz.f94) 0:=na (fun _=>rfl) _ _ (by kernel_rfl)
theorem N1 (n:Nat):Enters Tryz.prog 94:=enters_of (c:=ia Tryz.f94) Tryz.func94 (by kernel_rfl) (by kernel_rfl)
def uR (n:Nat):Entry:=⟨94,pcT (.pair .str .unit) (.one .bool) (fun xs=>bC n xs.1),none,none⟩
theorem o7 (n:Nat):EntryOk Tryz.prog gl (uR n):=Aa (N1 n) fun xs y h=>oa tys_ok (Pz n) mixed (hint:=tI n) (n:=n) Tryz.func94 (Ba (NX n)) (ma (φ:=(fun y=>some (Out.ret (rb (.one .bool) y)))) (by kernel_rfl) (Xbb n xs.1 _) h)
def Ro (n:Nat):List Entry:=uR n::Oz n
theorem eE (n:Nat):AllOk Tryz.prog gl (Ro n):=.cons (o7 n) (Pz n)
def Tp (n:Nat) {R:Type} (s1:(Sq BA)) (t7 t8:Int) (kn:(Sq BA)→Int→Int→Option R) (ko:(Unit)→Option R) (kr:(Int)→Option R) (kp:Int→Option R):Option R:=if (decide (t8<t7))=true then if 0≤t8∧t8<(s1.n:Int) then (bC n (s1.at' (Int.toNat t8))).bind fun v=>if v=true then kr t8 else kn s1 t7 (IntKind.wrap .i64 (t8+(1:Int))) else none else ko ()
def Ff (n:Nat):Nat→(Sq BA)→Int→Int→Option (Lx (Unit) (Int))
 | 0,_,_,_=>none
 | m+1,s1,t7,t8=>Tp n s1 t7 t8 (Ff n m) (fun a=>some (.out a)) (fun a=>some (.ret a)) (fun p=>some (.pan p))
theorem R8 (n m:Nat) {S:Type}:∀ s1 t7 t8 (φ:_→Option S),(Ff n (m+1) s1 t7 t8).bind φ=Tp n s1 t7 t8 (fun s1 t7 t8=>(Ff n m s1 t7 t8).bind φ) (fun a=>φ (.out a)) (fun a=>φ (.ret a)) (fun p=>φ (.pan p)):=by
  intros;first | (simp only [Ff,Tp,la,fa,iB,bB,oL,oX,nB,Option.bind_some]) | rfl
def cB:List Sl:=.dat (.sl .str)::.fnc 94::tp 5 (.dat (.int .i64)::.dat (.int .i64)::tp 10 [])
def aB:List RS:=[.ghost [.top,.top]]
def xP:List Sl:=tp 19 []
def wP:List RS:=[.ghost [.top,.top]]
def zP:List Sl:=tp 4 (.dat (.int .i64)::tp 14 [])
def yP:List RS:=[.ghost [.top,.top]]
def ei (K:XE→List AV→pa→Option OutS):Lx (Unit) (Int)→Option OutS:=fun x=>onL x (fun a=>vc xP wP () ((),()) (K (.exit 0))) (fun a=>vc zP yP (a,()) ((),()) (K .ret)) (fun _=>none)
def wQ (n:Nat) {R:Type} (s:(Sq BA)) (k:(Int×Unit)→Option R):Option R:=(Ff n n s (s.n:Int) (0:Int)).bind fun x_1=>onL x_1 (fun a_2=>k ((-1:Int),())) (fun a_3=>k (a_3,())) (fun _=>none)
def FW (n:Nat) (s:(Sq BA)):Option (Int×Unit):=wQ n s some
theorem Fhb (n:Nat) {S:Type}:∀ s (φ:_→Option S),(FW n s).bind φ=wQ n s φ:=by
  intros;unfold FW wQ;first | (simp only [la,fa,iB,bB,oL,oX,nB,Option.bind_some]) | rfl
def fx (n:Nat):Hint OutS:={ live:=fun c=>(cond (Nat.beq c 0) [(0,some (.sl .str)),(1,none),(7,none),(8,none)] []),run:=fun c=>(cond (Nat.beq c 0) (some (Ng cB aB fun σ ρ K=>(Ff n n σ.1 σ.2.1 σ.2.2.1).bind (ei K))) none),xm:=fun c q=>(cond (Nat.beq c 0&&Nat.beq (q.getD 1000000) 0&&q.isSome) (some []) (cond (Nat.beq c 1&&q.isNone) (some [(4,none)]) none)) }
def dx (n:Nat) (K:XE→List AV→pa→Option OutS) (m:Nat) (s1:(Sq BA)) (t7:Int) (t8:Int):Option OutS:=Oc tys (ja OutS (Ro n)) (fx n) n (ya [1,0,1,0,0] (ia Tryz.f125)) 0 cB aB K m (s1,(t7,(t8,()))) ((),())
theorem gT (n:Nat) (K:XE→List AV→pa→Option OutS):∀ (m:Nat) s1 t7 t8,dx n K m s1 t7 t8=(Ff n m s1 t7 t8).bind (ei K)
  | 0,_,_,_=>by kernel_rfl
  | m+1,s1,t7,t8=>by
    have h1:dx n K (m+1) s1 t7 t8=Tp n s1 t7 t8 (dx n K m) (fun a=>ei K (.out a)) (fun a=>ei K (.ret a)) (fun p=>ei K (.pan p)):=by kernel_rfl
    have h2:dx n K m=fun s1 t7 t8=>(Ff n m s1 t7 t8).bind (ei K):=by
      repeat (refine funext fun _=>?_)
      exact gT n K m _ _ _
    rw [h1,h2];exact (R8 n m _ _ _ (ei K)).symm
theorem Y4 (n:Nat):yc tys (ja OutS (Ro n)) (fx n) n (ya [1,0,1,0,0] (ia Tryz.f125)) 0:=Fa (sp:=cB) (rp:=aB) (by kernel_rfl) fun K σ ρ=>gT n K n σ.1 σ.2.1 σ.2.2.1
theorem S8 (n:Nat):ra tys (ja OutS (Ro n)) (fx n) n (ia Tryz.f125) 0:=⟨aa,⟨⟨aa,⟨Y4 n,⟨aa,⟨⟨aa,aa⟩,⟨⟨aa,⟨aa,⟨⟨aa,aa⟩,aa⟩⟩⟩,aa⟩⟩⟩⟩⟩,⟨aa,aa⟩⟩⟩
theorem Tcb (n:Nat):Enters Tryz.prog 125:=enters_of (c:=ia Tryz.f125) Tryz.func125 (by kernel_rfl) (by kernel_rfl)
def d5:List RSp:=[.one (.dat (.sl .str)),.one (.fnc 94)]
def Z4:List RS:=[]
def Ucb:List Sl:=[.top,.top]
def Vcb:List RSp:=[.one (.dat (.int .i64))]
def NC:List RS:=[]
def cZ (y:(Int×Unit)):OutS:=⟨false,Yo (Zc NC ()) Ucb (),nH (iE (Zc NC ()) Vcb ((y.1,()),())),Vv (Zc NC ()) NC ()⟩
theorem Efb (n:Nat):EntryOk Tryz.prog gl ⟨125,Ee,none,some (csT d5 Z4 (fun σ ρ=>FW n σ.1.1) cZ)⟩:=Ge (Tcb n) fun σ ρ y h=>Kb tys_ok (eE n) mixed (hint:=fx n) (n:=n) Tryz.func125 (Ba (S8 n)) (ma (φ:=fun y=>some (cZ y)) (by kernel_rfl) (Fhb n σ.1.1 _) h)
def iT (n:Nat):List Entry:=⟨125,Ee,none,some (csT d5 Z4 (fun σ ρ=>FW n σ.1.1) cZ)⟩::Ro n
theorem sO (n:Nat):AllOk Tryz.prog gl (iT n):=.cons (Efb n) (eE n)
def vQ (n:Nat) {R:Type} (s:(Sq BA)) (k:(Bool×Unit)→Option R):Option R:=(FW n s).bind fun v=>k ((decide (v.1≥(0:Int))),())
def eT (n:Nat) (s:(Sq BA)):Option (Bool×Unit):=vQ n s some
theorem Chb (n:Nat) {S:Type}:∀ s (φ:_→Option S),(eT n s).bind φ=vQ n s φ:=by
  intros;unfold eT vQ;first | (simp only [la,fa,iB,bB,oL,oX,nB,Option.bind_some]) | rfl
def fT (n:Nat):Hint OutS:={ live:=fun c=>[],run:=fun c=>none,xm:=fun c q=>none }
theorem Q8 (n:Nat):ra tys (ja OutS (iT n)) (fT n) n (ia Tryz.f93) 0:=na (fun _=>rfl) _ _ (by kernel_rfl)
theorem Qcb (n:Nat):Enters Tryz.prog 93:=enters_of (c:=ia Tryz.f93) Tryz.func93 (by kernel_rfl) (by kernel_rfl)
def V4:List RSp:=[.one (.dat (.sl .str)),.one (.fnc 94)]
def T4:List RS:=[]
def Rcb:List Sl:=[.top,.top]
def Scb:List RSp:=[.one (.dat .bool)]
def MC:List RS:=[]
def bZ (y:(Bool×Unit)):OutS:=⟨false,Yo (Zc MC ()) Rcb (),nH (iE (Zc MC ()) Scb ((y.1,()),())),Vv (Zc MC ()) MC ()⟩
theorem Dfb (n:Nat):EntryOk Tryz.prog gl ⟨93,Ee,none,some (csT V4 T4 (fun σ ρ=>eT n σ.1.1) bZ)⟩:=Ge (Qcb n) fun σ ρ y h=>Kb tys_ok (sO n) mixed (hint:=fT n) (n:=n) Tryz.func93 (Ba (Q8 n)) (ma (φ:=fun y=>some (bZ y)) (by kernel_rfl) (Chb n σ.1.1 _) h)
def ZA (n:Nat):List Entry:=⟨93,Ee,none,some (csT V4 T4 (fun σ ρ=>eT n σ.1.1) bZ)⟩::iT n
theorem rO (n:Nat):AllOk Tryz.prog gl (ZA n):=.cons (Dfb n) (sO n)
def ru (n:Nat) {R:Type} (n0:Int) (t5:(Sq BA)) (t6 t7:Int) (kn:Int→(Sq BA)→Int→Int→Option R) (ko:(Int)→Option R) (kr:Unit→Option R) (kp:Int→Option R):Option R:=if (decide (t7<t6))=true then if 0≤t7∧t7<(t5.n:Int) then kn (IntKind.wrap .i64 (n0+(IntKind.wrap .i64 (((t5.at' (Int.toNat t7)).size:Int)+(2:Int))))) t5 t6 (IntKind.wrap .i64 (t7+(1:Int))) else none else ko n0
def fg (n:Nat):Nat→Int→(Sq BA)→Int→Int→Option (Lx (Int) Unit)
 | 0,_,_,_,_=>none
 | m+1,n0,t5,t6,t7=>ru n n0 t5 t6 t7 (fg n m) (fun a=>some (.out a)) (fun a=>some (.ret a)) (fun p=>some (.pan p))
theorem l7 (n m:Nat) {S:Type}:∀ n0 t5 t6 t7 (φ:_→Option S),(fg n (m+1) n0 t5 t6 t7).bind φ=ru n n0 t5 t6 t7 (fun n0 t5 t6 t7=>(fg n m n0 t5 t6 t7).bind φ) (fun a=>φ (.out a)) (fun a=>φ (.ret a)) (fun p=>φ (.pan p)):=by
  intros;first | (simp only [fg,ru,la,fa,iB,bB,oL,oX,nB,Option.bind_some]) | rfl
def Hz:List Sl:=.top::.top::.dat (.int .i64)::.top::.top::.dat (.sl .str)::.dat (.int .i64)::.dat (.int .i64)::tp 10 []
def Gz:List RS:=[]
def MO:List Sl:=.top::.top::.dat (.int .i64)::tp 15 []
def LO:List RS:=[]
def Yh (K:XE→List AV→pa→Option Out):Lx (Int) Unit→Option Out:=fun x=>onL x (fun a=>vc MO LO (a,()) () (K (.exit 0))) (fun _=>none) (fun _=>none)
def lQ (n:Nat) {R:Type} (l:(Sq BA)) (k:Int→Option R):Option R:=(fg n n (0:Int) l (l.n:Int) (0:Int)).bind fun x_1=>onL x_1 (fun a_2=>k a_2) (fun _=>none) (fun _=>none)
def rR (n:Nat) (l:(Sq BA)):Option Int:=lQ n l some
theorem Qgb (n:Nat) {S:Type}:∀ l (φ:_→Option S),(rR n l).bind φ=lQ n l φ:=by
  intros;unfold rR lQ;first | (simp only [la,fa,iB,bB,oL,oX,nB,Option.bind_some]) | rfl
def sw (n:Nat):Hint Out:={ live:=fun c=>(cond (Nat.beq c 0) [(2,none),(5,some (.sl .str)),(6,none),(7,none)] []),run:=fun c=>(cond (Nat.beq c 0) (some (Ng Hz Gz fun σ ρ K=>(fg n n σ.1 σ.2.1 σ.2.2.1 σ.2.2.2.1).bind (Yh K))) none),xm:=fun c q=>(cond (Nat.beq c 0&&Nat.beq (q.getD 1000000) 0&&q.isSome) (some [(2,none)]) none) }
def qw (n:Nat) (K:XE→List AV→pa→Option Out) (m:Nat) (n0:Int) (t5:(Sq BA)) (t6:Int) (t7:Int):Option Out:=Oc tys (ja Out (ZA n)) (sw n) n (ya [1,0,1,0,0] (ia Tryz.f96)) 0 Hz Gz K m (n0,(t5,(t6,(t7,())))) ()
theorem sR (n:Nat) (K:XE→List AV→pa→Option Out):∀ (m:Nat) n0 t5 t6 t7,qw n K m n0 t5 t6 t7=(fg n m n0 t5 t6 t7).bind (Yh K)
  | 0,_,_,_,_=>by kernel_rfl
  | m+1,n0,t5,t6,t7=>by
    have h1:qw n K (m+1) n0 t5 t6 t7=ru n n0 t5 t6 t7 (qw n K m) (fun a=>Yh K (.out a)) (fun a=>Yh K (.ret a)) (fun p=>Yh K (.pan p)):=by kernel_rfl
    have h2:qw n K m=fun n0 t5 t6 t7=>(fg n m n0 t5 t6 t7).bind (Yh K):=by
      repeat (refine funext fun _=>?_)
      exact sR n K m _ _ _ _
    rw [h1,h2];exact (l7 n m _ _ _ _ (Yh K)).symm
theorem J1 (n:Nat):yc tys (ja Out (ZA n)) (sw n) n (ya [1,0,1,0,0] (ia Tryz.f96)) 0:=Fa (sp:=Hz) (rp:=Gz) (by kernel_rfl) fun K σ ρ=>sR n K n σ.1 σ.2.1 σ.2.2.1 σ.2.2.2.1
theorem m7 (n:Nat):ra tys (ja Out (ZA n)) (sw n) n (ia Tryz.f96) 0:=⟨aa,⟨⟨aa,⟨J1 n,⟨aa,⟨⟨aa,aa⟩,⟨⟨aa,aa⟩,aa⟩⟩⟩⟩⟩,⟨aa,aa⟩⟩⟩
theorem Wbb (n:Nat):Enters Tryz.prog 96:=enters_of (c:=ia Tryz.f96) Tryz.func96 (by kernel_rfl) (by kernel_rfl)
def M1 (n:Nat):Entry:=⟨96,pcT (.pair (.sl .str) .unit) (.one (.int .i64)) (fun xs=>rR n xs.1),none,none⟩
theorem Wdb (n:Nat):EntryOk Tryz.prog gl (M1 n):=Aa (Wbb n) fun xs y h=>oa tys_ok (rO n) mixed (hint:=sw n) (n:=n) Tryz.func96 (Ba (m7 n)) (ma (φ:=(fun y=>some (Out.ret (rb (.one (.int .i64)) y)))) (by kernel_rfl) (Qgb n xs.1 _) h)
def tR (n:Nat):List Entry:=M1 n::ZA n
theorem NN (n:Nat):AllOk Tryz.prog gl (tR n):=.cons (Wdb n) (rO n)
def mQ (n:Nat) {R:Type} (c:T0) (k:Bool→Option R):Option R:=if (c.2.2.2.2.1 !=(4:Int))=false then if c.2.2.2.2.2.2.2.2.2.2.2.1=true then if ((c.2.2.2.2.2.2.2.2.2.1.n:Int)==(0:Int))=true then if (c.2.2.2.2.2.2.2.2.2.2.1==(0:Int))=true then if (!c.2.2.2.2.2.2.2.2.2.2.2.1)=false then k (c.2.2.2.2.1==(4:Int)) else k true else k false else k false else (eT n c.2.2.2.2.2.2.2.2.2.1).bind fun v=>if (!v.1)=true then cR ((rR n c.2.2.2.2.2.2.2.2.2.1).bind fun v1=>if (c.2.2.2.2.2.2.2.2.2.2.1==v1)=true then k (decide (c.2.2.2.2.2.2.2.2.2.2.1≤(8192:Int))) else k false) (dup 1 ((rR n c.2.2.2.2.2.2.2.2.2.1).bind fun v2=>if (c.2.2.2.2.2.2.2.2.2.2.1==v2)=true then k (decide (c.2.2.2.2.2.2.2.2.2.2.1≤(8192:Int))) else k false)) else cR (k false) (dup 1 (k false)) else if ((c.2.2.2.2.2.2.2.2.2.1.n:Int)==(0:Int))=true then if (c.2.2.2.2.2.2.2.2.2.2.1==(0:Int))=true then if (!c.2.2.2.2.2.2.2.2.2.2.2.1)=false then k (c.2.2.2.2.1==(4:Int)) else k true else k false else k false
def Iz (n:Nat) (c:T0):Option Bool:=mQ n c some
theorem Rgb (n:Nat) {S:Type}:∀ c (φ:_→Option S),(Iz n c).bind φ=mQ n c φ:=by
  intros;unfold Iz mQ;first | (simp only [la,fa,iB,bB,oL,oX,nB,Option.bind_some]) | rfl
def wR (n:Nat):Hint Out:={ live:=fun c=>[],run:=fun c=>none,xm:=fun c q=>none,sch:=fun c=>(cond (Nat.beq c 3) (some [(0,0),(1,1),(2,2),(3,0),(4,0),(5,0),(7,0),(6,5),(8,7),(9,7),(10,6),(11,6),(12,6),(13,6),(14,7),(15,6),(16,6),(17,6)]) none) }
theorem q7 (n:Nat):ra tys (ja Out (tR n)) (wR n) n (ia Tryz.f67) 0:=na (fun _=>rfl) _ _ (by kernel_rfl)
theorem Ybb (n:Nat):Enters Tryz.prog 67:=enters_of (c:=ia Tryz.f67) Tryz.func67 (by kernel_rfl) (by kernel_rfl)
def O1 (n:Nat):Entry:=⟨67,pcT K1 (.one .bool) (fun xs=>Iz n xs.1),none,none⟩
theorem Xdb (n:Nat):EntryOk Tryz.prog gl (O1 n):=Aa (Ybb n) fun xs y h=>oa tys_ok (NN n) mixed (hint:=wR n) (n:=n) Tryz.func67 (Ba (q7 n)) (ma (φ:=(fun y=>some (Out.ret (rb (.one .bool) y)))) (by kernel_rfl) (Rgb n xs.1 _) h)
def vR (n:Nat):List Entry:=O1 n::tR n
theorem ON (n:Nat):AllOk Tryz.prog gl (vR n):=.cons (Xdb n) (NN n)
def DX (n:Nat) {R:Type} (c:T0) (k:Bool→Option R):Option R:=(yn n c.1 (1:Int) (1099511627776:Int)).bind fun v=>if (!v)=false then (yn n c.2.1 (0:Int) (3:Int)).bind fun v1=>if (!v1)=false then (yn n c.2.2.1 (0:Int) (1099511627776:Int)).bind fun v2=>if (!v2)=false then (vu n c.2.2.2.1).bind fun v3=>if (!v3)=false then (yn n c.2.2.2.2.1 (0:Int) (5:Int)).bind fun v4=>if (!v4)=true then k false else if (c.2.2.2.2.2.1.toList==(⟨#[]⟩:BA).toList)=true then if (c.2.2.2.2.1 !=(0:Int))=true then if (c.2.2.2.2.1 !=(5:Int))=false then if (!(c.2.2.2.2.2.1.toList==(⟨#[]⟩:BA).toList))=true then if (c.2.2.2.2.1==(0:Int))=false then (ke n c.2.2.2.2.2.1).bind fun v5=>if (!v5)=true then k false else (je n c).bind fun v6=>if v6=true then (Iz n c).bind fun v7=>k v7 else k false else k false else (je n c).bind fun v8=>if v8=true then (Iz n c).bind fun v9=>k v9 else k false else k false else if (!(c.2.2.2.2.2.1.toList==(⟨#[]⟩:BA).toList))=true then if (c.2.2.2.2.1==(0:Int))=false then (ke n c.2.2.2.2.2.1).bind fun v10=>if (!v10)=true then k false else (je n c).bind fun v11=>if v11=true then (Iz n c).bind fun v12=>k v12 else k false else k false else (je n c).bind fun v13=>if v13=true then (Iz n c).bind fun v14=>
 k v14 else k false else if (!(c.2.2.2.2.2.1.toList==(⟨#[]⟩:BA).toList))=true then if (c.2.2.2.2.1==(0:Int))=false then (ke n c.2.2.2.2.2.1).bind fun v15=>if (!v15)=true then k false else (je n c).bind fun v16=>if v16=true then (Iz n c).bind fun v17=>k v17 else k false else k false else (je n c).bind fun v18=>if v18=true then (Iz n c).bind fun v19=>k v19 else k false else k false else k false else k false else k false
def HO (n:Nat) (c:T0):Option Bool:=DX n c some
theorem hjb (n:Nat) {S:Type}:∀ c (φ:_→Option S),(HO n c).bind φ=DX n c φ:=by
  intros;unfold HO DX;first | (simp only [la,fa,iB,bB,oL,oX,nB,Option.bind_some]) | rfl
def lW (n:Nat):Hint Out:={ live:=fun c=>[],run:=fun c=>none,xm:=fun c q=>none }
theorem Qbb (n:Nat):ra tys (ja Out (vR n)) (lW n) n (ia Tryz.f36) 0:=na (fun _=>rfl) _ _ (by kernel_rfl)
theorem Tdb (n:Nat):Enters Tryz.prog 36:=enters_of (c:=ia Tryz.f36) Tryz.func36 (by kernel_rfl) (by kernel_rfl)
def fab (n:Nat):Entry:=⟨36,pcT K1 (.one .bool) (fun xs=>HO n xs.1),none,none⟩
theorem Ogb (n:Nat):EntryOk Tryz.prog gl (fab n):=Aa (Tdb n) fun xs y h=>oa tys_ok (ON n) mixed (hint:=lW n) (n:=n) Tryz.func36 (Ba (Qbb n)) (ma (φ:=(fun y=>some (Out.ret (rb (.one .bool) y)))) (by kernel_rfl) (hjb n xs.1 _) h)
def gab (n:Nat):List Entry:=fab n::vR n
theorem Y6 (n:Nat):AllOk Tryz.prog gl (gab n):=.cons (Ogb n) (ON n)
def Fc (n:Nat):List Entry:=Ec::gab n
theorem Gf (n:Nat):AllOk Tryz.prog gl (Fc n):=.cons Bg (Y6 n)
def Kc (n:Nat):List Entry:=Hf::Fc n
theorem de (n:Nat):AllOk Tryz.prog gl (Kc n):=.cons um (Gf n)
def ZB (n:Nat) {R:Type} (c:T0) (k:U2→Option R):Option R:=dup 1 ((Mz 32 c.2.2.2.2.2.2.2.2.1).bind fun v=>(Mz 16 c.2.2.2.2.2.2.2.2.2.1).bind fun v1=>k (c.1,(c.2.1,(c.2.2.1,(c.2.2.2.1.1,(c.2.2.2.1.2.1,(c.2.2.2.2.1,(c.2.2.2.2.2.1,(c.2.2.2.2.2.2.1,(c.2.2.2.2.2.2.2.1.1,(c.2.2.2.2.2.2.2.1.2.1,(c.2.2.2.2.2.2.2.2.2.2.1,(c.2.2.2.2.2.2.2.2.2.2.2.1,(v.1,(v1.1,())))))))))))))))
def Kh (n:Nat) (c:T0):Option U2:=ZB n c some
theorem Sbb (n:Nat) {S:Type}:∀ c (φ:_→Option S),(Kh n c).bind φ=ZB n c φ:=by
  intros;unfold Kh ZB;first | (simp only [la,fa,iB,bB,oL,oX,nB,Option.bind_some]) | rfl
def lI (n:Nat):Hint OutS:={ live:=fun c=>[],run:=fun c=>none,xm:=fun c q=>none,sch:=fun c=>(cond (Nat.beq c 1) (some [(0,0),(3,0),(1,1),(2,5),(4,7),(5,2),(6,6),(7,2),(8,6),(9,2)]) none),pr:=[(0,10,25),(0,11,9)] }
theorem HX (n:Nat):ra tys (ja OutS (Kc n)).keep (lI n) n (ia Tryz.f38) 0:=na (fun _=>rfl) _ _ (by kernel_rfl)
theorem X0 (n:Nat):Enters Tryz.prog 38:=enters_of (c:=ia Tryz.f38) Tryz.func38 (by kernel_rfl) (by kernel_rfl)
def lR:List RSp:=[.one (.dat K0)]
def kR:List RS:=[]
def Y0:List Sl:=[.top]
def Z0:List RSp:=[.agg [.dat (.int .i64),.dat (.int .i64),.dat (.int .i64),.dat .str,.dat .bool,.dat (.int .i64),.dat .str,.dat .bool,.dat .str,.dat .str,.row 0,.row 1,.dat (.int .i64),.dat .bool]]
def Iq:List RS:=[.row 25 2 (.pair .str (.pair .str .unit)) true true,.row 9 1 .str true true]
def zL (y:U2):OutS:=⟨false,Yo (Zc Iq (y.2.2.2.2.2.2.2.2.2.2.2.2.1,(y.2.2.2.2.2.2.2.2.2.2.2.2.2.1,()))) Y0 (),nH (iE (Zc Iq (y.2.2.2.2.2.2.2.2.2.2.2.2.1,(y.2.2.2.2.2.2.2.2.2.2.2.2.2.1,()))) Z0 ((y.1,(y.2.1,(y.2.2.1,(y.2.2.2.1,(y.2.2.2.2.1,(y.2.2.2.2.2.1,(y.2.2.2.2.2.2.1,(y.2.2.2.2.2.2.2.1,(y.2.2.2.2.2.2.2.2.1,(y.2.2.2.2.2.2.2.2.2.1,(y.2.2.2.2.2.2.2.2.2.2.1,(y.2.2.2.2.2.2.2.2.2.2.2.1,())))))))))))),())),Vv (Zc Iq (y.2.2.2.2.2.2.2.2.2.2.2.2.1,(y.2.2.2.2.2.2.2.2.2.2.2.2.2.1,()))) Iq (y.2.2.2.2.2.2.2.2.2.2.2.2.1,(y.2.2.2.2.2.2.2.2.2.2.2.2.2.1,()))⟩
theorem d7 (n:Nat):EntryOk Tryz.prog gl ⟨38,Ee,none,some (csT lR kR (fun σ ρ=>Kh n σ.1.1) zL)⟩:=Ge (X0 n) fun σ ρ y h=>Zf tys_ok (de n) mixed (hint:=lI n) (n:=n) Tryz.func38 (Ba (HX n)) (ma (φ:=fun y=>some (zL y)) (by kernel_rfl) (Sbb n σ.1.1 _) h)
def pF (n:Nat):List Entry:=⟨38,Ee,none,some (csT lR kR (fun σ ρ=>Kh n σ.1.1) zL)⟩::Kc n
theorem bE (n:Nat):AllOk Tryz.prog gl (pF n):=.cons (d7 n) (de n)
def ng (n:Nat) {R:Type} (s prefix0:BA) (k:BA→Option R):Option R:=(Wc n s prefix0).bind fun v=>if v=true then if 0≤(prefix0.size:Int)∧(prefix0.size:Int)≤(s.size:Int) then k (s.extract (Int.toNat (prefix0.size:Int)) (Int.toNat (s.size:Int))) else none else k s
def Rg (n:Nat) (s prefix0:BA):Option BA:=ng n s prefix0 some
theorem OR (n:Nat) {S:Type}:∀ s prefix0 (φ:_→Option S),(Rg n s prefix0).bind φ=ng n s prefix0 φ:=by
  intros;unfold Rg ng;first | (simp only [la,fa,iB,bB,oL,oX,nB,Option.bind_some]) | rfl
def Tq (n:Nat):Hint Out:={ live:=fun c=>[],run:=fun c=>none,xm:=fun c q=>none }
theorem GI (n:Nat):ra tys (ja Out (pF n)) (Tq n) n (ia Tryz.f149) 0:=na (fun _=>rfl) _ _ (by kernel_rfl)
theorem SL (n:Nat):Enters Tryz.prog 149:=enters_of (c:=ia Tryz.f149) Tryz.func149 (by kernel_rfl) (by kernel_rfl)
def Ox (n:Nat):Entry:=⟨149,pcT (.pair .str (.pair .str .unit)) (.one .str) (fun xs=>Rg n xs.1 xs.2.1),none,none⟩
theorem VO (n:Nat):EntryOk Tryz.prog gl (Ox n):=Aa (SL n) fun xs y h=>oa tys_ok (bE n) mixed (hint:=Tq n) (n:=n) Tryz.func149 (Ba (GI n)) (ma (φ:=(fun y=>some (Out.ret (rb (.one .str) y)))) (by kernel_rfl) (OR n xs.1 xs.2.1 _) h)
def fm (n:Nat):List Entry:=Ox n::pF n
theorem fp (n:Nat):AllOk Tryz.prog gl (fm n):=.cons (VO n) (bE n)
def Dg (n:Nat) {R:Type} (s prefix0:BA) (k:BA→Option R):Option R:=(Rg n s prefix0).bind fun v=>k v
def Ga (n:Nat) (s prefix0:BA):Option BA:=Dg n s prefix0 some
theorem vT (n:Nat) {S:Type}:∀ s prefix0 (φ:_→Option S),(Ga n s prefix0).bind φ=Dg n s prefix0 φ:=by
  intros;unfold Ga Dg;first | (simp only [la,fa,iB,bB,oL,oX,nB,Option.bind_some]) | rfl
def Xr (n:Nat):Hint Out:={ live:=fun c=>[],run:=fun c=>none,xm:=fun c q=>none }
theorem JK (n:Nat):ra tys (ja Out (fm n)) (Xr n) n (ia Tryz.f127) 0:=na (fun _=>rfl) _ _ (by kernel_rfl)
theorem OM (n:Nat):Enters Tryz.prog 127:=enters_of (c:=ia Tryz.f127) Tryz.func127 (by kernel_rfl) (by kernel_rfl)
def cy (n:Nat):Entry:=⟨127,pcT (.pair .str (.pair .str .unit)) (.one .str) (fun xs=>Ga n xs.1 xs.2.1),none,none⟩
theorem DP (n:Nat):EntryOk Tryz.prog gl (cy n):=Aa (OM n) fun xs y h=>oa tys_ok (fp n) mixed (hint:=Xr n) (n:=n) Tryz.func127 (Ba (JK n)) (ma (φ:=(fun y=>some (Out.ret (rb (.one .str) y)))) (by kernel_rfl) (vT n xs.1 xs.2.1 _) h)
def wm (n:Nat):List Entry:=cy n::fm n
theorem aq (n:Nat):AllOk Tryz.prog gl (wm n):=.cons (DP n) (fp n)
def vw (n:Nat) {R:Type} (line:BA) (k:(BA×Bool×Unit)→Option R):Option R:=if (line.toList==(⟨#[46]⟩:BA).toList)=true then k ((⟨#[]⟩:BA),(true,())) else (Ga n line (⟨#[46]⟩:BA)).bind fun v=>k (v,(false,()))
def uu (n:Nat) (line:BA):Option (BA×Bool×Unit):=vw n line some
theorem B7 (n:Nat) {S:Type}:∀ line (φ:_→Option S),(uu n line).bind φ=vw n line φ:=by
  intros;unfold uu vw;first | (simp only [la,fa,iB,bB,oL,oX,nB,Option.bind_some]) | rfl
def gE (n:Nat):Hint Out:={ live:=fun c=>[],run:=fun c=>none,xm:=fun c q=>none }
theorem QU (n:Nat):ra tys (ja Out (wm n)) (gE n) n (ia Tryz.f97) 0:=na (fun _=>rfl) _ _ (by kernel_rfl)
theorem SX (n:Nat):Enters Tryz.prog 97:=enters_of (c:=ia Tryz.f97) Tryz.func97 (by kernel_rfl) (by kernel_rfl)
def QN (n:Nat):Entry:=⟨97,pcT (.pair .str .unit) (.many (.pair .str (.pair .bool .unit))) (fun xs=>uu n xs.1),none,none⟩
theorem Z1 (n:Nat):EntryOk Tryz.prog gl (QN n):=Aa (SX n) fun xs y h=>oa tys_ok (aq n) mixed (hint:=gE n) (n:=n) Tryz.func97 (Ba (QU n)) (ma (φ:=(fun y=>some (Out.ret (rb (.many (.pair .str (.pair .bool .unit))) y)))) (by kernel_rfl) (B7 n xs.1 _) h)
def Qz (n:Nat):List Entry:=QN n::wm n
theorem Rz (n:Nat):AllOk Tryz.prog gl (Qz n):=.cons (Z1 n) (aq n)
def Jk (n:Nat) {R:Type} (c c1 c2:Int) (c3:BA) (c4:Bool) (c5:Int) (c6:BA) (c7:Bool) (c8 c9:BA) (c10:Int) (c11:Bool) (l:U9) (r0:(Sq U0)) (r1:(Sq BA)) (k:(T0×BA×Unit)→Option R):Option R:=(uu n l.1).bind fun v=>if v.2.1=true then if (!l.2.1)=true then k ((c,(c1,(c2,((c3,(c4,())),(c5,(c6,(c7,((c8,(c9,())),(r0,(r1,(c10,(c11,())))))))))))),((⟨#[115,101,110,100]⟩:BA),())) else if c11=true then k ((c,(c1,(c2,((c3,(c4,())),(c5,(c6,(c7,((c8,(c9,())),(r0,(r1,(c10,(c11,())))))))))))),((⟨#[]⟩:BA),())) else if l.2.1=false then (Fl n v.1).bind fun v1=>if (!v1)=false then if (decide ((IntKind.wrap .i64 ((IntKind.wrap .i64 (c10+(v.1.size:Int)))+(2:Int)))>(8192:Int)))=true then k ((c,(c1,(c2,((c3,(c4,())),(c5,(c6,(c7,((c8,(c9,())),(r0,((⟨0,fun _=>ua .str⟩:Sq BA),((0:Int),(true,())))))))))))),((⟨#[]⟩:BA),())) else if zb (r1.n+1) 16=true then k ((c,(c1,(c2,((c3,(c4,())),(c5,(c6,(c7,((c8,(c9,())),(r0,((⟨(r1.n+1),fun q=>if q<r1.n then r1.at' q else (fun q=>List.getD (α:=BA) [v.1] q (ua .str)) (q - r1.n)⟩:Sq BA),((IntKind.wrap .i64 ((IntKind.wrap .i64 (c10+(v.1.size:Int)))+(2:Int))),(c11,())))))))))))),((⟨#[]⟩:BA),())) else none else k ((c,(c1,(c2,((c3,(c4,())),(c5,(c6,(c7,((c8,(c9,())),(r0,((⟨0,fun _=>ua .str⟩:Sq BA),((0:Int),(true,())))))))))))),((⟨#[]⟩:BA),()))
 else k ((c,(c1,(c2,((c3,(c4,())),(c5,(c6,(c7,((c8,(c9,())),(r0,((⟨0,fun _=>ua .str⟩:Sq BA),((0:Int),(true,())))))))))))),((⟨#[]⟩:BA),())) else if c11=true then k ((c,(c1,(c2,((c3,(c4,())),(c5,(c6,(c7,((c8,(c9,())),(r0,(r1,(c10,(c11,())))))))))))),((⟨#[]⟩:BA),())) else if l.2.1=false then (Fl n v.1).bind fun v2=>if (!v2)=false then if (decide ((IntKind.wrap .i64 ((IntKind.wrap .i64 (c10+(v.1.size:Int)))+(2:Int)))>(8192:Int)))=true then k ((c,(c1,(c2,((c3,(c4,())),(c5,(c6,(c7,((c8,(c9,())),(r0,((⟨0,fun _=>ua .str⟩:Sq BA),((0:Int),(true,())))))))))))),((⟨#[]⟩:BA),())) else if zb (r1.n+1) 16=true then k ((c,(c1,(c2,((c3,(c4,())),(c5,(c6,(c7,((c8,(c9,())),(r0,((⟨(r1.n+1),fun q=>if q<r1.n then r1.at' q else (fun q=>List.getD (α:=BA) [v.1] q (ua .str)) (q - r1.n)⟩:Sq BA),((IntKind.wrap .i64 ((IntKind.wrap .i64 (c10+(v.1.size:Int)))+(2:Int))),(c11,())))))))))))),((⟨#[]⟩:BA),())) else none else k ((c,(c1,(c2,((c3,(c4,())),(c5,(c6,(c7,((c8,(c9,())),(r0,((⟨0,fun _=>ua .str⟩:Sq BA),((0:Int),(true,())))))))))))),((⟨#[]⟩:BA),())) else k ((c,(c1,(c2,((c3,(c4,())),(c5,(c6,(c7,((c8,(c9,())),(r0,((⟨0,fun _=>ua .str⟩:Sq BA),((0:Int),(true,())))))))))))),((⟨#[]⟩:BA),()))
def gg (n:Nat) (c c1 c2:Int) (c3:BA) (c4:Bool) (c5:Int) (c6:BA) (c7:Bool) (c8 c9:BA) (c10:Int) (c11:Bool) (l:U9) (r0:(Sq U0)) (r1:(Sq BA)):Option (T0×BA×Unit):=Jk n c c1 c2 c3 c4 c5 c6 c7 c8 c9 c10 c11 l r0 r1 some
theorem HU (n:Nat) {S:Type}:∀ c c1 c2 c3 c4 c5 c6 c7 c8 c9 c10 c11 l r0 r1 (φ:_→Option S),(gg n c c1 c2 c3 c4 c5 c6 c7 c8 c9 c10 c11 l r0 r1).bind φ=Jk n c c1 c2 c3 c4 c5 c6 c7 c8 c9 c10 c11 l r0 r1 φ:=by
  intros;unfold gg Jk;first | (simp only [la,fa,iB,bB,oL,oX,nB,Option.bind_some]) | rfl
def su (n:Nat):Hint OutS:={ live:=fun c=>[],run:=fun c=>none,xm:=fun c q=>none,fz:=true }
theorem FL (n:Nat):ra tys (ja OutS (Qz n)) (su n) n (ia Tryz.f68) 0:=na (fun _=>rfl) _ _ (by kernel_rfl)
theorem NO (n:Nat):Enters Tryz.prog 68:=enters_of (c:=ia Tryz.f68) Tryz.func68 (by kernel_rfl) (by kernel_rfl)
def Kz:List RSp:=[.agg [.dat (.int .i64),.dat (.int .i64),.dat (.int .i64),.dat .str,.dat .bool,.dat (.int .i64),.dat .str,.dat .bool,.dat .str,.dat .str,.row 0,.row 1,.dat (.int .i64),.dat .bool],.one (.dat (.pair .str (.pair .bool .unit)))]
def Jz:List RS:=[.row 25 2 (.pair .str (.pair .str .unit)) true true,.row 9 1 .str true true]
def OO:List Sl:=[.top,.top]
def PO:List RSp:=[.one (.dat K0),.one (.dat .str)]
def Lh:List RS:=[]
def Zs (y:(T0×BA×Unit)):OutS:=⟨false,Yo (Zc Lh ()) OO (),nH (iE (Zc Lh ()) PO ((y.1,()),((y.2.1,()),()))),Vv (Zc Lh ()) Lh ()⟩
theorem xR (n:Nat):EntryOk Tryz.prog gl ⟨68,Ee,none,some (csT Kz Jz (fun σ ρ=>gg n σ.1.1 σ.1.2.1 σ.1.2.2.1 σ.1.2.2.2.1 σ.1.2.2.2.2.1 σ.1.2.2.2.2.2.1 σ.1.2.2.2.2.2.2.1 σ.1.2.2.2.2.2.2.2.1 σ.1.2.2.2.2.2.2.2.2.1 σ.1.2.2.2.2.2.2.2.2.2.1 σ.1.2.2.2.2.2.2.2.2.2.2.1 σ.1.2.2.2.2.2.2.2.2.2.2.2.1 σ.2.1.1 ρ.1 ρ.2.1) Zs)⟩:=Ge (NO n) fun σ ρ y h=>Kb tys_ok (Rz n) mixed (hint:=su n) (n:=n) Tryz.func68 (Ba (FL n)) (ma (φ:=fun y=>some (Zs y)) (by kernel_rfl) (HU n σ.1.1 σ.1.2.1 σ.1.2.2.1 σ.1.2.2.2.1 σ.1.2.2.2.2.1 σ.1.2.2.2.2.2.1 σ.1.2.2.2.2.2.2.1 σ.1.2.2.2.2.2.2.2.1 σ.1.2.2.2.2.2.2.2.2.1 σ.1.2.2.2.2.2.2.2.2.2.1 σ.1.2.2.2.2.2.2.2.2.2.2.1 σ.1.2.2.2.2.2.2.2.2.2.2.2.1 σ.2.1.1 ρ.1 ρ.2.1 _) h)
def So (n:Nat):List Entry:=⟨68,Ee,none,some (csT Kz Jz (fun σ ρ=>gg n σ.1.1 σ.1.2.1 σ.1.2.2.1 σ.1.2.2.2.1 σ.1.2.2.2.2.1 σ.1.2.2.2.2.2.1 σ.1.2.2.2.2.2.2.1 σ.1.2.2.2.2.2.2.2.1 σ.1.2.2.2.2.2.2.2.2.1 σ.1.2.2.2.2.2.2.2.2.2.1 σ.1.2.2.2.2.2.2.2.2.2.2.1 σ.1.2.2.2.2.2.2.2.2.2.2.2.1 σ.2.1.1 ρ.1 ρ.2.1) Zs)⟩::Qz n
theorem Mq (n:Nat):AllOk Tryz.prog gl (So n):=.cons (xR n) (Rz n)
def JT (n:Nat) {R:Type} (kind:Int) (k:BA→Option R):Option R:=if 0≤kind∧kind<(10:Int) then k (List.getD (α:=BA) [(⟨#[]⟩:BA),(⟨#[72,69,76,79]⟩:BA),(⟨#[69,72,76,79]⟩:BA),(⟨#[77,65,73,76]⟩:BA),(⟨#[82,67,80,84]⟩:BA),(⟨#[68,65,84,65]⟩:BA),(⟨#[82,83,69,84]⟩:BA),(⟨#[78,79,79,80]⟩:BA),(⟨#[81,85,73,84]⟩:BA),(⟨#[86,82,70,89]⟩:BA)] (Int.toNat kind) (ua .str)) else none
def IT (n:Nat) (kind:Int):Option BA:=JT n kind some
theorem agb (n:Nat) {S:Type}:∀ kind (φ:_→Option S),(IT n kind).bind φ=JT n kind φ:=by
  intros;unfold IT JT;first | (simp only [la,fa,iB,bB,oL,oX,nB,Option.bind_some]) | rfl
def vO (n:Nat):Hint Out:={ live:=fun c=>[],run:=fun c=>none,xm:=fun c q=>none }
theorem M5 (n:Nat):ra tys (ja Out (So n)) (vO n) n (ia Tryz.f151) 0:=na (fun _=>rfl) _ _ (by kernel_rfl)
theorem u9 (n:Nat):Enters Tryz.prog 151:=enters_of (c:=ia Tryz.f151) Tryz.func151 (by kernel_rfl) (by kernel_rfl)
def NW (n:Nat):Entry:=⟨151,pcT (.pair (.int .i64) .unit) (.one .str) (fun xs=>IT n xs.1),none,none⟩
theorem jdb (n:Nat):EntryOk Tryz.prog gl (NW n):=Aa (u9 n) fun xs y h=>oa tys_ok (Mq n) mixed (hint:=vO n) (n:=n) Tryz.func151 (Ba (M5 n)) (ma (φ:=(fun y=>some (Out.ret (rb (.one .str) y)))) (by kernel_rfl) (agb n xs.1 _) h)
def Hv (n:Nat):List Entry:=NW n::So n
theorem PK (n:Nat):AllOk Tryz.prog gl (Hv n):=.cons (jdb n) (Mq n)
def Gv (n:Nat) {R:Type} (s1 word1:BA) (t13 t14:Int) (kn:BA→BA→Int→Int→Option R) (ko:(Unit)→Option R) (kr:(Bool)→Option R) (kp:Int→Option R):Option R:=if (decide (t14<t13))=true then if 0≤t14∧t14<(s1.size:Int) then if (decide ((bt s1 t14)≥(97:Int)))=true then if (decide ((bt s1 t14)≤(122:Int)))=true then if 0≤t14∧t14<(word1.size:Int) then if ((IntKind.wrap .u8 ((bt s1 t14) - (32:Int))) !=(bt word1 t14))=true then kr false else kn s1 word1 t13 (IntKind.wrap .i64 (t14+(1:Int))) else none else if 0≤t14∧t14<(word1.size:Int) then if ((bt s1 t14) !=(bt word1 t14))=true then kr false else kn s1 word1 t13 (IntKind.wrap .i64 (t14+(1:Int))) else none else if 0≤t14∧t14<(word1.size:Int) then if ((bt s1 t14) !=(bt word1 t14))=true then kr false else kn s1 word1 t13 (IntKind.wrap .i64 (t14+(1:Int))) else none else none else ko ()
def Gg (n:Nat):Nat→BA→BA→Int→Int→Option (Lx (Unit) (Bool))
 | 0,_,_,_,_=>none
 | m+1,s1,word1,t13,t14=>Gv n s1 word1 t13 t14 (Gg n m) (fun a=>some (.out a)) (fun a=>some (.ret a)) (fun p=>some (.pan p))
theorem r9 (n m:Nat) {S:Type}:∀ s1 word1 t13 t14 (φ:_→Option S),(Gg n (m+1) s1 word1 t13 t14).bind φ=Gv n s1 word1 t13 t14 (fun s1 word1 t13 t14=>(Gg n m s1 word1 t13 t14).bind φ) (fun a=>φ (.out a)) (fun a=>φ (.ret a)) (fun p=>φ (.pan p)):=by
  intros;first | (simp only [Gg,Gv,la,fa,iB,bB,oL,oX,nB,Option.bind_some]) | rfl
def zB:List Sl:=.dat .str::.dat .str::tp 11 (.dat (.int .i64)::.dat (.int .i64)::tp 19 [])
def yB:List RS:=[]
def NP:List Sl:=tp 34 []
def MP:List RS:=[]
def PP:List Sl:=tp 4 (.dat .bool::tp 29 [])
def OP:List RS:=[]
def ji (K:XE→List AV→pa→Option Out):Lx (Unit) (Bool)→Option Out:=fun x=>onL x (fun a=>vc NP MP () () (K (.exit 0))) (fun a=>vc PP OP (a,()) () (K .ret)) (fun _=>none)
def AQ (n:Nat) {R:Type} (s word:BA) (k:Bool→Option R):Option R:=if ((s.size:Int) !=(word.size:Int))=true then k false else (Gg n n s word (s.size:Int) (0:Int)).bind fun x_1=>onL x_1 (fun a_2=>k true) (fun a_3=>k a_3) (fun _=>none)
def ET (n:Nat) (s word:BA):Option Bool:=AQ n s word some
theorem dib (n:Nat) {S:Type}:∀ s word (φ:_→Option S),(ET n s word).bind φ=AQ n s word φ:=by
  intros;unfold ET AQ;first | (simp only [la,fa,iB,bB,oL,oX,nB,Option.bind_some]) | rfl
def px (n:Nat):Hint Out:={ live:=fun c=>(cond (Nat.beq c 0) (lv [0,1,13,14]) []),run:=fun c=>(cond (Nat.beq c 0) (some (Ng zB yB fun σ ρ K=>(Gg n n σ.1 σ.2.1 σ.2.2.1 σ.2.2.2.1).bind (ji K))) none),xm:=fun c q=>(cond (Nat.beq c 0&&Nat.beq (q.getD 1000000) 0&&q.isSome) (some []) (cond (Nat.beq c 1&&q.isNone) (some [(4,none)]) none)) }
def ox (n:Nat) (K:XE→List AV→pa→Option Out) (m:Nat) (s1:BA) (word1:BA) (t13:Int) (t14:Int):Option Out:=Oc tys (ja Out (Hv n)) (px n) n (ya [1,1,0,1,0,0] (ia Tryz.f150)) 0 zB yB K m (s1,(word1,(t13,(t14,())))) ()
theorem FT (n:Nat) (K:XE→List AV→pa→Option Out):∀ (m:Nat) s1 word1 t13 t14,ox n K m s1 word1 t13 t14=(Gg n m s1 word1 t13 t14).bind (ji K)
  | 0,_,_,_,_=>by kernel_rfl
  | m+1,s1,word1,t13,t14=>by
    have h1:ox n K (m+1) s1 word1 t13 t14=Gv n s1 word1 t13 t14 (ox n K m) (fun a=>ji K (.out a)) (fun a=>ji K (.ret a)) (fun p=>ji K (.pan p)):=by kernel_rfl
    have h2:ox n K m=fun s1 word1 t13 t14=>(Gg n m s1 word1 t13 t14).bind (ji K):=by
      repeat (refine funext fun _=>?_)
      exact FT n K m _ _ _ _
    rw [h1,h2];exact (r9 n m _ _ _ _ (ji K)).symm
theorem I5 (n:Nat):yc tys (ja Out (Hv n)) (px n) n (ya [1,1,0,1,0,0] (ia Tryz.f150)) 0:=Fa (sp:=zB) (rp:=yB) (by kernel_rfl) fun K σ ρ=>FT n K n σ.1 σ.2.1 σ.2.2.1 σ.2.2.2.1
theorem s9 (n:Nat):ra tys (ja Out (Hv n)) (px n) n (ia Tryz.f150) 0:=⟨aa,⟨⟨aa,⟨⟨aa,aa⟩,aa⟩⟩,⟨⟨aa,⟨I5 n,⟨aa,⟨⟨aa,aa⟩,⟨⟨aa,⟨aa,⟨⟨aa,⟨aa,aa⟩⟩,⟨aa,⟨⟨aa,aa⟩,aa⟩⟩⟩⟩⟩,aa⟩⟩⟩⟩⟩,⟨aa,aa⟩⟩⟩⟩
theorem hdb (n:Nat):Enters Tryz.prog 150:=enters_of (c:=ia Tryz.f150) Tryz.func150 (by kernel_rfl) (by kernel_rfl)
def J5 (n:Nat):Entry:=⟨150,pcT (.pair .str (.pair .str .unit)) (.one .bool) (fun xs=>ET n xs.1 xs.2.1),none,none⟩
theorem Yfb (n:Nat):EntryOk Tryz.prog gl (J5 n):=Aa (hdb n) fun xs y h=>oa tys_ok (PK n) mixed (hint:=px n) (n:=n) Tryz.func150 (Ba (s9 n)) (ma (φ:=(fun y=>some (Out.ret (rb (.one .bool) y)))) (by kernel_rfl) (dib n xs.1 xs.2.1 _) h)
def AB (n:Nat):List Entry:=J5 n::Hv n
theorem uO (n:Nat):AllOk Tryz.prog gl (AB n):=.cons (Yfb n) (PK n)
def Fv (n:Nat) {R:Type} (s1:BA) (k0:Int) (kn:BA→Int→Option R) (ko:(Unit)→Option R) (kr:(Int)→Option R) (kp:Int→Option R):Option R:=if (decide (k0≤(9:Int)))=true then (IT n k0).bind fun v=>(ET n s1 v).bind fun v1=>if v1=true then kr k0 else kn s1 (IntKind.wrap .i64 (k0+(1:Int))) else ko ()
def Pc (n:Nat):Nat→BA→Int→Option (Lx (Unit) (Int))
 | 0,_,_=>none
 | m+1,s1,k0=>Fv n s1 k0 (Pc n m) (fun a=>some (.out a)) (fun a=>some (.ret a)) (fun p=>some (.pan p))
theorem o9 (n m:Nat) {S:Type}:∀ s1 k0 (φ:_→Option S),(Pc n (m+1) s1 k0).bind φ=Fv n s1 k0 (fun s1 k0=>(Pc n m s1 k0).bind φ) (fun a=>φ (.out a)) (fun a=>φ (.ret a)) (fun p=>φ (.pan p)):=by
  intros;first | (simp only [Pc,Fv,la,fa,iB,bB,oL,oX,nB,Option.bind_some]) | rfl
def vB:List Sl:=.dat .str::.top::.top::.dat (.int .i64)::tp 9 []
def uB:List RS:=[]
def JP:List Sl:=tp 13 []
def GP:List RS:=[]
def LP:List Sl:=.top::.top::.dat (.int .i64)::tp 10 []
def KP:List RS:=[]
def ii (K:XE→List AV→pa→Option Out):Lx (Unit) (Int)→Option Out:=fun x=>onL x (fun a=>vc JP GP () () (K (.exit 0))) (fun a=>vc LP KP (a,()) () (K .ret)) (fun _=>none)
def zQ (n:Nat) {R:Type} (s:BA) (k:Int→Option R):Option R:=(Pc n n s (1:Int)).bind fun x_1=>onL x_1 (fun a_2=>k (0:Int)) (fun a_3=>k a_3) (fun _=>none)
def ZE (n:Nat) (s:BA):Option Int:=zQ n s some
theorem cib (n:Nat) {S:Type}:∀ s (φ:_→Option S),(ZE n s).bind φ=zQ n s φ:=by
  intros;unfold ZE zQ;first | (simp only [la,fa,iB,bB,oL,oX,nB,Option.bind_some]) | rfl
def nx (n:Nat):Hint Out:={ live:=fun c=>(cond (Nat.beq c 0) [(0,none),(3,none)] []),run:=fun c=>(cond (Nat.beq c 0) (some (Ng vB uB fun σ ρ K=>(Pc n n σ.1 σ.2.1).bind (ii K))) none),xm:=fun c q=>(cond (Nat.beq c 0&&Nat.beq (q.getD 1000000) 0&&q.isSome) (some []) (cond (Nat.beq c 1&&q.isNone) (some [(2,none)]) none)) }
def lx (n:Nat) (K:XE→List AV→pa→Option Out) (m:Nat) (s1:BA) (k0:Int):Option Out:=Oc tys (ja Out (AB n)) (nx n) n (ya [1,0,1,0,0] (ia Tryz.f129)) 0 vB uB K m (s1,(k0,())) ()
theorem BT (n:Nat) (K:XE→List AV→pa→Option Out):∀ (m:Nat) s1 k0,lx n K m s1 k0=(Pc n m s1 k0).bind (ii K)
  | 0,_,_=>by kernel_rfl
  | m+1,s1,k0=>by
    have h1:lx n K (m+1) s1 k0=Fv n s1 k0 (lx n K m) (fun a=>ii K (.out a)) (fun a=>ii K (.ret a)) (fun p=>ii K (.pan p)):=by kernel_rfl
    have h2:lx n K m=fun s1 k0=>(Pc n m s1 k0).bind (ii K):=by
      repeat (refine funext fun _=>?_)
      exact BT n K m _ _
    rw [h1,h2];exact (o9 n m _ _ (ii K)).symm
theorem G5 (n:Nat):yc tys (ja Out (AB n)) (nx n) n (ya [1,0,1,0,0] (ia Tryz.f129)) 0:=Fa (sp:=vB) (rp:=uB) (by kernel_rfl) fun K σ ρ=>BT n K n σ.1 σ.2.1
theorem q9 (n:Nat):ra tys (ja Out (AB n)) (nx n) n (ia Tryz.f129) 0:=⟨aa,⟨⟨aa,⟨G5 n,⟨⟨aa,⟨aa,aa⟩⟩,⟨⟨aa,⟨⟨aa,aa⟩,aa⟩⟩,aa⟩⟩⟩⟩,⟨aa,aa⟩⟩⟩
theorem gdb (n:Nat):Enters Tryz.prog 129:=enters_of (c:=ia Tryz.f129) Tryz.func129 (by kernel_rfl) (by kernel_rfl)
def H5 (n:Nat):Entry:=⟨129,pcT (.pair .str .unit) (.one (.int .i64)) (fun xs=>ZE n xs.1),none,none⟩
theorem Xfb (n:Nat):EntryOk Tryz.prog gl (H5 n):=Aa (gdb n) fun xs y h=>oa tys_ok (uO n) mixed (hint:=nx n) (n:=n) Tryz.func129 (Ba (q9 n)) (ma (φ:=(fun y=>some (Out.ret (rb (.one (.int .i64)) y)))) (by kernel_rfl) (cib n xs.1 _) h)
def DT (n:Nat):List Entry:=H5 n::AB n
theorem xB (n:Nat):AllOk Tryz.prog gl (DT n):=.cons (Xfb n) (uO n)
def BQ (n:Nat) {R:Type} (ok:Bool) (e:Int) (k:(Unit)→Option R) (kp:Int→Option R):Option R:=if (!ok)=true then kp e else k ()
def Ja (n:Nat) (ok:Bool) (e:Int):Option (Except Int (Unit)):=BQ n ok e (fun y=>some (.ok y)) (fun p=>some (.error p))
theorem jbb (n:Nat) {S:Type}:∀ ok e (φ:_→Option S),(Ja n ok e).bind φ=BQ n ok e (fun y=>φ (.ok y)) (fun p=>φ (.error p)):=by
  intros;unfold Ja BQ;first | (simp only [la,fa,iB,bB,oL,oX,nB,Option.bind_some]) | rfl
def oH (n:Nat):Hint Out:={ live:=fun c=>[],run:=fun c=>none,xm:=fun c q=>none }
theorem HT (n:Nat):ra tys (ja Out (DT n)) (oH n) n (ia Tryz.f128) 0:=na (fun _=>rfl) _ _ (by kernel_rfl)
theorem idb (n:Nat):Enters Tryz.prog 128:=enters_of (c:=ia Tryz.f128) Tryz.func128 (by kernel_rfl) (by kernel_rfl)
def L5 (n:Nat):Entry:=⟨128,pcX 144 (.pair .bool (.pair (.int .i64) .unit)) (.many .unit) (fun xs=>Ja n xs.1 xs.2.1),none,none⟩
theorem Zfb (n:Nat):EntryOk Tryz.prog gl (L5 n):=KI (idb n) (fun xs y h=>oa tys_ok (xB n) mixed (hint:=oH n) (n:=n) Tryz.func128 (Ba (HT n)) (ma (φ:=(fun r=>onX r (fun p=>some (Out.pan (th 144 p))) fun y=>some (Out.ret (rb (.many .unit) y)))) (by kernel_rfl) (jbb n xs.1 xs.2.1 _) h)) (fun xs p h=>oa tys_ok (xB n) mixed (hint:=oH n) (n:=n) Tryz.func128 (Ba (HT n)) (ma (φ:=(fun r=>onX r (fun p=>some (Out.pan (th 144 p))) fun y=>some (Out.ret (rb (.many .unit) y)))) (by kernel_rfl) (jbb n xs.1 xs.2.1 _) h))
def GT (n:Nat):List Entry:=L5 n::DT n
theorem BB (n:Nat):AllOk Tryz.prog gl (GT n):=.cons (Zfb n) (xB n)
def NK (n:Nat) {R:Type} (s word:BA) (k:BA→Option R) (kp:Int→Option R):Option R:=if (decide ((s.size:Int)≥(word.size:Int)))=true then if 0≤(word.size:Int)∧(word.size:Int)≤(s.size:Int) then (ET n (s.extract (Int.toNat (0:Int)) (Int.toNat (word.size:Int))) word).bind fun v=>(Ja n v (8:Int)).bind fun x_1=>onX x_1 (fun p=>kp p) (fun v1=>if 0≤(word.size:Int)∧(word.size:Int)≤(s.size:Int) then k (s.extract (Int.toNat (word.size:Int)) (Int.toNat (s.size:Int))) else none) else none else (Ja n false (8:Int)).bind fun x_2=>onX x_2 (fun p1=>kp p1) (fun v2=>if 0≤(word.size:Int)∧(word.size:Int)≤(s.size:Int) then k (s.extract (Int.toNat (word.size:Int)) (Int.toNat (s.size:Int))) else none)
def zh (n:Nat) (s word:BA):Option (Except Int BA):=NK n s word (fun y=>some (.ok y)) (fun p=>some (.error p))
theorem F5 (n:Nat) {S:Type}:∀ s word (φ:_→Option S),(zh n s word).bind φ=NK n s word (fun y=>φ (.ok y)) (fun p=>φ (.error p)):=by
  intros;unfold zh NK;first | (simp only [la,fa,iB,bB,oL,oX,nB,Option.bind_some]) | rfl
def tB (n:Nat):Hint Out:={ live:=fun c=>[],run:=fun c=>none,xm:=fun c q=>none }
theorem tO (n:Nat):ra tys (ja Out (GT n)) (tB n) n (ia Tryz.f131) 0:=na (fun _=>rfl) _ _ (by kernel_rfl)
theorem m9 (n:Nat):Enters Tryz.prog 131:=enters_of (c:=ia Tryz.f131) Tryz.func131 (by kernel_rfl) (by kernel_rfl)
def MW (n:Nat):Entry:=⟨131,pcX 144 (.pair .str (.pair .str .unit)) (.one .str) (fun xs=>zh n xs.1 xs.2.1),none,none⟩
theorem fdb (n:Nat):EntryOk Tryz.prog gl (MW n):=KI (m9 n) (fun xs y h=>oa tys_ok (BB n) mixed (hint:=tB n) (n:=n) Tryz.func131 (Ba (tO n)) (ma (φ:=(fun r=>onX r (fun p=>some (Out.pan (th 144 p))) fun y=>some (Out.ret (rb (.one .str) y)))) (by kernel_rfl) (F5 n xs.1 xs.2.1 _) h)) (fun xs p h=>oa tys_ok (BB n) mixed (hint:=tB n) (n:=n) Tryz.func131 (Ba (tO n)) (ma (φ:=(fun r=>onX r (fun p=>some (Out.pan (th 144 p))) fun y=>some (Out.ret (rb (.one .str) y)))) (by kernel_rfl) (F5 n xs.1 xs.2.1 _) h))
def Ev (n:Nat):List Entry:=MW n::GT n
theorem OK (n:Nat):AllOk Tryz.prog gl (Ev n):=.cons (fdb n) (BB n)
def Va (n:Nat) {R:Type} (s1:BA) (c1 i:Int) (kn:BA→Int→Int→Option R) (ko:(Unit)→Option R) (kr:(Int)→Option R) (kp:Int→Option R):Option R:=if (decide (i≥(0:Int)))=true then if 0≤i∧i<(s1.size:Int) then if ((bt s1 i)==c1)=true then kr i else kn s1 c1 (IntKind.wrap .i64 (i - (1:Int))) else none else ko ()
def Ca (n:Nat):Nat→BA→Int→Int→Option (Lx (Unit) (Int))
 | 0,_,_,_=>none
 | m+1,s1,c1,i=>Va n s1 c1 i (Ca n m) (fun a=>some (.out a)) (fun a=>some (.ret a)) (fun p=>some (.pan p))
theorem Zo (n m:Nat) {S:Type}:∀ s1 c1 i (φ:_→Option S),(Ca n (m+1) s1 c1 i).bind φ=Va n s1 c1 i (fun s1 c1 i=>(Ca n m s1 c1 i).bind φ) (fun a=>φ (.out a)) (fun a=>φ (.ret a)) (fun p=>φ (.pan p)):=by
  intros;first | (simp only [Ca,Va,la,fa,iB,bB,oL,oX,nB,Option.bind_some]) | rfl
def Sc:List Sl:=.dat .str::.dat (.int .u8)::.top::.top::.top::.dat (.int .i64)::tp 13 []
def Rc:List RS:=[]
def Dj:List Sl:=tp 19 []
def Cj:List RS:=[]
def Fj:List Sl:=tp 4 (.dat (.int .i64)::tp 14 [])
def Ej:List RS:=[]
def Na (K:XE→List AV→pa→Option Out):Lx (Unit) (Int)→Option Out:=fun x=>onL x (fun a=>vc Dj Cj () () (K (.exit 0))) (fun a=>vc Fj Ej (a,()) () (K .ret)) (fun _=>none)
def Gc (n:Nat) {R:Type} (s:BA) (c:Int) (k:Int→Option R):Option R:=(Ca n n s c (IntKind.wrap .i64 ((s.size:Int) - (1:Int)))).bind fun x_1=>onL x_1 (fun a_2=>k (-1:Int)) (fun a_3=>k a_3) (fun _=>none)
def ic (n:Nat) (s:BA) (c:Int):Option Int:=Gc n s c some
theorem zu (n:Nat) {S:Type}:∀ s c (φ:_→Option S),(ic n s c).bind φ=Gc n s c φ:=by
  intros;unfold ic Gc;first | (simp only [la,fa,iB,bB,oL,oX,nB,Option.bind_some]) | rfl
def Ub (n:Nat):Hint Out:={ live:=fun c=>(cond (Nat.beq c 0) (lv [0,1,5]) []),run:=fun c=>(cond (Nat.beq c 0) (some (Ng Sc Rc fun σ ρ K=>(Ca n n σ.1 σ.2.1 σ.2.2.1).bind (Na K))) none),xm:=fun c q=>(cond (Nat.beq c 0&&Nat.beq (q.getD 1000000) 0&&q.isSome) (some []) (cond (Nat.beq c 1&&q.isNone) (some [(4,none)]) none)) }
def Tb (n:Nat) (K:XE→List AV→pa→Option Out) (m:Nat) (s1:BA) (c1:Int) (i:Int):Option Out:=Oc tys (ja Out (Ev n)) (Ub n) n (ya [1,0,1,0,0] (ia Tryz.f175)) 0 Sc Rc K m (s1,(c1,(i,()))) ()
theorem kg (n:Nat) (K:XE→List AV→pa→Option Out):∀ (m:Nat) s1 c1 i,Tb n K m s1 c1 i=(Ca n m s1 c1 i).bind (Na K)
  | 0,_,_,_=>by kernel_rfl
  | m+1,s1,c1,i=>by
    have h1:Tb n K (m+1) s1 c1 i=Va n s1 c1 i (Tb n K m) (fun a=>Na K (.out a)) (fun a=>Na K (.ret a)) (fun p=>Na K (.pan p)):=by kernel_rfl
    have h2:Tb n K m=fun s1 c1 i=>(Ca n m s1 c1 i).bind (Na K):=by
      repeat (refine funext fun _=>?_)
      exact kg n K m _ _ _
    rw [h1,h2];exact (Zo n m _ _ _ (Na K)).symm
theorem zn (n:Nat):yc tys (ja Out (Ev n)) (Ub n) n (ya [1,0,1,0,0] (ia Tryz.f175)) 0:=Fa (sp:=Sc) (rp:=Rc) (by kernel_rfl) fun K σ ρ=>kg n K n σ.1 σ.2.1 σ.2.2.1
theorem ap (n:Nat):ra tys (ja Out (Ev n)) (Ub n) n (ia Tryz.f175) 0:=⟨aa,⟨⟨aa,⟨zn n,⟨⟨aa,⟨aa,aa⟩⟩,⟨⟨aa,⟨⟨aa,aa⟩,aa⟩⟩,aa⟩⟩⟩⟩,⟨aa,aa⟩⟩⟩
theorem xq (n:Nat):Enters Tryz.prog 175:=enters_of (c:=ia Tryz.f175) Tryz.func175 (by kernel_rfl) (by kernel_rfl)
def Fh (n:Nat):Entry:=⟨175,pcT (.pair .str (.pair (.int .u8) .unit)) (.one (.int .i64)) (fun xs=>ic n xs.1 xs.2.1),none,none⟩
theorem ct (n:Nat):EntryOk Tryz.prog gl (Fh n):=Aa (xq n) fun xs y h=>oa tys_ok (OK n) mixed (hint:=Ub n) (n:=n) Tryz.func175 (Ba (ap n)) (ma (φ:=(fun y=>some (Out.ret (rb (.one (.int .i64)) y)))) (by kernel_rfl) (zu n xs.1 xs.2.1 _) h)
def Vd (n:Nat):List Entry:=Fh n::Ev n
theorem Qf (n:Nat):AllOk Tryz.prog gl (Vd n):=.cons (ct n) (OK n)
def Sf (n:Nat) {R:Type} (s:BA) (c:Int) (k:Int→Option R):Option R:=(ic n s c).bind fun v=>k v
def Ld (n:Nat) (s:BA) (c:Int):Option Int:=Sf n s c some
theorem GK (n:Nat) {S:Type}:∀ s c (φ:_→Option S),(Ld n s c).bind φ=Sf n s c φ:=by
  intros;unfold Ld Sf;first | (simp only [la,fa,iB,bB,oL,oX,nB,Option.bind_some]) | rfl
def Ql (n:Nat):Hint Out:={ live:=fun c=>[],run:=fun c=>none,xm:=fun c q=>none }
theorem mB (n:Nat):ra tys (ja Out (Vd n)) (Ql n) n (ia Tryz.f152) 0:=na (fun _=>rfl) _ _ (by kernel_rfl)
theorem BD (n:Nat):Enters Tryz.prog 152:=enters_of (c:=ia Tryz.f152) Tryz.func152 (by kernel_rfl) (by kernel_rfl)
def Zp (n:Nat):Entry:=⟨152,pcT (.pair .str (.pair (.int .u8) .unit)) (.one (.int .i64)) (fun xs=>Ld n xs.1 xs.2.1),none,none⟩
theorem mH (n:Nat):EntryOk Tryz.prog gl (Zp n):=Aa (BD n) fun xs y h=>oa tys_ok (Qf n) mixed (hint:=Ql n) (n:=n) Tryz.func152 (Ba (mB n)) (ma (φ:=(fun y=>some (Out.ret (rb (.one (.int .i64)) y)))) (by kernel_rfl) (GK n xs.1 xs.2.1 _) h)
def fi (n:Nat):List Entry:=Zp n::Vd n
theorem Kj (n:Nat):AllOk Tryz.prog gl (fi n):=.cons (mH n) (Qf n)
def GH (n:Nat) {R:Type} (s:BA) (k:(U0×Bool×Int×Unit)→Option R):Option R:=if (s.toList==(⟨#[60,62]⟩:BA).toList)=true then k (((⟨#[]⟩:BA),((⟨#[]⟩:BA),())),(true,((0:Int),()))) else if (decide ((s.size:Int)<(2:Int)))=false then if 0≤(0:Int)∧(0:Int)<(s.size:Int) then if ((bt s (0:Int)) !=(60:Int))=false then if 0≤(IntKind.wrap .i64 ((s.size:Int) - (1:Int)))∧(IntKind.wrap .i64 ((s.size:Int) - (1:Int)))<(s.size:Int) then if ((bt s (IntKind.wrap .i64 ((s.size:Int) - (1:Int)))) !=(62:Int))=true then k (((⟨#[]⟩:BA),((⟨#[]⟩:BA),())),(false,((8:Int),()))) else if 0≤(IntKind.wrap .i64 ((s.size:Int) - (1:Int)))∧(IntKind.wrap .i64 ((s.size:Int) - (1:Int)))≤(s.size:Int) then if 0≤(1:Int)∧(1:Int)≤(IntKind.wrap .i64 ((s.size:Int) - (1:Int))) then (Wm n (s.extract (Int.toNat (1:Int)) (Int.toNat (IntKind.wrap .i64 ((s.size:Int) - (1:Int)))))).bind fun v=>k ((v.1.1,(v.1.2.1,())),(false,(v.2.1,()))) else none else none else none else k (((⟨#[]⟩:BA),((⟨#[]⟩:BA),())),(false,((8:Int),()))) else none else k (((⟨#[]⟩:BA),((⟨#[]⟩:BA),())),(false,((8:Int),())))
def fF (n:Nat) (s:BA):Option (U0×Bool×Int×Unit):=GH n s some
theorem Ldb (n:Nat) {S:Type}:∀ s (φ:_→Option S),(fF n s).bind φ=GH n s φ:=by
  intros;unfold fF GH;first | (simp only [la,fa,iB,bB,oL,oX,nB,Option.bind_some]) | rfl
def wN (n:Nat):Hint Out:={ live:=fun c=>[],run:=fun c=>none,xm:=fun c q=>none }
theorem XZ (n:Nat):ra tys (ja Out (fi n)) (wN n) n (ia Tryz.f153) 0:=na (fun _=>rfl) _ _ (by kernel_rfl)
theorem G6 (n:Nat):Enters Tryz.prog 153:=enters_of (c:=ia Tryz.f153) Tryz.func153 (by kernel_rfl) (by kernel_rfl)
def aW (n:Nat):Entry:=⟨153,pcT (.pair .str .unit) (.many K8) (fun xs=>fF n xs.1),none,none⟩
theorem Dbb (n:Nat):EntryOk Tryz.prog gl (aW n):=Aa (G6 n) fun xs y h=>oa tys_ok (Kj n) mixed (hint:=wN n) (n:=n) Tryz.func153 (Ba (XZ n)) (ma (φ:=(fun y=>some (Out.ret (rb (.many K8) y)))) (by kernel_rfl) (Ldb n xs.1 _) h)
def tL (n:Nat):List Entry:=aW n::fi n
theorem bw (n:Nat):AllOk Tryz.prog gl (tL n):=.cons (Dbb n) (Kj n)
def DQ (n:Nat) {R:Type} (s:BA) (k:(U0×Bool×BA×Unit)→Option R) (kp:Int→Option R):Option R:=(Ga n s (⟨#[32]⟩:BA)).bind fun v=>(Ld n v (62:Int)).bind fun v1=>(Ja n (decide (v1≥(0:Int))) (8:Int)).bind fun x_1=>onX x_1 (fun p=>kp p) (fun v2=>if 0≤(IntKind.wrap .i64 (v1+(1:Int)))∧(IntKind.wrap .i64 (v1+(1:Int)))≤(v.size:Int) then (fF n (v.extract (Int.toNat (0:Int)) (Int.toNat (IntKind.wrap .i64 (v1+(1:Int)))))).bind fun v3=>(Ja n (v3.2.2.1==(0:Int)) v3.2.2.1).bind fun x_2=>onX x_2 (fun p1=>kp p1) (fun v4=>if 0≤(IntKind.wrap .i64 (v1+(1:Int)))∧(IntKind.wrap .i64 (v1+(1:Int)))≤(v.size:Int) then k ((v3.1.1,(v3.1.2.1,())),(v3.2.1,((v.extract (Int.toNat (IntKind.wrap .i64 (v1+(1:Int)))) (Int.toNat (v.size:Int))),()))) else none) else none)
def Om (n:Nat) (s:BA):Option (Except Int (U0×Bool×BA×Unit)):=DQ n s (fun y=>some (.ok y)) (fun p=>some (.error p))
theorem kbb (n:Nat) {S:Type}:∀ s (φ:_→Option S),(Om n s).bind φ=DQ n s (fun y=>φ (.ok y)) (fun p=>φ (.error p)):=by
  intros;unfold Om DQ;first | (simp only [la,fa,iB,bB,oL,oX,nB,Option.bind_some]) | rfl
def pH (n:Nat):Hint Out:={ live:=fun c=>[],run:=fun c=>none,xm:=fun c q=>none,sch:=fun c=>(cond (Nat.beq c 6) (some [(1,0),(2,0),(3,0),(4,0),(5,0),(0,1),(6,2),(7,0),(8,0)]) none) }
theorem MT (n:Nat):ra tys (ja Out (tL n)) (pH n) n (ia Tryz.f130) 0:=na (fun _=>rfl) _ _ (by kernel_rfl)
theorem ldb (n:Nat):Enters Tryz.prog 130:=enters_of (c:=ia Tryz.f130) Tryz.func130 (by kernel_rfl) (by kernel_rfl)
def P5 (n:Nat):Entry:=⟨130,pcX 144 (.pair .str .unit) (.many K9) (fun xs=>Om n xs.1),none,none⟩
theorem cgb (n:Nat):EntryOk Tryz.prog gl (P5 n):=KI (ldb n) (fun xs y h=>oa tys_ok (bw n) mixed (hint:=pH n) (n:=n) Tryz.func130 (Ba (MT n)) (ma (φ:=(fun r=>onX r (fun p=>some (Out.pan (th 144 p))) fun y=>some (Out.ret (rb (.many K9) y)))) (by kernel_rfl) (kbb n xs.1 _) h)) (fun xs p h=>oa tys_ok (bw n) mixed (hint:=pH n) (n:=n) Tryz.func130 (Ba (MT n)) (ma (φ:=(fun r=>onX r (fun p=>some (Out.pan (th 144 p))) fun y=>some (Out.ret (rb (.many K9) y)))) (by kernel_rfl) (kbb n xs.1 _) h))
def CB (n:Nat):List Entry:=P5 n::tL n
theorem DB (n:Nat):AllOk Tryz.prog gl (CB n):=.cons (cgb n) (bw n)
def cq (n:Nat) {R:Type} (s1:BA) (n0 t19 t20:Int) (kn:BA→Int→Int→Int→Option R) (ko:(Int)→Option R) (kr:Unit→Option R) (kp:Int→Option R):Option R:=if (decide (t20<t19))=true then if 0≤t20∧t20<(s1.size:Int) then if (decide ((bt s1 t20)≥(48:Int)))=true then if 0≤t20∧t20<(s1.size:Int) then (Ja n (decide ((bt s1 t20)≤(57:Int))) (8:Int)).bind fun x_1=>onX x_1 (fun p2=>kp p2) (fun v2=>if 0≤t20∧t20<(s1.size:Int) then kn s1 (IntKind.wrap .i64 ((IntKind.wrap .i64 ((10:Int)*n0))+(IntKind.wrap .i64 (IntKind.wrap .u8 ((bt s1 t20) - (48:Int)))))) t19 (IntKind.wrap .i64 (t20+(1:Int))) else none) else none else (Ja n false (8:Int)).bind fun x_2=>onX x_2 (fun p3=>kp p3) (fun v3=>if 0≤t20∧t20<(s1.size:Int) then kn s1 (IntKind.wrap .i64 ((IntKind.wrap .i64 ((10:Int)*n0))+(IntKind.wrap .i64 (IntKind.wrap .u8 ((bt s1 t20) - (48:Int)))))) t19 (IntKind.wrap .i64 (t20+(1:Int))) else none) else none else ko n0
def Ae (n:Nat):Nat→BA→Int→Int→Int→Option (Lx (Int) Unit)
 | 0,_,_,_,_=>none
 | m+1,s1,n0,t19,t20=>cq n s1 n0 t19 t20 (Ae n m) (fun a=>some (.out a)) (fun a=>some (.ret a)) (fun p=>some (.pan p))
theorem x9 (n m:Nat) {S:Type}:∀ s1 n0 t19 t20 (φ:_→Option S),(Ae n (m+1) s1 n0 t19 t20).bind φ=cq n s1 n0 t19 t20 (fun s1 n0 t19 t20=>(Ae n m s1 n0 t19 t20).bind φ) (fun a=>φ (.out a)) (fun a=>φ (.ret a)) (fun p=>φ (.pan p)):=by
  intros;first | (simp only [Ae,cq,la,fa,iB,bB,oL,oX,nB,Option.bind_some]) | rfl
def FB:List Sl:=.dat .str::.top::.top::.dat (.int .i64)::tp 15 (.dat (.int .i64)::.dat (.int .i64)::tp 26 [])
def EB:List RS:=[]
def RP:List Sl:=.top::.top::.top::.dat (.int .i64)::tp 43 []
def QP:List RS:=[]
def li (K:XE→List AV→pa→Option Out):Lx (Int) Unit→Option Out:=fun x=>onL x (fun a=>vc RP QP (a,()) () (K (.exit 0))) (fun _=>none) (fun p=>K (.panic (th 144 p)) (List.replicate 47 .top) [])
def FQ (n:Nat) {R:Type} (s:BA) (k:Int→Option R) (kp:Int→Option R):Option R:=if (s.toList==(⟨#[]⟩:BA).toList)=true then k (-1:Int) else (zh n s (⟨#[32,83,73,90,69,61]⟩:BA)).bind fun x_1=>onX x_1 (fun p=>kp p) (fun v=>if (decide ((v.size:Int)≥(1:Int)))=true then (Ja n (decide ((v.size:Int)≤(10:Int))) (8:Int)).bind fun x_2=>onX x_2 (fun p1=>kp p1) (fun v1=>(Ae n n v (0:Int) (v.size:Int) (0:Int)).bind fun x_3=>onL x_3 (fun a_4=>(Ja n (decide (a_4≤(1073741824:Int))) (8:Int)).bind fun x_5=>onX x_5 (fun p4=>kp p4) (fun v4=>k a_4)) (fun _=>none) (fun p5=>kp p5)) else (Ja n false (8:Int)).bind fun x_6=>onX x_6 (fun p6=>kp p6) (fun v5=>(Ae n n v (0:Int) (v.size:Int) (0:Int)).bind fun x_7=>onL x_7 (fun a_8=>(Ja n (decide (a_8≤(1073741824:Int))) (8:Int)).bind fun x_9=>onX x_9 (fun p7=>kp p7) (fun v6=>k a_8)) (fun _=>none) (fun p8=>kp p8)))
def aF (n:Nat) (s:BA):Option (Except Int Int):=FQ n s (fun y=>some (.ok y)) (fun p=>some (.error p))
theorem mbb (n:Nat) {S:Type}:∀ s (φ:_→Option S),(aF n s).bind φ=FQ n s (fun y=>φ (.ok y)) (fun p=>φ (.error p)):=by
  intros;unfold aF FQ;first | (simp only [la,fa,iB,bB,oL,oX,nB,Option.bind_some]) | rfl
def dq (n:Nat):Hint Out:={ live:=fun c=>(cond (Nat.beq c 0) (lv [0,3,19,20]) []),run:=fun c=>(cond (Nat.beq c 0) (some (Ng FB EB fun σ ρ K=>(Ae n n σ.1 σ.2.1 σ.2.2.1 σ.2.2.2.1).bind (li K))) none),xm:=fun c q=>(cond (Nat.beq c 0&&Nat.beq (q.getD 1000000) 0&&q.isSome) (some [(3,none)]) none) }
def qx (n:Nat) (K:XE→List AV→pa→Option Out) (m:Nat) (s1:BA) (n0:Int) (t19:Int) (t20:Int):Option Out:=Oc tys (ja Out (CB n)) (dq n) n (ya [1,1,1,1,1,0,1,0,0] (ia Tryz.f132)) 0 FB EB K m (s1,(n0,(t19,(t20,())))) ()
theorem OT (n:Nat) (K:XE→List AV→pa→Option Out):∀ (m:Nat) s1 n0 t19 t20,qx n K m s1 n0 t19 t20=(Ae n m s1 n0 t19 t20).bind (li K)
  | 0,_,_,_,_=>by kernel_rfl
  | m+1,s1,n0,t19,t20=>by
    have h1:qx n K (m+1) s1 n0 t19 t20=cq n s1 n0 t19 t20 (qx n K m) (fun a=>li K (.out a)) (fun a=>li K (.ret a)) (fun p=>li K (.pan p)):=by kernel_rfl
    have h2:qx n K m=fun s1 n0 t19 t20=>(Ae n m s1 n0 t19 t20).bind (li K):=by
      repeat (refine funext fun _=>?_)
      exact OT n K m _ _ _ _
    rw [h1,h2];exact (x9 n m _ _ _ _ (li K)).symm
theorem R5 (n:Nat):yc tys (ja Out (CB n)) (dq n) n (ya [1,1,1,1,1,0,1,0,0] (ia Tryz.f132)) 0:=Fa (sp:=FB) (rp:=EB) (by kernel_rfl) fun K σ ρ=>OT n K n σ.1 σ.2.1 σ.2.2.1 σ.2.2.2.1
theorem PT (n:Nat):ra tys (ja Out (CB n)) (dq n) n (ia Tryz.f132) 0:=⟨aa,⟨⟨aa,⟨⟨aa,aa⟩,aa⟩⟩,⟨aa,⟨aa,⟨aa,⟨⟨aa,⟨R5 n,⟨aa,⟨⟨aa,aa⟩,⟨⟨aa,⟨aa,aa⟩⟩,aa⟩⟩⟩⟩⟩,⟨aa,⟨aa,aa⟩⟩⟩⟩⟩⟩⟩⟩
theorem ndb (n:Nat):Enters Tryz.prog 132:=enters_of (c:=ia Tryz.f132) Tryz.func132 (by kernel_rfl) (by kernel_rfl)
def S5 (n:Nat):Entry:=⟨132,pcX 144 (.pair .str .unit) (.one (.int .i64)) (fun xs=>aF n xs.1),none,none⟩
theorem egb (n:Nat):EntryOk Tryz.prog gl (S5 n):=KI (ndb n) (fun xs y h=>oa tys_ok (DB n) mixed (hint:=dq n) (n:=n) Tryz.func132 (Ba (PT n)) (ma (φ:=(fun r=>onX r (fun p=>some (Out.pan (th 144 p))) fun y=>some (Out.ret (rb (.one (.int .i64)) y)))) (by kernel_rfl) (mbb n xs.1 _) h)) (fun xs p h=>oa tys_ok (DB n) mixed (hint:=dq n) (n:=n) Tryz.func132 (Ba (PT n)) (ma (φ:=(fun r=>onX r (fun p=>some (Out.pan (th 144 p))) fun y=>some (Out.ret (rb (.one (.int .i64)) y)))) (by kernel_rfl) (mbb n xs.1 _) h))
def GB (n:Nat):List Entry:=S5 n::CB n
theorem yO (n:Nat):AllOk Tryz.prog gl (GB n):=.cons (egb n) (DB n)
def Bo (n:Nat) {R:Type} (s1:BA) (blank:Bool) (t6 t7:Int) (kn:BA→Bool→Int→Int→Option R) (ko:(BA×Bool)→Option R) (kr:(Bool)→Option R) (kp:Int→Option R):Option R:=if (decide (t7<t6))=true then if 0≤t7∧t7<(s1.size:Int) then if (decide ((bt s1 t7)<(32:Int)))=false then if 0≤t7∧t7<(s1.size:Int) then if (decide ((bt s1 t7)>(126:Int)))=false then if 0≤t7∧t7<(s1.size:Int) then if ((bt s1 t7)==(32:Int))=true then if blank=true then kr false else if 0≤t7∧t7<(s1.size:Int) then kn s1 ((bt s1 t7)==(32:Int)) t6 (IntKind.wrap .i64 (t7+(1:Int))) else none else if 0≤t7∧t7<(s1.size:Int) then kn s1 ((bt s1 t7)==(32:Int)) t6 (IntKind.wrap .i64 (t7+(1:Int))) else none else none else kr false else none else kr false else none else ko (s1,blank)
def Be (n:Nat):Nat→BA→Bool→Int→Int→Option (Lx (BA×Bool) (Bool))
 | 0,_,_,_,_=>none
 | m+1,s1,blank,t6,t7=>Bo n s1 blank t6 t7 (Be n m) (fun a=>some (.out a)) (fun a=>some (.ret a)) (fun p=>some (.pan p))
theorem T5 (n m:Nat) {S:Type}:∀ s1 blank t6 t7 (φ:_→Option S),(Be n (m+1) s1 blank t6 t7).bind φ=Bo n s1 blank t6 t7 (fun s1 blank t6 t7=>(Be n m s1 blank t6 t7).bind φ) (fun a=>φ (.out a)) (fun a=>φ (.ret a)) (fun p=>φ (.pan p)):=by
  intros;first | (simp only [Be,Bo,la,fa,iB,bB,oL,oX,nB,Option.bind_some]) | rfl
def sx:List Sl:=.dat .str::.top::.top::.dat .bool::.top::.top::.dat (.int .i64)::.dat (.int .i64)::tp 33 []
def rx:List RS:=[]
def TM:List Sl:=.dat .str::.top::.top::.dat .bool::tp 37 []
def SM:List RS:=[]
def VM:List Sl:=.top::.top::.dat .bool::tp 38 []
def UM:List RS:=[]
def Hg (K:XE→List AV→pa→Option Out):Lx (BA×Bool) (Bool)→Option Out:=fun x=>onL x (fun a=>vc TM SM (a.1,(a.2,())) () (K (.exit 0))) (fun a=>vc VM UM (a,()) () (K .ret)) (fun _=>none)
def QK (n:Nat) {R:Type} (s:BA) (k:Bool→Option R):Option R:=(Be n n s true (s.size:Int) (0:Int)).bind fun x_1=>onL x_1 (fun a_2=>if (!a_2.2)=true then k (decide ((a_2.1.size:Int)≤(64:Int))) else k false) (fun a_3=>k a_3) (fun _=>none)
def rH (n:Nat) (s:BA):Option Bool:=QK n s some
theorem fgb (n:Nat) {S:Type}:∀ s (φ:_→Option S),(rH n s).bind φ=QK n s φ:=by
  intros;unfold rH QK;first | (simp only [la,fa,iB,bB,oL,oX,nB,Option.bind_some]) | rfl
def ss (n:Nat):Hint Out:={ live:=fun c=>(cond (Nat.beq c 0) (lv [0,3,6,7]) []),run:=fun c=>(cond (Nat.beq c 0) (some (Ng sx rx fun σ ρ K=>(Be n n σ.1 σ.2.1 σ.2.2.1 σ.2.2.2.1).bind (Hg K))) none),xm:=fun c q=>(cond (Nat.beq c 0&&Nat.beq (q.getD 1000000) 0&&q.isSome) (some [(0,none),(3,none)]) (cond (Nat.beq c 1&&q.isNone) (some [(2,none)]) none)) }
def ks (n:Nat) (K:XE→List AV→pa→Option Out) (m:Nat) (s1:BA) (blank:Bool) (t6:Int) (t7:Int):Option Out:=Oc tys (ja Out (GB n)) (ss n) n (ya [1,1,0,1,0,0] (ia Tryz.f135)) 0 sx rx K m (s1,(blank,(t6,(t7,())))) ()
theorem zO (n:Nat) (K:XE→List AV→pa→Option Out):∀ (m:Nat) s1 blank t6 t7,ks n K m s1 blank t6 t7=(Be n m s1 blank t6 t7).bind (Hg K)
  | 0,_,_,_,_=>by kernel_rfl
  | m+1,s1,blank,t6,t7=>by
    have h1:ks n K (m+1) s1 blank t6 t7=Bo n s1 blank t6 t7 (ks n K m) (fun a=>Hg K (.out a)) (fun a=>Hg K (.ret a)) (fun p=>Hg K (.pan p)):=by kernel_rfl
    have h2:ks n K m=fun s1 blank t6 t7=>(Be n m s1 blank t6 t7).bind (Hg K):=by
      repeat (refine funext fun _=>?_)
      exact zO n K m _ _ _ _
    rw [h1,h2];exact (T5 n m _ _ _ _ (Hg K)).symm
theorem uZ (n:Nat):yc tys (ja Out (GB n)) (ss n) n (ya [1,1,0,1,0,0] (ia Tryz.f135)) 0:=Fa (sp:=sx) (rp:=rx) (by kernel_rfl) fun K σ ρ=>zO n K n σ.1 σ.2.1 σ.2.2.1 σ.2.2.2.1
theorem V5 (n:Nat):ra tys (ja Out (GB n)) (ss n) n (ia Tryz.f135) 0:=⟨aa,⟨aa,⟨⟨aa,⟨uZ n,⟨aa,⟨⟨aa,aa⟩,⟨⟨aa,⟨⟨aa,⟨⟨aa,aa⟩,aa⟩⟩,aa⟩⟩,aa⟩⟩⟩⟩⟩,⟨aa,aa⟩⟩⟩⟩
theorem y9 (n:Nat):Enters Tryz.prog 135:=enters_of (c:=ia Tryz.f135) Tryz.func135 (by kernel_rfl) (by kernel_rfl)
def PW (n:Nat):Entry:=⟨135,pcT (.pair .str .unit) (.one .bool) (fun xs=>rH n xs.1),none,none⟩
theorem odb (n:Nat):EntryOk Tryz.prog gl (PW n):=Aa (y9 n) fun xs y h=>oa tys_ok (yO n) mixed (hint:=ss n) (n:=n) Tryz.func135 (Ba (V5 n)) (ma (φ:=(fun y=>some (Out.ret (rb (.one .bool) y)))) (by kernel_rfl) (fgb n xs.1 _) h)
def WM (n:Nat):List Entry:=PW n::GB n
theorem RK (n:Nat):AllOk Tryz.prog gl (WM n):=.cons (odb n) (yO n)
def CQ (n:Nat) {R:Type} (v:T1) (k:(T1×Bool×Unit)→Option R):Option R:=if (v.1==(1:Int))=true then (cd n v.2.1).bind fun v1=>k ((v.1,(v.2.1,(false,(((⟨#[]⟩:BA),((⟨#[]⟩:BA),())),((0:Int),()))))),(v1,())) else if (v.1==(2:Int))=true then (cd n v.2.1).bind fun v2=>k ((v.1,(v.2.1,(false,(((⟨#[]⟩:BA),((⟨#[]⟩:BA),())),((0:Int),()))))),(v2,())) else if (v.1==(3:Int))=true then dup 1 (if (!v.2.2.1)=true then if v.2.2.1=false then (cz n (v.2.2.2.1.1,(v.2.2.2.1.2.1,()))).bind fun v3=>if v3=true then if (decide (v.2.2.2.2.1≥(-1:Int)))=true then dup 1 (k ((v.1,((⟨#[]⟩:BA),(v.2.2.1,((v.2.2.2.1.1,(v.2.2.2.1.2.1,())),(v.2.2.2.2.1,()))))),((decide (v.2.2.2.2.1≤(1073741824:Int))),()))) else dup 1 (k ((v.1,((⟨#[]⟩:BA),(v.2.2.1,((v.2.2.2.1.1,(v.2.2.2.1.2.1,())),(v.2.2.2.2.1,()))))),(false,()))) else dup 1 (k ((v.1,((⟨#[]⟩:BA),(v.2.2.1,((v.2.2.2.1.1,(v.2.2.2.1.2.1,())),(v.2.2.2.2.1,()))))),(false,()))) else if (decide (v.2.2.2.2.1≥(-1:Int)))=true then dup 1 (k ((v.1,((⟨#[]⟩:BA),(v.2.2.1,((v.2.2.2.1.1,(v.2.2.2.1.2.1,())),(v.2.2.2.2.1,()))))),((decide (v.2.2.2.2.1≤(1073741824:Int))),()))) else dup 1 (k ((v.1,((⟨#[]⟩:BA),(v.2.2.1,((v.2.2.2.1.1,(v.2.2.2.1.2.1,())),(v.2.2.2.2.1,()))))),(false,()))) else if v.2.2.1=false then (cz n (v.2.2.2.1.1,(v.2.2.2.1.2.1,()))).bind fun v4=>
 if v4=true then if (decide (v.2.2.2.2.1≥(-1:Int)))=true then dup 1 (k ((v.1,((⟨#[]⟩:BA),(v.2.2.1,(((⟨#[]⟩:BA),((⟨#[]⟩:BA),())),(v.2.2.2.2.1,()))))),((decide (v.2.2.2.2.1≤(1073741824:Int))),()))) else dup 1 (k ((v.1,((⟨#[]⟩:BA),(v.2.2.1,(((⟨#[]⟩:BA),((⟨#[]⟩:BA),())),(v.2.2.2.2.1,()))))),(false,()))) else dup 1 (k ((v.1,((⟨#[]⟩:BA),(v.2.2.1,(((⟨#[]⟩:BA),((⟨#[]⟩:BA),())),(v.2.2.2.2.1,()))))),(false,()))) else if (decide (v.2.2.2.2.1≥(-1:Int)))=true then dup 1 (k ((v.1,((⟨#[]⟩:BA),(v.2.2.1,(((⟨#[]⟩:BA),((⟨#[]⟩:BA),())),(v.2.2.2.2.1,()))))),((decide (v.2.2.2.2.1≤(1073741824:Int))),()))) else dup 1 (k ((v.1,((⟨#[]⟩:BA),(v.2.2.1,(((⟨#[]⟩:BA),((⟨#[]⟩:BA),())),(v.2.2.2.2.1,()))))),(false,())))) else if (v.1==(4:Int))=true then (cz n (v.2.2.2.1.1,(v.2.2.2.1.2.1,()))).bind fun v7=>k ((v.1,((⟨#[]⟩:BA),(false,((v.2.2.2.1.1,(v.2.2.2.1.2.1,())),((0:Int),()))))),(v7,())) else if (v.1==(7:Int))=true then (rH n v.2.1).bind fun v8=>if v8=false then if (v.2.1.toList==(⟨#[]⟩:BA).toList)=true then dup 1 (k ((v.1,(v.2.1,(false,(((⟨#[]⟩:BA),((⟨#[]⟩:BA),())),((0:Int),()))))),((v.1==(7:Int)),()))) else dup 1 (k ((v.1,(v.2.1,(false,(((⟨#[]⟩:BA),((⟨#[]⟩:BA),())),((0:Int),()))))),(false,())))
 else dup 1 (k ((v.1,(v.2.1,(false,(((⟨#[]⟩:BA),((⟨#[]⟩:BA),())),((0:Int),()))))),(true,()))) else if (v.1==(9:Int))=true then (rH n v.2.1).bind fun v9=>if v9=false then if (v.2.1.toList==(⟨#[]⟩:BA).toList)=true then dup 1 (k ((v.1,(v.2.1,(false,(((⟨#[]⟩:BA),((⟨#[]⟩:BA),())),((0:Int),()))))),((v.1==(7:Int)),()))) else dup 1 (k ((v.1,(v.2.1,(false,(((⟨#[]⟩:BA),((⟨#[]⟩:BA),())),((0:Int),()))))),(false,()))) else dup 1 (k ((v.1,(v.2.1,(false,(((⟨#[]⟩:BA),((⟨#[]⟩:BA),())),((0:Int),()))))),(true,()))) else if (v.1==(5:Int))=true then k ((v.1,((⟨#[]⟩:BA),(false,(((⟨#[]⟩:BA),((⟨#[]⟩:BA),())),((0:Int),()))))),(true,())) else if (v.1==(6:Int))=true then k ((v.1,((⟨#[]⟩:BA),(false,(((⟨#[]⟩:BA),((⟨#[]⟩:BA),())),((0:Int),()))))),(true,())) else if (v.1==(8:Int))=true then k ((v.1,((⟨#[]⟩:BA),(false,(((⟨#[]⟩:BA),((⟨#[]⟩:BA),())),((0:Int),()))))),(true,())) else k ((v.1,((⟨#[]⟩:BA),(false,(((⟨#[]⟩:BA),((⟨#[]⟩:BA),())),((0:Int),()))))),(false,()))
def N5 (n:Nat) (v:T1):Option (T1×Bool×Unit):=CQ n v some
theorem eib (n:Nat) {S:Type}:∀ v (φ:_→Option S),(N5 n v).bind φ=CQ n v φ:=by
  intros;unfold N5 CQ;first | (simp only [la,fa,iB,bB,oL,oX,nB,Option.bind_some]) | rfl
def LT (n:Nat):Hint Out:={ live:=fun c=>[],run:=fun c=>none,xm:=fun c q=>none,sch:=fun c=>(cond (Nat.beq c 18) (some [(1,0),(0,1),(2,1),(3,3),(4,0),(5,0),(6,3),(7,0),(8,0),(9,0),(14,5),(10,7),(11,6),(12,6),(13,6),(15,6)]) (cond (Nat.beq c 14) (some [(1,0),(0,1),(2,1),(3,3),(4,2),(5,0)]) (cond (Nat.beq c 11) (some [(1,0),(0,1),(2,1),(3,0),(4,0),(5,1),(6,3),(7,0),(8,0),(9,0),(10,3),(11,0),(12,0),(13,0),(14,0),(18,5),(15,7),(16,6),(17,6),(19,6)]) (cond (Nat.beq c 8) (some [(0,0),(2,0),(1,1),(4,0),(5,5),(3,7),(6,6),(7,2)]) (cond (Nat.beq c 6) (some [(1,0),(0,1),(2,1),(3,3),(4,2),(5,0)]) none))))) }
theorem w9 (n:Nat):ra tys (ja Out (WM n)) (LT n) n (ia Tryz.f102) 0:=na (fun _=>rfl) _ _ (by kernel_rfl)
theorem kdb (n:Nat):Enters Tryz.prog 102:=enters_of (c:=ia Tryz.f102) Tryz.func102 (by kernel_rfl) (by kernel_rfl)
def O5 (n:Nat):Entry:=⟨102,pcT K11 (.many K10) (fun xs=>N5 n xs.1),none,none⟩
theorem bgb (n:Nat):EntryOk Tryz.prog gl (O5 n):=Aa (kdb n) fun xs y h=>oa tys_ok (RK n) mixed (hint:=LT n) (n:=n) Tryz.func102 (Ba (w9 n)) (ma (φ:=(fun y=>some (Out.ret (rb (.many K10) y)))) (by kernel_rfl) (eib n xs.1 _) h)
def KT (n:Nat):List Entry:=O5 n::WM n
theorem wO (n:Nat):AllOk Tryz.prog gl (KT n):=.cons (bgb n) (RK n)
def rZ (n:Nat) {R:Type} (v:T1) (k:Bool→Option R):Option R:=(N5 n (v.1,(v.2.1,(v.2.2.1,((v.2.2.2.1.1,(v.2.2.2.1.2.1,())),(v.2.2.2.2.1,())))))).bind fun v1=>if v1.2.1=true then k ((v1.1.1==v.1)&&((v1.1.2.1.toList==v.2.1.toList)&&((v1.1.2.2.1==v.2.2.1)&&(((v1.1.2.2.2.1.1.toList==v.2.2.2.1.1.toList)&&((v1.1.2.2.2.1.2.1.toList==v.2.2.2.1.2.1.toList)&&true))&&((v1.1.2.2.2.2.1==v.2.2.2.2.1)&&true))))) else k false
def yh (n:Nat) (v:T1):Option Bool:=rZ n v some
theorem Dkb (n:Nat) {S:Type}:∀ v (φ:_→Option S),(yh n v).bind φ=rZ n v φ:=by
  intros;unfold yh rZ;first | (simp only [la,fa,iB,bB,oL,oX,nB,Option.bind_some]) | rfl
def KW (n:Nat):Hint Out:={ live:=fun c=>[],run:=fun c=>none,xm:=fun c q=>none }
theorem ddb (n:Nat):ra tys (ja Out (KT n)) (KW n) n (ia Tryz.f74) 0:=na (fun _=>rfl) _ _ (by kernel_rfl)
theorem Ufb (n:Nat):Enters Tryz.prog 74:=enters_of (c:=ia Tryz.f74) Tryz.func74 (by kernel_rfl) (by kernel_rfl)
def ibb (n:Nat):Entry:=⟨74,pcT K11 (.one .bool) (fun xs=>yh n xs.1),none,none⟩
theorem bib (n:Nat):EntryOk Tryz.prog gl (ibb n):=Aa (Ufb n) fun xs y h=>oa tys_ok (wO n) mixed (hint:=KW n) (n:=n) Tryz.func74 (Ba (ddb n)) (ma (φ:=(fun y=>some (Out.ret (rb (.one .bool) y)))) (by kernel_rfl) (Dkb n xs.1 _) h)
def sZ (n:Nat):List Entry:=ibb n::KT n
theorem yT (n:Nat):AllOk Tryz.prog gl (sZ n):=.cons (bib n) (wO n)
end
end Go.Proofs.YtdohilmgblkppaaGreatDoor.AM
