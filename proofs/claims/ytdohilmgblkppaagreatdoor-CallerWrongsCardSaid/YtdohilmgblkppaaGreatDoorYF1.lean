/- Typed functions that tell what the Go functions of this seat answer, and proofs of it, by program (gen.py). -/
import Derived.Test.YtdohilmgblkppaaGreatDoorYF0
set_option linter.all false
set_option linter.unusedVariables false
set_option linter.unusedSimpArgs false
set_option maxRecDepth 1000000
set_option maxHeartbeats 0
namespace Go.Proofs.YtdohilmgblkppaaGreatDoor.AM
open Go Go.RowKit
noncomputable section
def Ef (n:Nat) {R:Type} (s1 sep1:BA) (sepSave1 n01 i:Int) (a:(Sq BA)) (kn:BA→BA→Int→Int→Int→(Sq BA)→Option R) (ko:(BA×Int×(Sq BA))→Option R) (kr:Unit→Option R) (kp:Int→Option R):Option R:=if (decide (i<n01))=true then (Dl n s1 sep1).bind fun v1=>if (decide (v1<(0:Int)))=true then ko (s1,i,a) else if 0≤(IntKind.wrap .i64 (v1+sepSave1))∧(IntKind.wrap .i64 (v1+sepSave1))≤(s1.size:Int) then if 0≤i∧i<(a.n:Int) then if 0≤(IntKind.wrap .i64 (v1+(sep1.size:Int)))∧(IntKind.wrap .i64 (v1+(sep1.size:Int)))≤(s1.size:Int) then kn (s1.extract (Int.toNat (IntKind.wrap .i64 (v1+(sep1.size:Int)))) (Int.toNat (s1.size:Int))) sep1 sepSave1 n01 (IntKind.wrap .i64 (i+(1:Int))) (⟨a.n,fun q=>if q=(Int.toNat i)∧q<a.n then (s1.extract (Int.toNat (0:Int)) (Int.toNat (IntKind.wrap .i64 (v1+sepSave1)))) else a.at' q⟩:Sq BA) else none else none else none else ko (s1,i,a)
def fb (n:Nat):Nat→BA→BA→Int→Int→Int→(Sq BA)→Option (Lx (BA×Int×(Sq BA)) Unit)
 | 0,_,_,_,_,_,_=>none
 | m+1,s1,sep1,sepSave1,n01,i,a=>Ef n s1 sep1 sepSave1 n01 i a (fb n m) (fun a=>some (.out a)) (fun a=>some (.ret a)) (fun p=>some (.pan p))
theorem OP (n m:Nat) {S:Type}:∀ s1 sep1 sepSave1 n01 i a (φ:_→Option S),(fb n (m+1) s1 sep1 sepSave1 n01 i a).bind φ=Ef n s1 sep1 sepSave1 n01 i a (fun s1 sep1 sepSave1 n01 i a=>(fb n m s1 sep1 sepSave1 n01 i a).bind φ) (fun a=>φ (.out a)) (fun a=>φ (.ret a)) (fun p=>φ (.pan p)):=by
  intros;first | (simp only [fb,Ef,ia,ba,iB,bB,oL,oX,nB,Option.bind_some]) | rfl
def Ek:List Sl:=.dat .str::.dat .str::.dat (.int .i64)::.dat (.int .i64)::tp 5 (.row 0::.dat (.int .i64)::tp 55 [])
def Dk:List RS:=[.row 9 1 .str false false]
def pB:List Sl:=.dat .str::tp 8 (.row 0::.dat (.int .i64)::tp 55 [])
def oB:List RS:=[.row 9 1 .str false false]
def Mc (K:XE→List AV→oa→Option Out):Lx (BA×Int×(Sq BA)) Unit→Option Out:=fun x=>onL x (fun a=>Zb pB oB (a.1,(a.2.1,())) (a.2.2,()) (K (.exit 0))) (fun _=>none) (fun _=>none)
def zo (n:Nat) {R:Type} (s sep:BA) (sepSave n0:Int) (k:(Sq BA)→Option R):Option R:=if (n0==(0:Int))=true then k (⟨0,fun _=>ua .str⟩:Sq BA) else if (sep.toList==(⟨#[]⟩:BA).toList)=true then none else if (decide (n0<(0:Int)))=true then (PC n s sep).bind fun v=>if 0≤(if (IntKind.wrap .i64 ((s.size:Int)+(1:Int)))<(IntKind.wrap .i64 (v+(1:Int))) then (IntKind.wrap .i64 ((s.size:Int)+(1:Int))) else (IntKind.wrap .i64 (v+(1:Int))))∧(if (IntKind.wrap .i64 ((s.size:Int)+(1:Int)))<(IntKind.wrap .i64 (v+(1:Int))) then (IntKind.wrap .i64 ((s.size:Int)+(1:Int))) else (IntKind.wrap .i64 (v+(1:Int))))≤(if (IntKind.wrap .i64 ((s.size:Int)+(1:Int)))<(IntKind.wrap .i64 (v+(1:Int))) then (IntKind.wrap .i64 ((s.size:Int)+(1:Int))) else (IntKind.wrap .i64 (v+(1:Int)))) then if Gb (Int.toNat (if (IntKind.wrap .i64 ((s.size:Int)+(1:Int)))<(IntKind.wrap .i64 (v+(1:Int))) then (IntKind.wrap .i64 ((s.size:Int)+(1:Int))) else (IntKind.wrap .i64 (v+(1:Int))))) 16=true then (fb n n s sep sepSave (IntKind.wrap .i64 ((if (IntKind.wrap .i64 ((s.size:Int)+(1:Int)))<(IntKind.wrap .i64 (v+(1:Int))) then (IntKind.wrap .i64 ((s.size:Int)+(1:Int))) else (IntKind.wrap .i64 (v+(1:Int)))) - (1:Int))) (0:Int) (⟨(Int.toNat (if (IntKind.wrap .i64 ((s.size:Int)+(1:Int)))<(IntKind.wrap .i64 (v+(1:Int))) then (IntKind.wrap .i64 ((s.size:Int)+(1:Int))) else (IntKind.wrap .i64 (v+(1:Int))))),fun _=>(⟨#[]⟩:BA)⟩:Sq BA)).bind fun x_1=>onL x_1
 (fun a_2=>if 0≤a_2.2.1∧a_2.2.1<(a_2.2.2.n:Int) then if 0≤(IntKind.wrap .i64 (a_2.2.1+(1:Int)))∧(IntKind.wrap .i64 (a_2.2.1+(1:Int)))≤(a_2.2.2.n:Int) then k (⟨((Int.toNat (IntKind.wrap .i64 (a_2.2.1+(1:Int)))) - (Int.toNat (0:Int))),fun i=>(fun q=>if q=(Int.toNat a_2.2.1)∧q<a_2.2.2.n then a_2.1 else a_2.2.2.at' q) ((Int.toNat (0:Int))+i)⟩:Sq BA) else none else none) (fun _=>none) (fun _=>none) else none else none else if 0≤(if (IntKind.wrap .i64 ((s.size:Int)+(1:Int)))<n0 then (IntKind.wrap .i64 ((s.size:Int)+(1:Int))) else n0)∧(if (IntKind.wrap .i64 ((s.size:Int)+(1:Int)))<n0 then (IntKind.wrap .i64 ((s.size:Int)+(1:Int))) else n0)≤(if (IntKind.wrap .i64 ((s.size:Int)+(1:Int)))<n0 then (IntKind.wrap .i64 ((s.size:Int)+(1:Int))) else n0) then if Gb (Int.toNat (if (IntKind.wrap .i64 ((s.size:Int)+(1:Int)))<n0 then (IntKind.wrap .i64 ((s.size:Int)+(1:Int))) else n0)) 16=true then (fb n n s sep sepSave (IntKind.wrap .i64 ((if (IntKind.wrap .i64 ((s.size:Int)+(1:Int)))<n0 then (IntKind.wrap .i64 ((s.size:Int)+(1:Int))) else n0) - (1:Int))) (0:Int) (⟨(Int.toNat (if (IntKind.wrap .i64 ((s.size:Int)+(1:Int)))<n0 then (IntKind.wrap .i64 ((s.size:Int)+(1:Int))) else n0)),fun _=>(⟨#[]⟩:BA)⟩:Sq BA)).bind fun x_3=>onL x_3 (fun a_4=>if 0≤a_4.2.1∧a_4.2.1<(a_4.2.2.n:Int) then if 0≤(IntKind.wrap .i64 (a_4.2.1+(1:Int)))∧(IntKind.wrap .i64 (a_4.2.1+(1:Int)))≤(a_4.2.2.n:Int) then
 k (⟨((Int.toNat (IntKind.wrap .i64 (a_4.2.1+(1:Int)))) - (Int.toNat (0:Int))),fun i=>(fun q=>if q=(Int.toNat a_4.2.1)∧q<a_4.2.2.n then a_4.1 else a_4.2.2.at' q) ((Int.toNat (0:Int))+i)⟩:Sq BA) else none else none) (fun _=>none) (fun _=>none) else none else none
def nq (n:Nat) (s sep:BA) (sepSave n0:Int):Option (Sq BA):=zo n s sep sepSave n0 some
theorem zZ (n:Nat) {S:Type}:∀ s sep sepSave n0 (φ:_→Option S),(nq n s sep sepSave n0).bind φ=zo n s sep sepSave n0 φ:=by
  intros;unfold nq zo;first | (simp only [ia,ba,iB,bB,oL,oX,nB,Option.bind_some]) | rfl
def Jh (n:Nat):Hint Out:={ live:=fun c=>(cond (Nat.beq c 0) [(0,none),(1,none),(2,none),(3,none),(9,some (.sl .str)),(10,none)] []),run:=fun c=>(cond (Nat.beq c 0) (some (Qf Ek Dk fun σ ρ K=>(fb n n σ.1 σ.2.1 σ.2.2.1 σ.2.2.2.1 σ.2.2.2.2.1 ρ.1).bind (Mc K))) none),xm:=fun c q=>(cond (Nat.beq c 0&&Nat.beq (q.getD 1000000) 0&&q.isSome) (some [(0,none),(9,some (.sl .str)),(10,none)]) (cond (Nat.beq c 1&&Nat.beq (q.getD 1000000) 0&&q.isSome) (some [(0,none),(9,some (.sl .str)),(10,none)]) none)) }
def Ih (n:Nat) (K:XE→List AV→oa→Option Out) (m:Nat) (s1:BA) (sep1:BA) (sepSave1:Int) (n01:Int) (i:Int) (a:(Sq BA)):Option Out:=Dc tys (ja Out (gq n)) (Jh n) n (ta [1,1,1,1,1,1,1,1,0,0,0] (fa Tryz.f164)) 0 Ek Dk K m (s1,(sep1,(sepSave1,(n01,(i,()))))) (a,())
theorem fy (n:Nat) (K:XE→List AV→oa→Option Out):∀ (m:Nat) s1 sep1 sepSave1 n01 i a,Ih n K m s1 sep1 sepSave1 n01 i a=(fb n m s1 sep1 sepSave1 n01 i a).bind (Mc K)
  | 0,_,_,_,_,_,_=>by kernel_rfl
  | m+1,s1,sep1,sepSave1,n01,i,a=>by
    have h1:Ih n K (m+1) s1 sep1 sepSave1 n01 i a=Ef n s1 sep1 sepSave1 n01 i a (Ih n K m) (fun a=>Mc K (.out a)) (fun a=>Mc K (.ret a)) (fun p=>Mc K (.pan p)):=by kernel_rfl
    have h2:Ih n K m=fun s1 sep1 sepSave1 n01 i a=>(fb n m s1 sep1 sepSave1 n01 i a).bind (Mc K):=by
      repeat (refine funext fun _=>?_)
      exact fy n K m _ _ _ _ _ _
    rw [h1,h2];exact (OP n m _ _ _ _ _ _ (Mc K)).symm
theorem XM (n:Nat):ec tys (ja Out (gq n)) (Jh n) n (ta [1,1,1,1,1,1,1,1,0,0,0] (fa Tryz.f164)) 0:=Ba (sp:=Ek) (rp:=Dk) (by kernel_rfl) fun K σ ρ=>fy n K n σ.1 σ.2.1 σ.2.2.1 σ.2.2.2.1 σ.2.2.2.2.1 ρ.1
theorem PP (n:Nat):qa tys (ja Out (gq n)) (Jh n) n (fa Tryz.f164) 0:=⟨aa,⟨⟨aa,⟨⟨aa,aa⟩,aa⟩⟩,⟨⟨aa,⟨⟨aa,aa⟩,aa⟩⟩,⟨⟨aa,⟨aa,aa⟩⟩,⟨aa,⟨aa,⟨aa,⟨aa,⟨⟨XM n,⟨⟨aa,⟨aa,aa⟩⟩,⟨aa,⟨⟨aa,⟨aa,aa⟩⟩,⟨aa,⟨aa,aa⟩⟩⟩⟩⟩⟩,⟨aa,⟨aa,aa⟩⟩⟩⟩⟩⟩⟩⟩⟩⟩⟩
theorem IT (n:Nat):Enters Tryz.prog 164:=enters_of (c:=fa Tryz.f164) Tryz.func164 (by kernel_rfl) (by kernel_rfl)
def ZE (n:Nat):Entry:=⟨164,pcT K7 (.one (.sl .str)) (fun xs=>nq n xs.1 xs.2.1 xs.2.2.1 xs.2.2.2.1),none,none⟩
theorem aW (n:Nat):EntryOk Tryz.prog gl (ZE n):=ya (IT n) fun xs y h=>ma tys_ok (WE n) mixed (hint:=Jh n) (n:=n) Tryz.func164 (za (PP n)) (la (φ:=(fun y=>some (Out.ret (ib (.one (.sl .str)) y)))) (by kernel_rfl) (zZ n xs.1 xs.2.1 xs.2.2.1 xs.2.2.2.1 _) h)
def Xt (n:Nat):List Entry:=ZE n::gq n
theorem Pv (n:Nat):AllOk Tryz.prog gl (Xt n):=.cons (aW n) (WE n)
def TC (n:Nat) {R:Type} (s sep:BA) (k:(Sq BA)→Option R):Option R:=(nq n s sep (0:Int) (-1:Int)).bind fun v=>k v
def SC (n:Nat) (s sep:BA):Option (Sq BA):=TC n s sep some
theorem Ycb (n:Nat) {S:Type}:∀ s sep (φ:_→Option S),(SC n s sep).bind φ=TC n s sep φ:=by
  intros;unfold SC TC;first | (simp only [ia,ba,iB,bB,oL,oX,nB,Option.bind_some]) | rfl
def OK (n:Nat):Hint Out:={ live:=fun c=>[],run:=fun c=>none,xm:=fun c q=>none }
theorem yZ (n:Nat):qa tys (ja Out (Xt n)) (OK n) n (fa Tryz.f142) 0:=na (fun _=>rfl) _ _ (by kernel_rfl)
theorem M5 (n:Nat):Enters Tryz.prog 142:=enters_of (c:=fa Tryz.f142) Tryz.func142 (by kernel_rfl) (by kernel_rfl)
def FT (n:Nat):Entry:=⟨142,pcT (.pair .str (.pair .str .unit)) (.one (.sl .str)) (fun xs=>SC n xs.1 xs.2.1),none,none⟩
theorem D9 (n:Nat):EntryOk Tryz.prog gl (FT n):=ya (M5 n) fun xs y h=>ma tys_ok (Pv n) mixed (hint:=OK n) (n:=n) Tryz.func142 (za (yZ n)) (la (φ:=(fun y=>some (Out.ret (ib (.one (.sl .str)) y)))) (by kernel_rfl) (Ycb n xs.1 xs.2.1 _) h)
def GT (n:Nat):List Entry:=FT n::Xt n
theorem ZV (n:Nat):AllOk Tryz.prog gl (GT n):=.cons (D9 n) (Pv n)
def qB (n:Nat):List Entry:=⟨143,fun {R}=>Ueb (R:=R) 196,none,none⟩::GT n
theorem QK (n:Nat):AllOk Tryz.prog gl (qB n):=.cons Cib (ZV n)
def zg (n:Nat):List Entry:=⟨82,pcT (.pair (.int .i64) .unit) (.one .str) (fun xs=>xeb xs.1),none,none⟩::qB n
theorem Bs (n:Nat):AllOk Tryz.prog gl (zg n):=.cons fjb (QK n)
def Lg (n:Nat) {R:Type} (l t10:(Sq BA)) (t11 t12:Int) (kn:(Sq BA)→(Sq BA)→Int→Int→Option R) (ko:((Sq BA))→Option R) (kr:(Bool)→Option R) (kp:Int→Option R):Option R:=if (decide (t12<t11))=true then if 0≤t12∧t12<(t10.n:Int) then (vgb (t10.at' (Int.toNat t12))).bind fun v1=>if v1.2=true then if (decide (v1.1<(0:Int)))=false then if (decide (v1.1>(255:Int)))=false then (xeb v1.1).bind fun v2=>if (!(v2.toList==(t10.at' (Int.toNat t12)).toList))=true then kr false else kn l t10 t11 (IntKind.wrap .i64 (t12+(1:Int))) else kr false else kr false else kr false else none else ko l
def Ib (n:Nat):Nat→(Sq BA)→(Sq BA)→Int→Int→Option (Lx ((Sq BA)) (Bool))
 | 0,_,_,_,_=>none
 | m+1,l,t10,t11,t12=>Lg n l t10 t11 t12 (Ib n m) (fun a=>some (.out a)) (fun a=>some (.ret a)) (fun p=>some (.pan p))
theorem XQ (n m:Nat) {S:Type}:∀ l t10 t11 t12 (φ:_→Option S),(Ib n (m+1) l t10 t11 t12).bind φ=Lg n l t10 t11 t12 (fun l t10 t11 t12=>(Ib n m l t10 t11 t12).bind φ) (fun a=>φ (.out a)) (fun a=>φ (.ret a)) (fun p=>φ (.pan p)):=by
  intros;first | (simp only [Ib,Lg,ia,ba,iB,bB,oL,oX,nB,Option.bind_some]) | rfl
def jm:List Sl:=.top::.top::.top::.dat (.sl .str)::tp 6 (.dat (.sl .str)::.dat (.int .i64)::.dat (.int .i64)::tp 28 [])
def im:List RS:=[]
def bD:List Sl:=.top::.top::.top::.dat (.sl .str)::tp 37 []
def aD:List RS:=[]
def dD:List Sl:=.top::.top::.dat .bool::tp 38 []
def cD:List RS:=[]
def Zc (K:XE→List AV→oa→Option Out):Lx ((Sq BA)) (Bool)→Option Out:=fun x=>onL x (fun a=>Zb bD aD (a,()) () (K (.exit 0))) (fun a=>Zb dD cD (a,()) () (K .ret)) (fun _=>none)
def Lq (n:Nat) {R:Type} (s:BA) (k:Bool→Option R):Option R:=(SC n s (⟨#[46]⟩:BA)).bind fun v=>(Ib n n v v (v.n:Int) (0:Int)).bind fun x_1=>onL x_1 (fun a_2=>k ((a_2.n:Int)==(4:Int))) (fun a_3=>k a_3) (fun _=>none)
def Uj (n:Nat) (s:BA):Option Bool:=Lq n s some
theorem J0 (n:Nat) {S:Type}:∀ s (φ:_→Option S),(Uj n s).bind φ=Lq n s φ:=by
  intros;unfold Uj Lq;first | (simp only [ia,ba,iB,bB,oL,oX,nB,Option.bind_some]) | rfl
def Gi (n:Nat):Hint Out:={ live:=fun c=>(cond (Nat.beq c 0) [(3,some (.sl .str)),(10,some (.sl .str)),(11,none),(12,none)] []),run:=fun c=>(cond (Nat.beq c 0) (some (Qf jm im fun σ ρ K=>(Ib n n σ.1 σ.2.1 σ.2.2.1 σ.2.2.2.1).bind (Zc K))) none),xm:=fun c q=>(cond (Nat.beq c 0&&Nat.beq (q.getD 1000000) 0&&q.isSome) (some [(3,some (.sl .str))]) (cond (Nat.beq c 1&&q.isNone) (some [(2,none)]) none)) }
def Fi (n:Nat) (K:XE→List AV→oa→Option Out) (m:Nat) (l:(Sq BA)) (t10:(Sq BA)) (t11:Int) (t12:Int):Option Out:=Dc tys (ja Out (zg n)) (Gi n) n (ta [1,1,0,1,0,0] (fa Tryz.f120)) 0 jm im K m (l,(t10,(t11,(t12,())))) ()
theorem gz (n:Nat) (K:XE→List AV→oa→Option Out):∀ (m:Nat) l t10 t11 t12,Fi n K m l t10 t11 t12=(Ib n m l t10 t11 t12).bind (Zc K)
  | 0,_,_,_,_=>by kernel_rfl
  | m+1,l,t10,t11,t12=>by
    have h1:Fi n K (m+1) l t10 t11 t12=Lg n l t10 t11 t12 (Fi n K m) (fun a=>Zc K (.out a)) (fun a=>Zc K (.ret a)) (fun p=>Zc K (.pan p)):=by kernel_rfl
    have h2:Fi n K m=fun l t10 t11 t12=>(Ib n m l t10 t11 t12).bind (Zc K):=by
      repeat (refine funext fun _=>?_)
      exact gz n K m _ _ _ _
    rw [h1,h2];exact (XQ n m _ _ _ _ (Zc K)).symm
theorem PO (n:Nat):ec tys (ja Out (zg n)) (Gi n) n (ta [1,1,0,1,0,0] (fa Tryz.f120)) 0:=Ba (sp:=jm) (rp:=im) (by kernel_rfl) fun K σ ρ=>gz n K n σ.1 σ.2.1 σ.2.2.1 σ.2.2.2.1
theorem YQ (n:Nat):qa tys (ja Out (zg n)) (Gi n) n (fa Tryz.f120) 0:=⟨aa,⟨aa,⟨⟨aa,⟨PO n,⟨aa,⟨⟨aa,aa⟩,⟨⟨aa,⟨aa,⟨aa,⟨⟨aa,aa⟩,aa⟩⟩⟩⟩,aa⟩⟩⟩⟩⟩,⟨aa,aa⟩⟩⟩⟩
theorem zU (n:Nat):Enters Tryz.prog 120:=enters_of (c:=fa Tryz.f120) Tryz.func120 (by kernel_rfl) (by kernel_rfl)
def VH (n:Nat):Entry:=⟨120,pcT (.pair .str .unit) (.one .bool) (fun xs=>Uj n xs.1),none,none⟩
theorem WH (n:Nat):EntryOk Tryz.prog gl (VH n):=ya (zU n) fun xs y h=>ma tys_ok (Bs n) mixed (hint:=Gi n) (n:=n) Tryz.func120 (za (YQ n)) (la (φ:=(fun y=>some (Out.ret (ib (.one .bool) y)))) (by kernel_rfl) (J0 n xs.1 _) h)
def lw (n:Nat):List Entry:=VH n::zg n
theorem Gx (n:Nat):AllOk Tryz.prog gl (lw n):=.cons (WH n) (Bs n)
def kI (n:Nat) {R:Type} (c:Int) (k:Bool→Option R):Option R:=if (decide (c≥(97:Int)))=true then if (decide (c≤(122:Int)))=false then if (decide (c≥(48:Int)))=true then k (decide (c≤(57:Int))) else k false else k true else if (decide (c≥(48:Int)))=true then k (decide (c≤(57:Int))) else k false
def oF (n:Nat) (c:Int):Option Bool:=kI n c some
theorem Kdb (n:Nat) {S:Type}:∀ c (φ:_→Option S),(oF n c).bind φ=kI n c φ:=by
  intros;unfold oF kI;first | (simp only [ia,ba,iB,bB,oL,oX,nB,Option.bind_some]) | rfl
def ON (n:Nat):Hint Out:={ live:=fun c=>[],run:=fun c=>none,xm:=fun c q=>none }
theorem R0 (n:Nat):qa tys (ja Out (lw n)) (ON n) n (fa Tryz.f145) 0:=na (fun _=>rfl) _ _ (by kernel_rfl)
theorem m7 (n:Nat):Enters Tryz.prog 145:=enters_of (c:=fa Tryz.f145) Tryz.func145 (by kernel_rfl) (by kernel_rfl)
def pW (n:Nat):Entry:=⟨145,pcT (.pair (.int .u8) .unit) (.one .bool) (fun xs=>oF n xs.1),none,none⟩
theorem Obb (n:Nat):EntryOk Tryz.prog gl (pW n):=ya (m7 n) fun xs y h=>ma tys_ok (Gx n) mixed (hint:=ON n) (n:=n) Tryz.func145 (za (R0 n)) (la (φ:=(fun y=>some (Out.ret (ib (.one .bool) y)))) (by kernel_rfl) (Kdb n xs.1 _) h)
def Eu (n:Nat):List Entry:=pW n::lw n
theorem lI (n:Nat):AllOk Tryz.prog gl (Eu n):=.cons (Obb n) (Gx n)
def Tj (n:Nat) {R:Type} (s1:BA) (t5 t6:Int) (kn:BA→Int→Int→Option R) (ko:(BA)→Option R) (kr:(Bool)→Option R) (kp:Int→Option R):Option R:=if (decide (t6<t5))=true then if 0≤t6∧t6<(s1.size:Int) then (oF n (bt s1 t6)).bind fun v=>if (!v)=true then if 0≤t6∧t6<(s1.size:Int) then if ((bt s1 t6) !=(45:Int))=false then if (t6==(0:Int))=false then if (t6==(IntKind.wrap .i64 ((s1.size:Int) - (1:Int))))=true then kr false else kn s1 t5 (IntKind.wrap .i64 (t6+(1:Int))) else kr false else kr false else none else kn s1 t5 (IntKind.wrap .i64 (t6+(1:Int))) else none else ko s1
def Yc (n:Nat):Nat→BA→Int→Int→Option (Lx (BA) (Bool))
 | 0,_,_,_=>none
 | m+1,s1,t5,t6=>Tj n s1 t5 t6 (Yc n m) (fun a=>some (.out a)) (fun a=>some (.ret a)) (fun p=>some (.pan p))
theorem qX (n m:Nat) {S:Type}:∀ s1 t5 t6 (φ:_→Option S),(Yc n (m+1) s1 t5 t6).bind φ=Tj n s1 t5 t6 (fun s1 t5 t6=>(Yc n m s1 t5 t6).bind φ) (fun a=>φ (.out a)) (fun a=>φ (.ret a)) (fun p=>φ (.pan p)):=by
  intros;first | (simp only [Yc,Tj,ia,ba,iB,bB,oL,oX,nB,Option.bind_some]) | rfl
def Ss:List Sl:=.dat .str::tp 4 (.dat (.int .i64)::.dat (.int .i64)::tp 33 [])
def Rs:List RS:=[]
def SH:List Sl:=.dat .str::tp 39 []
def RH:List RS:=[]
def UH:List Sl:=.top::.top::.dat .bool::tp 37 []
def TH:List RS:=[]
def De (K:XE→List AV→oa→Option Out):Lx (BA) (Bool)→Option Out:=fun x=>onL x (fun a=>Zb SH RH (a,()) () (K (.exit 0))) (fun a=>Zb UH TH (a,()) () (K .ret)) (fun _=>none)
def UB (n:Nat) {R:Type} (s:BA) (k:Bool→Option R):Option R:=(Yc n n s (s.size:Int) (0:Int)).bind fun x_1=>onL x_1 (fun a_2=>if (decide ((a_2.size:Int)≥(1:Int)))=true then k (decide ((a_2.size:Int)≤(63:Int))) else k false) (fun a_3=>k a_3) (fun _=>none)
def Kq (n:Nat) (s:BA):Option Bool:=UB n s some
theorem Jbb (n:Nat) {S:Type}:∀ s (φ:_→Option S),(Kq n s).bind φ=UB n s φ:=by
  intros;unfold Kq UB;first | (simp only [ia,ba,iB,bB,oL,oX,nB,Option.bind_some]) | rfl
def tn (n:Nat):Hint Out:={ live:=fun c=>(cond (Nat.beq c 0) (lv [0,5,6]) []),run:=fun c=>(cond (Nat.beq c 0) (some (Qf Ss Rs fun σ ρ K=>(Yc n n σ.1 σ.2.1 σ.2.2.1).bind (De K))) none),xm:=fun c q=>(cond (Nat.beq c 0&&Nat.beq (q.getD 1000000) 0&&q.isSome) (some [(0,none)]) (cond (Nat.beq c 1&&q.isNone) (some [(2,none)]) none)) }
def sn (n:Nat) (K:XE→List AV→oa→Option Out) (m:Nat) (s1:BA) (t5:Int) (t6:Int):Option Out:=Dc tys (ja Out (Eu n)) (tn n) n (ta [1,0,1,0,0] (fa Tryz.f122)) 0 Ss Rs K m (s1,(t5,(t6,()))) ()
theorem QH (n:Nat) (K:XE→List AV→oa→Option Out):∀ (m:Nat) s1 t5 t6,sn n K m s1 t5 t6=(Yc n m s1 t5 t6).bind (De K)
  | 0,_,_,_=>by kernel_rfl
  | m+1,s1,t5,t6=>by
    have h1:sn n K (m+1) s1 t5 t6=Tj n s1 t5 t6 (sn n K m) (fun a=>De K (.out a)) (fun a=>De K (.ret a)) (fun p=>De K (.pan p)):=by kernel_rfl
    have h2:sn n K m=fun s1 t5 t6=>(Yc n m s1 t5 t6).bind (De K):=by
      repeat (refine funext fun _=>?_)
      exact QH n K m _ _ _
    rw [h1,h2];exact (qX n m _ _ _ (De K)).symm
theorem xU (n:Nat):ec tys (ja Out (Eu n)) (tn n) n (ta [1,0,1,0,0] (fa Tryz.f122)) 0:=Ba (sp:=Ss) (rp:=Rs) (by kernel_rfl) fun K σ ρ=>QH n K n σ.1 σ.2.1 σ.2.2.1
theorem rX (n:Nat):qa tys (ja Out (Eu n)) (tn n) n (fa Tryz.f122) 0:=⟨aa,⟨⟨aa,⟨xU n,⟨aa,⟨⟨aa,aa⟩,⟨⟨aa,⟨aa,⟨⟨aa,aa⟩,aa⟩⟩⟩,aa⟩⟩⟩⟩⟩,⟨aa,aa⟩⟩⟩
theorem H0 (n:Nat):Enters Tryz.prog 122:=enters_of (c:=fa Tryz.f122) Tryz.func122 (by kernel_rfl) (by kernel_rfl)
def UQ (n:Nat):Entry:=⟨122,pcT (.pair .str .unit) (.one .bool) (fun xs=>Kq n xs.1),none,none⟩
theorem WQ (n:Nat):EntryOk Tryz.prog gl (UQ n):=ya (H0 n) fun xs y h=>ma tys_ok (lI n) mixed (hint:=tn n) (n:=n) Tryz.func122 (za (rX n)) (la (φ:=(fun y=>some (Out.ret (ib (.one .bool) y)))) (by kernel_rfl) (Jbb n xs.1 _) h)
def VQ (n:Nat):List Entry:=UQ n::Eu n
theorem yU (n:Nat):AllOk Tryz.prog gl (VQ n):=.cons (WQ n) (lI n)
def Xc (n:Nat) (s:BA):Option Bool:=(oe n s).bind fun b=>if b=true then (Be n s ⟨#[93]⟩).bind fun c=>if c=true then (if 2≤(s.size:Int)∧(s.size:Int)≤9223372036854775807 then Uj n (s.extract 1 (s.size - 1)) else none) else some false else Dom.domT (fun x=>Dl n x Dom.dot) (Kq n) n s
theorem tU:Tryz.prog.funcs[90]?=some Tryz.f90:=by kernel_rfl
theorem uU (n:Nat):EntryOk Tryz.prog gl ⟨90,pcT (.pair .str .unit) (.one .bool) (fun xs=>Xc n xs.1),none,none⟩:=ya (enters_of (c:=fa Tryz.f90) tU (by kernel_rfl) (by kernel_rfl)) fun xs y h=>by
  refine oQ (args:=[.string xs.1]) (v:=.bool y) (fun w0 hg hn=>?_)
  have hlit:∀ b,oe n xs.1=some b→∀ (w:World),Below w0.heap.size w0 w→Calls Tryz.prog 118 #[.string xs.1] w fun e w'=>e=.returned (.bool b)∧Below w.heap.size w w':=fun b hb' w hb=>
    HI (bz n) (args:=[.string xs.1]) (v:=.bool b) (by show (oe n xs.1).bind _=_;rw [hb'];rfl) hg hn hb
  have hsuf:∀ b,Be n xs.1 ⟨#[93]⟩=some b→∀ (w:World),Below w0.heap.size w0 w→Calls Tryz.prog 119 #[.string xs.1,.string ⟨#[93]⟩] w fun e w'=>e=.returned (.bool b)∧Below w.heap.size w w':=fun b hb' w hb=>
    HI (kB n) (args:=[.string xs.1,.string ⟨#[93]⟩]) (v:=.bool b) (by show (Be n xs.1 ⟨#[93]⟩).bind _=_;rw [hb'];rfl) hg hn hb
  unfold Xc at h
  obtain ⟨b,hb,h⟩:=Option.bind_eq_some_iff.1 h
  cases b with
  | true=>
    rw [if_pos rfl] at h
    obtain ⟨c,hc,h⟩:=Option.bind_eq_some_iff.1 h
    refine Dom.dom2 xs.1 c y w0 (hlit true hb) (hsuf c hc) (fun hc'=>?_) (fun hc'=>?_)
    · rw [if_pos hc'] at h
      split at h
      · rename_i hsz
        exact ⟨hsz,fun w hbw=>HI (WH n) (args:=[.string (xs.1.extract 1 (xs.1.size - 1))]) (v:=.bool y) (by show (Uj n (xs.1.extract 1 (xs.1.size - 1))).bind _=_;rw [h];rfl) hg hn hbw⟩
      · cases h
    · rw [if_neg (by rw [hc'];simp)] at h
      exact (Option.some.inj h).symm
  | false=>
    rw [if_neg (by simp)] at h
    exact Dom.dom1 _ _ n xs.1 y w0 (fun x i w hbw hx=>HI (ET n) (args:=[.string x,.string Dom.dot]) (v:=.int .i64 i) (by show (Dl n x Dom.dot).bind _=_;rw [hx];rfl) hg hn hbw)
      (fun x i w hbw hx=>HI (WQ n) (args:=[.string x]) (v:=.bool i) (by show (Kq n x).bind _=_;rw [hx];rfl) hg hn hbw) (hlit false hb) h
def Qs (n:Nat):List Entry:=⟨90,pcT (.pair .str .unit) (.one .bool) (fun xs=>Xc n xs.1),none,none⟩::VQ n
theorem Bu (n:Nat):AllOk Tryz.prog gl (Qs n):=.cons (uU n) (yU n)
def yI (n:Nat) {R:Type} (s:BA) (k:Bool→Option R):Option R:=if (decide ((s.size:Int)≤(200:Int)))=true then (Xc n s).bind fun v=>k v else k false
def Wj (n:Nat) (s:BA):Option Bool:=yI n s some
theorem Sdb (n:Nat) {S:Type}:∀ s (φ:_→Option S),(Wj n s).bind φ=yI n s φ:=by
  intros;unfold Wj yI;first | (simp only [ia,ba,iB,bB,oL,oX,nB,Option.bind_some]) | rfl
def XN (n:Nat):Hint Out:={ live:=fun c=>[],run:=fun c=>none,xm:=fun c q=>none }
theorem Y1 (n:Nat):qa tys (ja Out (Qs n)) (XN n) n (fa Tryz.f65) 0:=na (fun _=>rfl) _ _ (by kernel_rfl)
theorem F7 (n:Nat):Enters Tryz.prog 65:=enters_of (c:=fa Tryz.f65) Tryz.func65 (by kernel_rfl) (by kernel_rfl)
def wW (n:Nat):Entry:=⟨65,pcT (.pair .str .unit) (.one .bool) (fun xs=>Wj n xs.1),none,none⟩
theorem Xbb (n:Nat):EntryOk Tryz.prog gl (wW n):=ya (F7 n) fun xs y h=>ma tys_ok (Bu n) mixed (hint:=XN n) (n:=n) Tryz.func65 (za (Y1 n)) (la (φ:=(fun y=>some (Out.ret (ib (.one .bool) y)))) (by kernel_rfl) (Sdb n xs.1 _) h)
def ML (n:Nat):List Entry:=wW n::Qs n
theorem zI (n:Nat):AllOk Tryz.prog gl (ML n):=.cons (Xbb n) (Bu n)
def mQ (n:Nat) {R:Type} (m0:U0) (k:BA→Option R):Option R:=if yg m0.1 (⟨#[64]⟩:BA)=true then if yg (m0.1++(⟨#[64]⟩:BA)) m0.2.1=true then k ((m0.1++(⟨#[64]⟩:BA))++m0.2.1) else none else none
def jW (n:Nat) (m0:U0):Option BA:=mQ n m0 some
theorem tgb (n:Nat) {S:Type}:∀ m0 (φ:_→Option S),(jW n m0).bind φ=mQ n m0 φ:=by
  intros;unfold jW mQ;first | (simp only [ia,ba,iB,bB,oL,oX,nB,Option.bind_some]) | rfl
def RQ (n:Nat):Hint Out:={ live:=fun c=>[],run:=fun c=>none,xm:=fun c q=>none }
theorem W6 (n:Nat):qa tys (ja Out (ML n)) (RQ n) n (fa Tryz.f124) 0:=na (fun _=>rfl) _ _ (by kernel_rfl)
theorem Dbb (n:Nat):Enters Tryz.prog 124:=enters_of (c:=fa Tryz.f124) Tryz.func124 (by kernel_rfl) (by kernel_rfl)
def B0 (n:Nat):Entry:=⟨124,pcT (.pair (.pair .str (.pair .str .unit)) .unit) (.one .str) (fun xs=>jW n xs.1),none,none⟩
theorem Gdb (n:Nat):EntryOk Tryz.prog gl (B0 n):=ya (Dbb n) fun xs y h=>ma tys_ok (zI n) mixed (hint:=RQ n) (n:=n) Tryz.func124 (za (W6 n)) (la (φ:=(fun y=>some (Out.ret (ib (.one .str) y)))) (by kernel_rfl) (tgb n xs.1 _) h)
def QQ (n:Nat):List Entry:=B0 n::ML n
theorem cz (n:Nat):AllOk Tryz.prog gl (QQ n):=.cons (Gdb n) (zI n)
def YH (n:Nat) {R:Type} (ok:Bool) (k:(Unit)→Option R) (kp:Int→Option R):Option R:=if (!ok)=true then kp (8:Int) else k ()
def tb (n:Nat) (ok:Bool):Option (Except Int (Unit)):=YH n ok (fun y=>some (.ok y)) (fun p=>some (.error p))
theorem M0 (n:Nat) {S:Type}:∀ ok (φ:_→Option S),(tb n ok).bind φ=YH n ok (fun y=>φ (.ok y)) (fun p=>φ (.error p)):=by
  intros;unfold tb YH;first | (simp only [ia,ba,iB,bB,oL,oX,nB,Option.bind_some]) | rfl
def iz (n:Nat):Hint Out:={ live:=fun c=>[],run:=fun c=>none,xm:=fun c q=>none }
theorem LN (n:Nat):qa tys (ja Out (QQ n)) (iz n) n (fa Tryz.f170) 0:=na (fun _=>rfl) _ _ (by kernel_rfl)
theorem g7 (n:Nat):Enters Tryz.prog 170:=enters_of (c:=fa Tryz.f170) Tryz.func170 (by kernel_rfl) (by kernel_rfl)
def nW (n:Nat):Entry:=⟨170,pcX 174 (.pair .bool .unit) (.many .unit) (fun xs=>tb n xs.1),none,none⟩
theorem Kbb (n:Nat):EntryOk Tryz.prog gl (nW n):=TI (g7 n) (fun xs y h=>ma tys_ok (cz n) mixed (hint:=iz n) (n:=n) Tryz.func170 (za (LN n)) (la (φ:=(fun r=>onX r (fun p=>some (Out.pan (lh 174 p))) fun y=>some (Out.ret (ib (.many .unit) y)))) (by kernel_rfl) (M0 n xs.1 _) h)) (fun xs p h=>ma tys_ok (cz n) mixed (hint:=iz n) (n:=n) Tryz.func170 (za (LN n)) (la (φ:=(fun r=>onX r (fun p=>some (Out.pan (lh 174 p))) fun y=>some (Out.ret (ib (.many .unit) y)))) (by kernel_rfl) (M0 n xs.1 _) h))
def BL (n:Nat):List Entry:=nW n::QQ n
theorem ZH (n:Nat):AllOk Tryz.prog gl (BL n):=.cons (Kbb n) (cz n)
def zl (n:Nat) {R:Type} (k:(BA×Unit)→Option R):Option R:=if ((0:Nat):Int)=0 then k ((⟨#[]⟩:BA),()) else none
def Bi (n:Nat):Option (BA×Unit):=zl n some
theorem TV (n:Nat) {S:Type}:∀ (φ:_→Option S),(Bi n).bind φ=zl n φ:=by
  intros;unfold Bi zl;first | (simp only [ia,ba,iB,bB,oL,oX,nB,Option.bind_some]) | rfl
def Iv (n:Nat):Hint OutS:={ live:=fun c=>[],run:=fun c=>none,xm:=fun c q=>none,sch:=fun c=>(cond (Nat.beq c 1) (some [(0,0),(1,0),(2,0),(5,0),(6,0),(7,0),(3,1),(8,1),(9,0),(4,3),(10,2),(11,0)]) none) }
theorem LM (n:Nat):qa tys (ja OutS (BL n)) (Iv n) n (fa Tryz.f83) 0:=na (fun _=>rfl) _ _ (by kernel_rfl)
theorem yP (n:Nat):Enters Tryz.prog 83:=enters_of (c:=fa Tryz.f83) Tryz.func83 (by kernel_rfl) (by kernel_rfl)
def WA:List RSp:=[.one (.ptr 0 0 0)]
def VA:List RS:=[.box 108 2 true [.cn .nilp,.cn .nils]]
def zP:List Sl:=[.ptr 0 0 0]
def AP:List RSp:=[.one (.dat .str)]
def Gh:List RS:=[.box 108 2 true [.cn .nilp,.cn .nils]]
def Rt (y:(BA×Unit)):OutS:=⟨false,lp (Wc Gh ((),())) zP (),tH (kE (Wc Gh ((),())) AP ((y.1,()),())),dw (Wc Gh ((),())) Gh ((),())⟩
theorem nT (n:Nat):EntryOk Tryz.prog gl ⟨83,me,none,some (csT WA VA (fun σ ρ=>Bi n) Rt)⟩:=qe (yP n) fun σ ρ y h=>Bb tys_ok (ZH n) mixed (hint:=Iv n) (n:=n) Tryz.func83 (za (LM n)) (la (φ:=fun y=>some (Rt y)) (by kernel_rfl) (TV n _) h)
def UA (n:Nat):List Entry:=⟨83,me,none,some (csT WA VA (fun σ ρ=>Bi n) Rt)⟩::BL n
theorem zK (n:Nat):AllOk Tryz.prog gl (UA n):=.cons (nT n) (ZH n)
theorem Pu:Tryz.prog.funcs[137]?=some Tryz.f137:=by kernel_rfl
theorem Qu:EntryOk Tryz.prog gl ⟨137,me,some .ident,none⟩:=jV Pu (by kernel_rfl) (by kernel_rfl) (by kernel_rfl) (by kernel_rfl)
def be (n:Nat):List Entry:=⟨137,me,some .ident,none⟩::UA n
theorem bg (n:Nat):AllOk Tryz.prog gl (be n):=.cons Qu (zK n)
def zk (n:Nat) {R:Type} (k:Unit→Option R):Option R:=k ()
def ug (n:Nat):Option Unit:=zk n some
theorem PM (n:Nat) {S:Type}:∀ (φ:_→Option S),(ug n).bind φ=zk n φ:=by
  intros;unfold ug zk;first | (simp only [ia,ba,iB,bB,oL,oX,nB,Option.bind_some]) | rfl
def Rm (n:Nat):Hint OutS:={ live:=fun c=>[],run:=fun c=>none,xm:=fun c q=>none }
theorem AD (n:Nat):qa tys (ja OutS (be n)) (Rm n) n (fa Tryz.f113) 0:=na (fun _=>rfl) _ _ (by kernel_rfl)
theorem lH (n:Nat):Enters Tryz.prog 113:=enters_of (c:=fa Tryz.f113) Tryz.func113 (by kernel_rfl) (by kernel_rfl)
def Zr:List RSp:=[.one (.ptr 0 0 0)]
def Yr:List RS:=[.box 108 2 true [.cn .nilp,.cn .nils]]
def mH:List Sl:=[.ptr 0 0 0]
def nH:List RSp:=[]
def ff:List RS:=[.box 108 2 false [.ptr 0 0 0,.cn .nils]]
def Ak (y:Unit):OutS:=⟨false,lp (Wc ff ((),())) mH (),tH (kE (Wc ff ((),())) nH ()),dw (Wc ff ((),())) ff ((),())⟩
theorem CK (n:Nat):EntryOk Tryz.prog gl ⟨113,me,none,some (csT Zr Yr (fun σ ρ=>ug n) Ak)⟩:=qe (lH n) fun σ ρ y h=>Bb tys_ok (bg n) mixed (hint:=Rm n) (n:=n) Tryz.func113 (za (AD n)) (la (φ:=fun y=>some (Ak y)) (by kernel_rfl) (PM n _) h)
def qj (n:Nat):List Entry:=⟨113,me,none,some (csT Zr Yr (fun σ ρ=>ug n) Ak)⟩::be n
theorem Wl (n:Nat):AllOk Tryz.prog gl (qj n):=.cons (CK n) (bg n)
def wk (n:Nat) {R:Type} (c:Int) (k:U20→Option R):Option R:=(ug n).bind fun v=>if Gb (0+1) 1=true then k ((⟨(0+1),fun q=>if q<0 then (fun _=>ua (.int .u8)) q else (fun q=>List.getD (α:=Int) [c] q (ua (.int .u8))) (q - 0)⟩:Sq Int),()) else none
def qb (n:Nat) (c:Int):Option U20:=wk n c some
theorem NM (n:Nat) {S:Type}:∀ c (φ:_→Option S),(qb n c).bind φ=wk n c φ:=by
  intros;unfold qb wk;first | (simp only [ia,ba,iB,bB,oL,oX,nB,Option.bind_some]) | rfl
def Pm (n:Nat):Hint OutS:={ live:=fun c=>[],run:=fun c=>none,xm:=fun c q=>none }
theorem yD (n:Nat):qa tys (ja OutS (qj n)) (Pm n) n (fa Tryz.f203) 0:=na (fun _=>rfl) _ _ (by kernel_rfl)
theorem eH (n:Nat):Enters Tryz.prog 203:=enters_of (c:=fa Tryz.f203) Tryz.func203 (by kernel_rfl) (by kernel_rfl)
def Vr:List RSp:=[.one (.ptr 0 0 0),.one (.dat (.int .u8))]
def Ur:List RS:=[.box 108 2 true [.cn .nilp,.cn .nils]]
def fH:List Sl:=[.ptr 0 0 0,.top]
def gH:List RSp:=[.one (.cn .nili)]
def df:List RS:=[.box 108 2 false [.ptr 0 0 0,.row 1],.row 5 1 (.int .u8) true false]
def xk (y:U20):OutS:=⟨false,lp (Wc df ((),(y.1,()))) fH (),tH (kE (Wc df ((),(y.1,()))) gH ((),())),dw (Wc df ((),(y.1,()))) df ((),(y.1,()))⟩
theorem AK (n:Nat):EntryOk Tryz.prog gl ⟨203,me,none,some (csT Vr Ur (fun σ ρ=>qb n σ.2.1.1) xk)⟩:=qe (eH n) fun σ ρ y h=>Bb tys_ok (Wl n) mixed (hint:=Pm n) (n:=n) Tryz.func203 (za (yD n)) (la (φ:=fun y=>some (xk y)) (by kernel_rfl) (NM n σ.2.1.1 _) h)
def pj (n:Nat):List Entry:=⟨203,me,none,some (csT Vr Ur (fun σ ρ=>qb n σ.2.1.1) xk)⟩::qj n
theorem Vl (n:Nat):AllOk Tryz.prog gl (pj n):=.cons (AK n) (Wl n)
def Al (n:Nat) {R:Type} (r1:(Sq Int)) (k:(BA×Unit)→Option R):Option R:=if (r1.n:Int)=(r1.n:Int)∧(r1.n:Int)≤9223372036854775807 then k ((DD r1.n r1.at'),()) else none
def Ae (n:Nat) (r1:(Sq Int)):Option (BA×Unit):=Al n r1 some
theorem UV (n:Nat) {S:Type}:∀ r1 (φ:_→Option S),(Ae n r1).bind φ=Al n r1 φ:=by
  intros;unfold Ae Al;first | (simp only [ia,ba,iB,bB,oL,oX,nB,Option.bind_some]) | rfl
def Jv (n:Nat):Hint OutS:={ live:=fun c=>[],run:=fun c=>none,xm:=fun c q=>none,sch:=fun c=>(cond (Nat.beq c 1) (some [(0,0),(1,0),(2,0),(5,0),(6,0),(7,0),(3,1),(8,1),(9,0),(4,3),(10,2),(11,0)]) none) }
theorem MM (n:Nat):qa tys (ja OutS (pj n)) (Jv n) n (fa Tryz.f83) 0:=na (fun _=>rfl) _ _ (by kernel_rfl)
theorem BP (n:Nat):Enters Tryz.prog 83:=enters_of (c:=fa Tryz.f83) Tryz.func83 (by kernel_rfl) (by kernel_rfl)
def YA:List RSp:=[.one (.ptr 0 0 0)]
def XA:List RS:=[.box 108 2 false [.ptr 0 0 0,.row 1],.row 5 1 (.int .u8) true false]
def CP:List Sl:=[.ptr 0 0 0]
def DP:List RSp:=[.one (.dat .str)]
def Hh:List RS:=[.box 108 2 false [.ptr 0 0 0,.top]]
def Tt (y:(BA×Unit)):OutS:=⟨false,lp (Wc Hh ((),())) CP (),tH (kE (Wc Hh ((),())) DP ((y.1,()),())),dw (Wc Hh ((),())) Hh ((),())⟩
theorem oT (n:Nat):EntryOk Tryz.prog gl ⟨83,me,none,some (csT YA XA (fun σ ρ=>Ae n ρ.2.1) Tt)⟩:=qe (BP n) fun σ ρ y h=>Bb tys_ok (Vl n) mixed (hint:=Jv n) (n:=n) Tryz.func83 (za (MM n)) (la (φ:=fun y=>some (Tt y)) (by kernel_rfl) (UV n ρ.2.1 _) h)
def cq (n:Nat):List Entry:=⟨83,me,none,some (csT YA XA (fun σ ρ=>Ae n ρ.2.1) Tt)⟩::pj n
theorem Tr (n:Nat):AllOk Tryz.prog gl (cq n):=.cons (oT n) (Vl n)
def Tg (n:Nat) {R:Type} (r1:(Sq Int)) (k:U20→Option R):Option R:=k (r1,())
def ie (n:Nat) (r1:(Sq Int)):Option U20:=Tg n r1 some
theorem QM (n:Nat) {S:Type}:∀ r1 (φ:_→Option S),(ie n r1).bind φ=Tg n r1 φ:=by
  intros;unfold ie Tg;first | (simp only [ia,ba,iB,bB,oL,oX,nB,Option.bind_some]) | rfl
def Sm (n:Nat):Hint OutS:={ live:=fun c=>[],run:=fun c=>none,xm:=fun c q=>none }
theorem BD (n:Nat):qa tys (ja OutS (cq n)) (Sm n) n (fa Tryz.f113) 0:=na (fun _=>rfl) _ _ (by kernel_rfl)
theorem oH (n:Nat):Enters Tryz.prog 113:=enters_of (c:=fa Tryz.f113) Tryz.func113 (by kernel_rfl) (by kernel_rfl)
def ks:List RSp:=[.one (.ptr 0 0 0)]
def js:List RS:=[.box 108 2 false [.ptr 0 0 0,.row 1],.row 5 1 (.int .u8) true false]
def pH:List Sl:=[.ptr 0 0 0]
def qH:List RSp:=[]
def gf:List RS:=[.box 108 2 false [.ptr 0 0 0,.row 1],.row 5 1 (.int .u8) true false]
def Bk (y:U20):OutS:=⟨false,lp (Wc gf ((),(y.1,()))) pH (),tH (kE (Wc gf ((),(y.1,()))) qH ()),dw (Wc gf ((),(y.1,()))) gf ((),(y.1,()))⟩
theorem DK (n:Nat):EntryOk Tryz.prog gl ⟨113,me,none,some (csT ks js (fun σ ρ=>ie n ρ.2.1) Bk)⟩:=qe (oH n) fun σ ρ y h=>Bb tys_ok (Tr n) mixed (hint:=Sm n) (n:=n) Tryz.func113 (za (BD n)) (la (φ:=fun y=>some (Bk y)) (by kernel_rfl) (QM n ρ.2.1 _) h)
def rj (n:Nat):List Entry:=⟨113,me,none,some (csT ks js (fun σ ρ=>ie n ρ.2.1) Bk)⟩::cq n
theorem Xl (n:Nat):AllOk Tryz.prog gl (rj n):=.cons (DK n) (Tr n)
def Sg (n:Nat) {R:Type} (c:Int) (r1:(Sq Int)) (k:U20→Option R):Option R:=(ie n r1).bind fun v=>if Gb (v.1.n+1) 1=true then k ((⟨(v.1.n+1),fun q=>if q<v.1.n then v.1.at' q else (fun q=>List.getD (α:=Int) [c] q (ua (.int .u8))) (q - v.1.n)⟩:Sq Int),()) else none
def Ia (n:Nat) (c:Int) (r1:(Sq Int)):Option U20:=Sg n c r1 some
theorem OM (n:Nat) {S:Type}:∀ c r1 (φ:_→Option S),(Ia n c r1).bind φ=Sg n c r1 φ:=by
  intros;unfold Ia Sg;first | (simp only [ia,ba,iB,bB,oL,oX,nB,Option.bind_some]) | rfl
def Qm (n:Nat):Hint OutS:={ live:=fun c=>[],run:=fun c=>none,xm:=fun c q=>none }
theorem zD (n:Nat):qa tys (ja OutS (rj n)) (Qm n) n (fa Tryz.f203) 0:=na (fun _=>rfl) _ _ (by kernel_rfl)
theorem iH (n:Nat):Enters Tryz.prog 203:=enters_of (c:=fa Tryz.f203) Tryz.func203 (by kernel_rfl) (by kernel_rfl)
def Xr:List RSp:=[.one (.ptr 0 0 0),.one (.dat (.int .u8))]
def Wr:List RS:=[.box 108 2 false [.ptr 0 0 0,.row 1],.row 5 1 (.int .u8) true false]
def jH:List Sl:=[.ptr 0 0 0,.top]
def kH:List RSp:=[.one (.cn .nili)]
def ef:List RS:=[.box 108 2 false [.ptr 0 0 0,.row 1],.row 5 1 (.int .u8) true false]
def yk (y:U20):OutS:=⟨false,lp (Wc ef ((),(y.1,()))) jH (),tH (kE (Wc ef ((),(y.1,()))) kH ((),())),dw (Wc ef ((),(y.1,()))) ef ((),(y.1,()))⟩
theorem BK (n:Nat):EntryOk Tryz.prog gl ⟨203,me,none,some (csT Xr Wr (fun σ ρ=>Ia n σ.2.1.1 ρ.2.1) yk)⟩:=qe (iH n) fun σ ρ y h=>Bb tys_ok (Xl n) mixed (hint:=Qm n) (n:=n) Tryz.func203 (za (zD n)) (la (φ:=fun y=>some (yk y)) (by kernel_rfl) (OM n σ.2.1.1 ρ.2.1 _) h)
def Cd (n:Nat):List Entry:=⟨203,me,none,some (csT Xr Wr (fun σ ρ=>Ia n σ.2.1.1 ρ.2.1) yk)⟩::rj n
theorem tg (n:Nat):AllOk Tryz.prog gl (Cd n):=.cons (BK n) (Xl n)
def Ab (n:Nat) {R:Type} (s1:BA) (i:Int) (r1:(Sq Int)) (kn:BA→Int→(Sq Int)→Option R) (ko:Unit→Option R) (kr:(BA×BA)→Option R) (kp:Int→Option R):Option R:=(tb n (decide (i<(s1.size:Int)))).bind fun x_1=>onX x_1 (fun p3=>kp p3) (fun v5=>if 0≤i∧i<(s1.size:Int) then if ((bt s1 i)==(34:Int))=true then if 0≤(IntKind.wrap .i64 (i+(1:Int)))∧(IntKind.wrap .i64 (i+(1:Int)))≤(s1.size:Int) then (Ae n r1).bind fun v6=>kr (v6.1,(s1.extract (Int.toNat (IntKind.wrap .i64 (i+(1:Int)))) (Int.toNat (s1.size:Int)))) else none else if 0≤i∧i<(s1.size:Int) then if ((bt s1 i)==(92:Int))=true then (tb n (decide ((IntKind.wrap .i64 (i+(1:Int)))<(s1.size:Int)))).bind fun x_2=>onX x_2 (fun p4=>kp p4) (fun v7=>if 0≤(IntKind.wrap .i64 (i+(1:Int)))∧(IntKind.wrap .i64 (i+(1:Int)))<(s1.size:Int) then if (decide ((bt s1 (IntKind.wrap .i64 (i+(1:Int))))≥(32:Int)))=true then if 0≤(IntKind.wrap .i64 (i+(1:Int)))∧(IntKind.wrap .i64 (i+(1:Int)))<(s1.size:Int) then (tb n (decide ((bt s1 (IntKind.wrap .i64 (i+(1:Int))))≤(126:Int)))).bind fun x_3=>onX x_3 (fun p5=>kp p5) (fun v8=>if 0≤(IntKind.wrap .i64 (i+(1:Int)))∧(IntKind.wrap .i64 (i+(1:Int)))<(s1.size:Int) then (Ia n (bt s1 (IntKind.wrap .i64 (i+(1:Int)))) r1).bind fun v9=>
 kn s1 (IntKind.wrap .i64 ((IntKind.wrap .i64 (i+(1:Int)))+(1:Int))) v9.1 else none) else none else (tb n false).bind fun x_4=>onX x_4 (fun p6=>kp p6) (fun v10=>if 0≤(IntKind.wrap .i64 (i+(1:Int)))∧(IntKind.wrap .i64 (i+(1:Int)))<(s1.size:Int) then (Ia n (bt s1 (IntKind.wrap .i64 (i+(1:Int)))) r1).bind fun v11=>kn s1 (IntKind.wrap .i64 ((IntKind.wrap .i64 (i+(1:Int)))+(1:Int))) v11.1 else none) else none) else if 0≤i∧i<(s1.size:Int) then if (decide ((bt s1 i)≥(32:Int)))=true then if 0≤i∧i<(s1.size:Int) then (tb n (decide ((bt s1 i)≤(126:Int)))).bind fun x_5=>onX x_5 (fun p7=>kp p7) (fun v12=>if 0≤i∧i<(s1.size:Int) then (Ia n (bt s1 i) r1).bind fun v13=>kn s1 (IntKind.wrap .i64 (i+(1:Int))) v13.1 else none) else none else (tb n false).bind fun x_6=>onX x_6 (fun p8=>kp p8) (fun v14=>if 0≤i∧i<(s1.size:Int) then (Ia n (bt s1 i) r1).bind fun v15=>kn s1 (IntKind.wrap .i64 (i+(1:Int))) v15.1 else none) else none else none else none)
def Ca (n:Nat):Nat→BA→Int→(Sq Int)→Option (Lx Unit (BA×BA))
 | 0,_,_,_=>none
 | m+1,s1,i,r1=>Ab n s1 i r1 (Ca n m) (fun a=>some (.out a)) (fun a=>some (.ret a)) (fun p=>some (.pan p))
theorem CU (n m:Nat) {S:Type}:∀ s1 i r1 (φ:_→Option S),(Ca n (m+1) s1 i r1).bind φ=Ab n s1 i r1 (fun s1 i r1=>(Ca n m s1 i r1).bind φ) (fun a=>φ (.out a)) (fun a=>φ (.ret a)) (fun p=>φ (.pan p)):=by
  intros;first | (simp only [Ca,Ab,ia,ba,iB,bB,oL,oX,nB,Option.bind_some]) | rfl
def Uo:List Sl:=.dat .str::.top::.top::.top::.ptr 0 0 0::.dat (.int .i64)::tp 42 []
def So:List RS:=[.box 108 2 false [.ptr 0 0 0,.row 1],.row 5 1 (.int .u8) true false]
def nF:List Sl:=.top::.top::.dat .str::.dat .str::tp 44 []
def mF:List RS:=[]
def Gd (K:XE→List AV→oa→Option Out):Lx Unit (BA×BA)→Option Out:=fun x=>onL x (fun _=>none) (fun a=>Zb nF mF (a.1,(a.2,())) () (K .ret)) (fun p=>K (.panic (lh 174 p)) (List.replicate 48 .top) [])
def Fd (n:Nat) {R:Type} (s:BA) (k:(BA×BA×Unit)→Option R) (kp:Int→Option R):Option R:=(tb n (decide ((1:Int)<(s.size:Int)))).bind fun x_1=>onX x_1 (fun p=>kp p) (fun v=>if 0≤(1:Int)∧(1:Int)<(s.size:Int) then if ((bt s (1:Int))==(34:Int))=true then if 0≤(IntKind.wrap .i64 ((1:Int)+(1:Int)))∧(IntKind.wrap .i64 ((1:Int)+(1:Int)))≤(s.size:Int) then (Bi n).bind fun v1=>k (v1.1,((s.extract (Int.toNat (IntKind.wrap .i64 ((1:Int)+(1:Int)))) (Int.toNat (s.size:Int))),())) else none else if 0≤(1:Int)∧(1:Int)<(s.size:Int) then if ((bt s (1:Int))==(92:Int))=true then (tb n (decide ((IntKind.wrap .i64 ((1:Int)+(1:Int)))<(s.size:Int)))).bind fun x_2=>onX x_2 (fun p1=>kp p1) (fun v2=>if 0≤(IntKind.wrap .i64 ((1:Int)+(1:Int)))∧(IntKind.wrap .i64 ((1:Int)+(1:Int)))<(s.size:Int) then if (decide ((bt s (IntKind.wrap .i64 ((1:Int)+(1:Int))))≥(32:Int)))=true then if 0≤(IntKind.wrap .i64 ((1:Int)+(1:Int)))∧(IntKind.wrap .i64 ((1:Int)+(1:Int)))<(s.size:Int) then (tb n (decide ((bt s (IntKind.wrap .i64 ((1:Int)+(1:Int))))≤(126:Int)))).bind fun x_3=>onX x_3 (fun p2=>kp p2) (fun v3=>if 0≤(IntKind.wrap .i64 ((1:Int)+(1:Int)))∧(IntKind.wrap .i64 ((1:Int)+(1:Int)))<(s.size:Int) then (qb n (bt s (IntKind.wrap .i64 ((1:Int)+(1:Int))))).bind fun v4=>
 (Ca n n s (IntKind.wrap .i64 ((IntKind.wrap .i64 ((1:Int)+(1:Int)))+(1:Int))) v4.1).bind fun x_4=>onL x_4 (fun _=>none) (fun a_5=>k (a_5.1,(a_5.2,()))) (fun p9=>kp p9) else none) else none else (tb n false).bind fun x_6=>onX x_6 (fun p10=>kp p10) (fun v16=>if 0≤(IntKind.wrap .i64 ((1:Int)+(1:Int)))∧(IntKind.wrap .i64 ((1:Int)+(1:Int)))<(s.size:Int) then (qb n (bt s (IntKind.wrap .i64 ((1:Int)+(1:Int))))).bind fun v17=>(Ca n n s (IntKind.wrap .i64 ((IntKind.wrap .i64 ((1:Int)+(1:Int)))+(1:Int))) v17.1).bind fun x_7=>onL x_7 (fun _=>none) (fun a_8=>k (a_8.1,(a_8.2,()))) (fun p11=>kp p11) else none) else none) else if 0≤(1:Int)∧(1:Int)<(s.size:Int) then if (decide ((bt s (1:Int))≥(32:Int)))=true then if 0≤(1:Int)∧(1:Int)<(s.size:Int) then (tb n (decide ((bt s (1:Int))≤(126:Int)))).bind fun x_9=>onX x_9 (fun p12=>kp p12) (fun v18=>if 0≤(1:Int)∧(1:Int)<(s.size:Int) then (qb n (bt s (1:Int))).bind fun v19=>(Ca n n s (IntKind.wrap .i64 ((1:Int)+(1:Int))) v19.1).bind fun x_10=>onL x_10 (fun _=>none) (fun a_11=>k (a_11.1,(a_11.2,()))) (fun p13=>kp p13) else none) else none else (tb n false).bind fun x_12=>onX x_12 (fun p14=>kp p14) (fun v20=>if 0≤(1:Int)∧(1:Int)<(s.size:Int) then (qb n (bt s (1:Int))).bind fun v21=>
 (Ca n n s (IntKind.wrap .i64 ((1:Int)+(1:Int))) v21.1).bind fun x_13=>onL x_13 (fun _=>none) (fun a_14=>k (a_14.1,(a_14.2,()))) (fun p15=>kp p15) else none) else none else none else none)
def cd (n:Nat) (s:BA):Option (Except Int (BA×BA×Unit)):=Fd n s (fun y=>some (.ok y)) (fun p=>some (.error p))
theorem dR (n:Nat) {S:Type}:∀ s (φ:_→Option S),(cd n s).bind φ=Fd n s (fun y=>φ (.ok y)) (fun p=>φ (.error p)):=by
  intros;unfold cd Fd;first | (simp only [ia,ba,iB,bB,oL,oX,nB,Option.bind_some]) | rfl
def uh (n:Nat):Hint Out:={ live:=fun c=>(cond (Nat.beq c 0) (lv [0,4,5]) []),run:=fun c=>(cond (Nat.beq c 0) (some (Qf Uo So fun σ ρ K=>(Ca n n σ.1 σ.2.1 ρ.2.1).bind (Gd K))) none),xm:=fun c q=>(cond (Nat.beq c 1&&q.isNone) (some [(2,none),(3,none)]) none),sch:=fun c=>(cond (Nat.beq c 6) (some [(1,0),(2,0),(3,0),(4,0),(0,2),(5,0),(6,0)]) none),pl:=fun c=>Nat.beq c 0 }
def Rk (n:Nat) (K:XE→List AV→oa→Option Out) (m:Nat) (s1:BA) (i:Int) (r1:(Sq Int)):Option Out:=Dc tys (ja Out (Cd n)) (uh n) n (ta [1,1,1,0,0] (fa Tryz.f191)) 0 Uo So K m (s1,(i,())) ((),(r1,()))
theorem XD (n:Nat) (K:XE→List AV→oa→Option Out):∀ (m:Nat) s1 i r1,Rk n K m s1 i r1=(Ca n m s1 i r1).bind (Gd K)
  | 0,_,_,_=>by kernel_rfl
  | m+1,s1,i,r1=>by
    have h1:Rk n K (m+1) s1 i r1=Ab n s1 i r1 (Rk n K m) (fun a=>Gd K (.out a)) (fun a=>Gd K (.ret a)) (fun p=>Gd K (.pan p)):=by kernel_rfl
    have h2:Rk n K m=fun s1 i r1=>(Ca n m s1 i r1).bind (Gd K):=by
      repeat (refine funext fun _=>?_)
      exact XD n K m _ _ _
    rw [h1,h2];exact (CU n m _ _ _ (Gd K)).symm
theorem cR (n:Nat):ec tys (ja Out (Cd n)) (uh n) n (ta [1,1,1,0,0] (fa Tryz.f191)) 0:=Ba (sp:=Uo) (rp:=So) (by kernel_rfl) fun K σ ρ=>XD n K n σ.1 σ.2.1 ρ.2.1
theorem YD (n:Nat):qa tys (ja Out (Cd n)) (uh n) n (fa Tryz.f191) 0:=⟨aa,⟨aa,⟨aa,⟨cR n,⟨⟨aa,⟨⟨aa,⟨⟨aa,aa⟩,aa⟩⟩,⟨⟨aa,⟨⟨aa,aa⟩,aa⟩⟩,⟨aa,aa⟩⟩⟩⟩,aa⟩⟩⟩⟩⟩
theorem xX (n:Nat):Enters Tryz.prog 191:=enters_of (c:=fa Tryz.f191) Tryz.func191 (by kernel_rfl) (by kernel_rfl)
def MN (n:Nat):Entry:=⟨191,pcX 174 (.pair .str .unit) (.many (.pair .str (.pair .str .unit))) (fun xs=>cd n xs.1),none,none⟩
theorem P0 (n:Nat):EntryOk Tryz.prog gl (MN n):=TI (xX n) (fun xs y h=>ma tys_ok (tg n) mixed (hint:=uh n) (n:=n) Tryz.func191 (za (YD n)) (la (φ:=(fun r=>onX r (fun p=>some (Out.pan (lh 174 p))) fun y=>some (Out.ret (ib (.many (.pair .str (.pair .str .unit))) y)))) (by kernel_rfl) (dR n xs.1 _) h)) (fun xs p h=>ma tys_ok (tg n) mixed (hint:=uh n) (n:=n) Tryz.func191 (za (YD n)) (la (φ:=(fun r=>onX r (fun p=>some (Out.pan (lh 174 p))) fun y=>some (Out.ret (ib (.many (.pair .str (.pair .str .unit))) y)))) (by kernel_rfl) (dR n xs.1 _) h))
def jz (n:Nat):List Entry:=MN n::Cd n
theorem kz (n:Nat):AllOk Tryz.prog gl (jz n):=.cons (P0 n) (tg n)
def Fl (n:Nat) {R:Type} (s:BA) (c:Int) (k:Int→Option R):Option R:=(Zf n s c).bind fun v=>k v
def Ce (n:Nat) (s:BA) (c:Int):Option Int:=Fl n s c some
theorem YV (n:Nat) {S:Type}:∀ s c (φ:_→Option S),(Ce n s c).bind φ=Fl n s c φ:=by
  intros;unfold Ce Fl;first | (simp only [ia,ba,iB,bB,oL,oX,nB,Option.bind_some]) | rfl
def Ov (n:Nat):Hint Out:={ live:=fun c=>[],run:=fun c=>none,xm:=fun c q=>none }
theorem VM (n:Nat):qa tys (ja Out (jz n)) (Ov n) n (fa Tryz.f193) 0:=na (fun _=>rfl) _ _ (by kernel_rfl)
theorem MP (n:Nat):Enters Tryz.prog 193:=enters_of (c:=fa Tryz.f193) Tryz.func193 (by kernel_rfl) (by kernel_rfl)
def lB (n:Nat):Entry:=⟨193,pcT (.pair .str (.pair (.int .u8) .unit)) (.one (.int .i64)) (fun xs=>Ce n xs.1 xs.2.1),none,none⟩
theorem BT (n:Nat):EntryOk Tryz.prog gl (lB n):=ya (MP n) fun xs y h=>ma tys_ok (kz n) mixed (hint:=Ov n) (n:=n) Tryz.func193 (za (VM n)) (la (φ:=(fun y=>some (Out.ret (ib (.one (.int .i64)) y)))) (by kernel_rfl) (YV n xs.1 xs.2.1 _) h)
def jq (n:Nat):List Entry:=lB n::jz n
theorem ws (n:Nat):AllOk Tryz.prog gl (jq n):=.cons (BT n) (kz n)
def OH (n:Nat) {R:Type} (c:Int) (k:Bool→Option R):Option R:=(oF n c).bind fun v=>if v=false then if (decide (c≥(65:Int)))=true then if (decide (c≤(90:Int)))=false then (Ce n (⟨#[33,35,36,37,38,39,42,43,45,47,61,63,94,95,96,123,124,125,126]⟩:BA) c).bind fun v1=>k (decide (v1≥(0:Int))) else k true else (Ce n (⟨#[33,35,36,37,38,39,42,43,45,47,61,63,94,95,96,123,124,125,126]⟩:BA) c).bind fun v2=>k (decide (v2≥(0:Int))) else k true
def kF (n:Nat) (c:Int):Option Bool:=OH n c some
theorem Jdb (n:Nat) {S:Type}:∀ c (φ:_→Option S),(kF n c).bind φ=OH n c φ:=by
  intros;unfold kF OH;first | (simp only [ia,ba,iB,bB,oL,oX,nB,Option.bind_some]) | rfl
def KN (n:Nat):Hint Out:={ live:=fun c=>[],run:=fun c=>none,xm:=fun c q=>none }
theorem G0 (n:Nat):qa tys (ja Out (jq n)) (KN n) n (fa Tryz.f204) 0:=na (fun _=>rfl) _ _ (by kernel_rfl)
theorem b7 (n:Nat):Enters Tryz.prog 204:=enters_of (c:=fa Tryz.f204) Tryz.func204 (by kernel_rfl) (by kernel_rfl)
def lW (n:Nat):Entry:=⟨204,pcT (.pair (.int .u8) .unit) (.one .bool) (fun xs=>kF n xs.1),none,none⟩
theorem Ibb (n:Nat):EntryOk Tryz.prog gl (lW n):=ya (b7 n) fun xs y h=>ma tys_ok (ws n) mixed (hint:=KN n) (n:=n) Tryz.func204 (za (G0 n)) (la (φ:=(fun y=>some (Out.ret (ib (.one .bool) y)))) (by kernel_rfl) (Jdb n xs.1 _) h)
def Du (n:Nat):List Entry:=lW n::jq n
theorem PH (n:Nat):AllOk Tryz.prog gl (Du n):=.cons (Ibb n) (ws n)
def Vj (n:Nat) {R:Type} (s1:BA) (word t6 t7:Int) (kn:BA→Int→Int→Int→Option R) (ko:(Int)→Option R) (kr:(Bool)→Option R) (kp:Int→Option R):Option R:=if (decide (t7<t6))=true then if 0≤t7∧t7<(s1.size:Int) then if ((bt s1 t7)==(46:Int))=true then if (word==(0:Int))=false then if 0≤t7∧t7<(s1.size:Int) then if ((bt s1 t7) !=(46:Int))=true then if 0≤t7∧t7<(s1.size:Int) then (kF n (bt s1 t7)).bind fun v=>if (!v)=true then kr false else if 0≤t7∧t7<(s1.size:Int) then if ((bt s1 t7)==(46:Int))=true then kn s1 (0:Int) t6 (IntKind.wrap .i64 (t7+(1:Int))) else kn s1 (IntKind.wrap .i64 (word+(1:Int))) t6 (IntKind.wrap .i64 (t7+(1:Int))) else none else none else if 0≤t7∧t7<(s1.size:Int) then if ((bt s1 t7)==(46:Int))=true then kn s1 (0:Int) t6 (IntKind.wrap .i64 (t7+(1:Int))) else kn s1 (IntKind.wrap .i64 (word+(1:Int))) t6 (IntKind.wrap .i64 (t7+(1:Int))) else none else none else kr false else if 0≤t7∧t7<(s1.size:Int) then if ((bt s1 t7) !=(46:Int))=true then if 0≤t7∧t7<(s1.size:Int) then (kF n (bt s1 t7)).bind fun v1=>if (!v1)=true then kr false else if 0≤t7∧t7<(s1.size:Int) then if ((bt s1 t7)==(46:Int))=true then kn s1 (0:Int) t6 (IntKind.wrap .i64 (t7+(1:Int))) else kn s1 (IntKind.wrap .i64 (word+(1:Int))) t6 (IntKind.wrap .i64 (t7+(1:Int))) else none else none
 else if 0≤t7∧t7<(s1.size:Int) then if ((bt s1 t7)==(46:Int))=true then kn s1 (0:Int) t6 (IntKind.wrap .i64 (t7+(1:Int))) else kn s1 (IntKind.wrap .i64 (word+(1:Int))) t6 (IntKind.wrap .i64 (t7+(1:Int))) else none else none else none else ko word
def bd (n:Nat):Nat→BA→Int→Int→Int→Option (Lx (Int) (Bool))
 | 0,_,_,_,_=>none
 | m+1,s1,word,t6,t7=>Vj n s1 word t6 t7 (bd n m) (fun a=>some (.out a)) (fun a=>some (.ret a)) (fun p=>some (.pan p))
theorem sX (n m:Nat) {S:Type}:∀ s1 word t6 t7 (φ:_→Option S),(bd n (m+1) s1 word t6 t7).bind φ=Vj n s1 word t6 t7 (fun s1 word t6 t7=>(bd n m s1 word t6 t7).bind φ) (fun a=>φ (.out a)) (fun a=>φ (.ret a)) (fun p=>φ (.pan p)):=by
  intros;first | (simp only [bd,Vj,ia,ba,iB,bB,oL,oX,nB,Option.bind_some]) | rfl
def Us:List Sl:=.dat .str::.top::.top::.dat (.int .i64)::.top::.top::.dat (.int .i64)::.dat (.int .i64)::tp 32 []
def Ts:List RS:=[]
def cI:List Sl:=.top::.top::.top::.dat (.int .i64)::tp 36 []
def bI:List RS:=[]
def eI:List Sl:=.top::.top::.dat .bool::tp 37 []
def dI:List RS:=[]
def Ee (K:XE→List AV→oa→Option Out):Lx (Int) (Bool)→Option Out:=fun x=>onL x (fun a=>Zb cI bI (a,()) () (K (.exit 0))) (fun a=>Zb eI dI (a,()) () (K .ret)) (fun _=>none)
def VB (n:Nat) {R:Type} (s:BA) (k:Bool→Option R):Option R:=(bd n n s (0:Int) (s.size:Int) (0:Int)).bind fun x_1=>onL x_1 (fun a_2=>k (decide (a_2>(0:Int)))) (fun a_3=>k a_3) (fun _=>none)
def Mq (n:Nat) (s:BA):Option Bool:=VB n s some
theorem Lbb (n:Nat) {S:Type}:∀ s (φ:_→Option S),(Mq n s).bind φ=VB n s φ:=by
  intros;unfold Mq VB;first | (simp only [ia,ba,iB,bB,oL,oX,nB,Option.bind_some]) | rfl
def vn (n:Nat):Hint Out:={ live:=fun c=>(cond (Nat.beq c 0) (lv [0,3,6,7]) []),run:=fun c=>(cond (Nat.beq c 0) (some (Qf Us Ts fun σ ρ K=>(bd n n σ.1 σ.2.1 σ.2.2.1 σ.2.2.2.1).bind (Ee K))) none),xm:=fun c q=>(cond (Nat.beq c 0&&Nat.beq (q.getD 1000000) 0&&q.isSome) (some [(3,none)]) (cond (Nat.beq c 1&&q.isNone) (some [(2,none)]) none)) }
def un (n:Nat) (K:XE→List AV→oa→Option Out) (m:Nat) (s1:BA) (word:Int) (t6:Int) (t7:Int):Option Out:=Dc tys (ja Out (Du n)) (vn n) n (ta [1,1,0,1,0,0] (fa Tryz.f194)) 0 Us Ts K m (s1,(word,(t6,(t7,())))) ()
theorem aI (n:Nat) (K:XE→List AV→oa→Option Out):∀ (m:Nat) s1 word t6 t7,un n K m s1 word t6 t7=(bd n m s1 word t6 t7).bind (Ee K)
  | 0,_,_,_,_=>by kernel_rfl
  | m+1,s1,word,t6,t7=>by
    have h1:un n K (m+1) s1 word t6 t7=Vj n s1 word t6 t7 (un n K m) (fun a=>Ee K (.out a)) (fun a=>Ee K (.ret a)) (fun p=>Ee K (.pan p)):=by kernel_rfl
    have h2:un n K m=fun s1 word t6 t7=>(bd n m s1 word t6 t7).bind (Ee K):=by
      repeat (refine funext fun _=>?_)
      exact aI n K m _ _ _ _
    rw [h1,h2];exact (sX n m _ _ _ _ (Ee K)).symm
theorem AU (n:Nat):ec tys (ja Out (Du n)) (vn n) n (ta [1,1,0,1,0,0] (fa Tryz.f194)) 0:=Ba (sp:=Us) (rp:=Ts) (by kernel_rfl) fun K σ ρ=>aI n K n σ.1 σ.2.1 σ.2.2.1 σ.2.2.2.1
theorem tX (n:Nat):qa tys (ja Out (Du n)) (vn n) n (fa Tryz.f194) 0:=⟨aa,⟨aa,⟨⟨aa,⟨AU n,⟨aa,⟨⟨aa,aa⟩,⟨⟨aa,⟨⟨aa,⟨⟨aa,aa⟩,aa⟩⟩,⟨aa,⟨aa,⟨aa,aa⟩⟩⟩⟩⟩,aa⟩⟩⟩⟩⟩,⟨aa,aa⟩⟩⟩⟩
theorem N0 (n:Nat):Enters Tryz.prog 194:=enters_of (c:=fa Tryz.f194) Tryz.func194 (by kernel_rfl) (by kernel_rfl)
def aR (n:Nat):Entry:=⟨194,pcT (.pair .str .unit) (.one .bool) (fun xs=>Mq n xs.1),none,none⟩
theorem i7 (n:Nat):EntryOk Tryz.prog gl (aR n):=ya (N0 n) fun xs y h=>ma tys_ok (PH n) mixed (hint:=vn n) (n:=n) Tryz.func194 (za (tX n)) (la (φ:=(fun y=>some (Out.ret (ib (.one .bool) y)))) (by kernel_rfl) (Lbb n xs.1 _) h)
def Ro (n:Nat):List Entry:=aR n::Du n
theorem WD (n:Nat):AllOk Tryz.prog gl (Ro n):=.cons (i7 n) (PH n)
def Rf (n:Nat) {R:Type} (s1:BA) (t10 t11:Int) (r1:(Sq Int)) (kn:BA→Int→Int→(Sq Int)→Option R) (ko:((Sq Int))→Option R) (kr:Unit→Option R) (kp:Int→Option R):Option R:=if (decide (t11<t10))=true then if 0≤t11∧t11<(s1.size:Int) then if ((bt s1 t11)==(34:Int))=false then if 0≤t11∧t11<(s1.size:Int) then if ((bt s1 t11)==(92:Int))=true then (Ia n (92:Int) r1).bind fun v2=>if 0≤t11∧t11<(s1.size:Int) then (Ia n (bt s1 t11) v2.1).bind fun v3=>kn s1 t10 (IntKind.wrap .i64 (t11+(1:Int))) v3.1 else none else if 0≤t11∧t11<(s1.size:Int) then (Ia n (bt s1 t11) r1).bind fun v4=>kn s1 t10 (IntKind.wrap .i64 (t11+(1:Int))) v4.1 else none else none else (Ia n (92:Int) r1).bind fun v5=>if 0≤t11∧t11<(s1.size:Int) then (Ia n (bt s1 t11) v5.1).bind fun v6=>kn s1 t10 (IntKind.wrap .i64 (t11+(1:Int))) v6.1 else none else none else ko r1
def fc (n:Nat):Nat→BA→Int→Int→(Sq Int)→Option (Lx ((Sq Int)) Unit)
 | 0,_,_,_,_=>none
 | m+1,s1,t10,t11,r1=>Rf n s1 t10 t11 r1 (fc n m) (fun a=>some (.out a)) (fun a=>some (.ret a)) (fun p=>some (.pan p))
theorem uX (n m:Nat) {S:Type}:∀ s1 t10 t11 r1 (φ:_→Option S),(fc n (m+1) s1 t10 t11 r1).bind φ=Rf n s1 t10 t11 r1 (fun s1 t10 t11 r1=>(fc n m s1 t10 t11 r1).bind φ) (fun a=>φ (.out a)) (fun a=>φ (.ret a)) (fun p=>φ (.pan p)):=by
  intros;first | (simp only [fc,Rf,ia,ba,iB,bB,oL,oX,nB,Option.bind_some]) | rfl
def Ws:List Sl:=.dat .str::.top::.top::.ptr 0 0 0::tp 6 (.dat (.int .i64)::.dat (.int .i64)::tp 20 [])
def Vs:List RS:=[.box 108 2 false [.ptr 0 0 0,.row 1],.row 5 1 (.int .u8) true false]
def iI:List Sl:=.top::.top::.top::.ptr 0 0 0::tp 28 []
def gI:List RS:=[.box 108 2 false [.ptr 0 0 0,.row 1],.row 5 1 (.int .u8) true false]
def Fe (K:XE→List AV→oa→Option Out):Lx ((Sq Int)) Unit→Option Out:=fun x=>onL x (fun a=>Zb iI gI () ((),(a,())) (K (.exit 0))) (fun _=>none) (fun _=>none)
def XB (n:Nat) {R:Type} (s:BA) (k:BA→Option R):Option R:=(Mq n s).bind fun v=>if v=true then k s else (qb n (34:Int)).bind fun v1=>(fc n n s (s.size:Int) (0:Int) v1.1).bind fun x_1=>onL x_1 (fun a_2=>(Ae n a_2).bind fun v7=>if yg v7.1 (⟨#[34]⟩:BA)=true then k (v7.1++(⟨#[34]⟩:BA)) else none) (fun _=>none) (fun _=>none)
def WB (n:Nat) (s:BA):Option BA:=XB n s some
theorem Mbb (n:Nat) {S:Type}:∀ s (φ:_→Option S),(WB n s).bind φ=XB n s φ:=by
  intros;unfold WB XB;first | (simp only [ia,ba,iB,bB,oL,oX,nB,Option.bind_some]) | rfl
def xn (n:Nat):Hint Out:={ live:=fun c=>(cond (Nat.beq c 0) (lv [0,3,10,11]) []),run:=fun c=>(cond (Nat.beq c 0) (some (Qf Ws Vs fun σ ρ K=>(fc n n σ.1 σ.2.1 σ.2.2.1 ρ.2.1).bind (Fe K))) none),xm:=fun c q=>(cond (Nat.beq c 0&&Nat.beq (q.getD 1000000) 0&&q.isSome) (some [(3,none)]) none) }
def wn (n:Nat) (K:XE→List AV→oa→Option Out) (m:Nat) (s1:BA) (t10:Int) (t11:Int) (r1:(Sq Int)):Option Out:=Dc tys (ja Out (Ro n)) (xn n) n (ta [1,1,1,1,0,1,0,0] (fa Tryz.f192)) 0 Ws Vs K m (s1,(t10,(t11,()))) ((),(r1,()))
theorem fI (n:Nat) (K:XE→List AV→oa→Option Out):∀ (m:Nat) s1 t10 t11 r1,wn n K m s1 t10 t11 r1=(fc n m s1 t10 t11 r1).bind (Fe K)
  | 0,_,_,_,_=>by kernel_rfl
  | m+1,s1,t10,t11,r1=>by
    have h1:wn n K (m+1) s1 t10 t11 r1=Rf n s1 t10 t11 r1 (wn n K m) (fun a=>Fe K (.out a)) (fun a=>Fe K (.ret a)) (fun p=>Fe K (.pan p)):=by kernel_rfl
    have h2:wn n K m=fun s1 t10 t11 r1=>(fc n m s1 t10 t11 r1).bind (Fe K):=by
      repeat (refine funext fun _=>?_)
      exact fI n K m _ _ _ _
    rw [h1,h2];exact (uX n m _ _ _ _ (Fe K)).symm
theorem BU (n:Nat):ec tys (ja Out (Ro n)) (xn n) n (ta [1,1,1,1,0,1,0,0] (fa Tryz.f192)) 0:=Ba (sp:=Ws) (rp:=Vs) (by kernel_rfl) fun K σ ρ=>fI n K n σ.1 σ.2.1 σ.2.2.1 ρ.2.1
theorem vX (n:Nat):qa tys (ja Out (Ro n)) (xn n) n (fa Tryz.f192) 0:=⟨aa,⟨⟨aa,⟨⟨aa,aa⟩,aa⟩⟩,⟨aa,⟨aa,⟨⟨aa,⟨BU n,⟨aa,⟨⟨aa,aa⟩,⟨⟨aa,⟨⟨aa,⟨aa,aa⟩⟩,aa⟩⟩,aa⟩⟩⟩⟩⟩,⟨aa,aa⟩⟩⟩⟩⟩⟩
theorem O0 (n:Nat):Enters Tryz.prog 192:=enters_of (c:=fa Tryz.f192) Tryz.func192 (by kernel_rfl) (by kernel_rfl)
def bR (n:Nat):Entry:=⟨192,pcT (.pair .str .unit) (.one .str) (fun xs=>WB n xs.1),none,none⟩
theorem j7 (n:Nat):EntryOk Tryz.prog gl (bR n):=ya (O0 n) fun xs y h=>ma tys_ok (WD n) mixed (hint:=xn n) (n:=n) Tryz.func192 (za (vX n)) (la (φ:=(fun y=>some (Out.ret (ib (.one .str) y)))) (by kernel_rfl) (Mbb n xs.1 _) h)
def lF (n:Nat):List Entry:=bR n::Ro n
theorem Xs (n:Nat):AllOk Tryz.prog gl (lF n):=.cons (j7 n) (WD n)
def ji (n:Nat) {R:Type} (s:BA) (k:(BA×BA×Unit)→Option R) (kp:Int→Option R):Option R:=(Xb n s (⟨#[34]⟩:BA)).bind fun v=>if v=true then (cd n s).bind fun x_1=>onX x_1 (fun p=>kp p) (fun v1=>(WB n v1.1).bind fun v2=>k (v2,(v1.2.1,()))) else (Ce n s (64:Int)).bind fun v3=>if (decide (v3≥(0:Int)))=true then if 0≤v3∧v3≤(s.size:Int) then (Mq n (s.extract (Int.toNat (0:Int)) (Int.toNat v3))).bind fun v4=>(tb n v4).bind fun x_2=>onX x_2 (fun p1=>kp p1) (fun v5=>if 0≤v3∧v3≤(s.size:Int) then if 0≤v3∧v3≤(s.size:Int) then k ((s.extract (Int.toNat (0:Int)) (Int.toNat v3)),((s.extract (Int.toNat v3) (Int.toNat (s.size:Int))),())) else none else none) else none else (tb n false).bind fun x_3=>onX x_3 (fun p2=>kp p2) (fun v6=>if 0≤v3∧v3≤(s.size:Int) then if 0≤v3∧v3≤(s.size:Int) then k ((s.extract (Int.toNat (0:Int)) (Int.toNat v3)),((s.extract (Int.toNat v3) (Int.toNat (s.size:Int))),())) else none else none)
def Hi (n:Nat) (s:BA):Option (Except Int (BA×BA×Unit)):=ji n s (fun y=>some (.ok y)) (fun p=>some (.error p))
theorem mW (n:Nat) {S:Type}:∀ s (φ:_→Option S),(Hi n s).bind φ=ji n s (fun y=>φ (.ok y)) (fun p=>φ (.error p)):=by
  intros;unfold Hi ji;first | (simp only [ia,ba,iB,bB,oL,oX,nB,Option.bind_some]) | rfl
def mw (n:Nat):Hint Out:={ live:=fun c=>[],run:=fun c=>none,xm:=fun c q=>none }
theorem XH (n:Nat):qa tys (ja Out (lF n)) (mw n) n (fa Tryz.f169) 0:=na (fun _=>rfl) _ _ (by kernel_rfl)
theorem L0 (n:Nat):Enters Tryz.prog 169:=enters_of (c:=fa Tryz.f169) Tryz.func169 (by kernel_rfl) (by kernel_rfl)
def ZQ (n:Nat):Entry:=⟨169,pcX 174 (.pair .str .unit) (.many (.pair .str (.pair .str .unit))) (fun xs=>Hi n xs.1),none,none⟩
theorem d7 (n:Nat):EntryOk Tryz.prog gl (ZQ n):=TI (L0 n) (fun xs y h=>ma tys_ok (Xs n) mixed (hint:=mw n) (n:=n) Tryz.func169 (za (XH n)) (la (φ:=(fun r=>onX r (fun p=>some (Out.pan (lh 174 p))) fun y=>some (Out.ret (ib (.many (.pair .str (.pair .str .unit))) y)))) (by kernel_rfl) (mW n xs.1 _) h)) (fun xs p h=>ma tys_ok (Xs n) mixed (hint:=mw n) (n:=n) Tryz.func169 (za (XH n)) (la (φ:=(fun r=>onX r (fun p=>some (Out.pan (lh 174 p))) fun y=>some (Out.ret (ib (.many (.pair .str (.pair .str .unit))) y)))) (by kernel_rfl) (mW n xs.1 _) h))
def Qo (n:Nat):List Entry:=ZQ n::lF n
theorem VD (n:Nat):AllOk Tryz.prog gl (Qo n):=.cons (d7 n) (Xs n)
def Sf (n:Nat) {R:Type} (t9 t10:Int) (b:(Sq Int)) (kn:Int→Int→(Sq Int)→Option R) (ko:((Sq Int))→Option R) (kr:Unit→Option R) (kp:Int→Option R):Option R:=if (decide (t10<t9))=true then if 0≤t10∧t10<(b.n:Int) then if (decide ((b.at' (Int.toNat t10))≥(65:Int)))=true then if (decide ((b.at' (Int.toNat t10))≤(90:Int)))=true then if 0≤t10∧t10<(b.n:Int) then kn t9 (IntKind.wrap .i64 (t10+(1:Int))) (⟨b.n,fun q=>if q=(Int.toNat t10)∧q<b.n then (IntKind.wrap .u8 ((IntKind.wrap .u8 ((b.at' (Int.toNat t10))+(97:Int))) - (65:Int))) else b.at' q⟩:Sq Int) else none else kn t9 (IntKind.wrap .i64 (t10+(1:Int))) b else kn t9 (IntKind.wrap .i64 (t10+(1:Int))) b else none else ko b
def Jb (n:Nat):Nat→Int→Int→(Sq Int)→Option (Lx ((Sq Int)) Unit)
 | 0,_,_,_=>none
 | m+1,t9,t10,b=>Sf n t9 t10 b (Jb n m) (fun a=>some (.out a)) (fun a=>some (.ret a)) (fun p=>some (.pan p))
theorem yX (n m:Nat) {S:Type}:∀ t9 t10 b (φ:_→Option S),(Jb n (m+1) t9 t10 b).bind φ=Sf n t9 t10 b (fun t9 t10 b=>(Jb n m t9 t10 b).bind φ) (fun a=>φ (.out a)) (fun a=>φ (.ret a)) (fun p=>φ (.pan p)):=by
  intros;first | (simp only [Jb,Sf,ia,ba,iB,bB,oL,oX,nB,Option.bind_some]) | rfl
def Zs:List Sl:=.top::.top::.top::.row 0::tp 4 (.row 0::.dat (.int .i64)::.dat (.int .i64)::tp 19 [])
def Ys:List RS:=[.row 5 1 (.int .u8) false true]
def oI:List Sl:=.top::.top::.top::.row 0::tp 26 []
def nI:List RS:=[.row 5 1 (.int .u8) false true]
def Ge (K:XE→List AV→oa→Option Out):Lx ((Sq Int)) Unit→Option Out:=fun x=>onL x (fun a=>Zb oI nI () (a,()) (K (.exit 0))) (fun _=>none) (fun _=>none)
def YB (n:Nat) {R:Type} (s:BA) (k:BA→Option R):Option R:=(Jb n n (s.size:Int) (0:Int) (⟨s.size,fun q=>bt s q⟩:Sq Int)).bind fun x_1=>onL x_1 (fun a_2=>k (DD a_2.n a_2.at')) (fun _=>none) (fun _=>none)
def yn (n:Nat) (s:BA):Option BA:=YB n s some
theorem Pbb (n:Nat) {S:Type}:∀ s (φ:_→Option S),(yn n s).bind φ=YB n s φ:=by
  intros;unfold yn YB;first | (simp only [ia,ba,iB,bB,oL,oX,nB,Option.bind_some]) | rfl
def An (n:Nat):Hint Out:={ live:=fun c=>(cond (Nat.beq c 0) [(3,some (.sl (.int .u8))),(8,some (.sl (.int .u8))),(9,none),(10,none)] []),run:=fun c=>(cond (Nat.beq c 0) (some (Qf Zs Ys fun σ ρ K=>(Jb n n σ.1 σ.2.1 ρ.1).bind (Ge K))) none),xm:=fun c q=>(cond (Nat.beq c 0&&Nat.beq (q.getD 1000000) 0&&q.isSome) (some [(3,some (.sl (.int .u8)))]) none) }
def zn (n:Nat) (K:XE→List AV→oa→Option Out) (m:Nat) (t9:Int) (t10:Int) (b:(Sq Int)):Option Out:=Dc tys (ja Out (Qo n)) (An n) n (ta [1,1,0,1,0,0] (fa Tryz.f154)) 0 Zs Ys K m (t9,(t10,())) (b,())
theorem mI (n:Nat) (K:XE→List AV→oa→Option Out):∀ (m:Nat) t9 t10 b,zn n K m t9 t10 b=(Jb n m t9 t10 b).bind (Ge K)
  | 0,_,_,_=>by kernel_rfl
  | m+1,t9,t10,b=>by
    have h1:zn n K (m+1) t9 t10 b=Sf n t9 t10 b (zn n K m) (fun a=>Ge K (.out a)) (fun a=>Ge K (.ret a)) (fun p=>Ge K (.pan p)):=by kernel_rfl
    have h2:zn n K m=fun t9 t10 b=>(Jb n m t9 t10 b).bind (Ge K):=by
      repeat (refine funext fun _=>?_)
      exact mI n K m _ _ _
    rw [h1,h2];exact (yX n m _ _ _ (Ge K)).symm
theorem DU (n:Nat):ec tys (ja Out (Qo n)) (An n) n (ta [1,1,0,1,0,0] (fa Tryz.f154)) 0:=Ba (sp:=Zs) (rp:=Ys) (by kernel_rfl) fun K σ ρ=>mI n K n σ.1 σ.2.1 ρ.1
theorem zX (n:Nat):qa tys (ja Out (Qo n)) (An n) n (fa Tryz.f154) 0:=⟨aa,⟨aa,⟨⟨aa,⟨DU n,⟨aa,⟨⟨aa,aa⟩,⟨⟨aa,⟨aa,⟨aa,aa⟩⟩⟩,aa⟩⟩⟩⟩⟩,⟨aa,aa⟩⟩⟩⟩
theorem S0 (n:Nat):Enters Tryz.prog 154:=enters_of (c:=fa Tryz.f154) Tryz.func154 (by kernel_rfl) (by kernel_rfl)
def eR (n:Nat):Entry:=⟨154,pcT (.pair .str .unit) (.one .str) (fun xs=>yn n xs.1),none,none⟩
theorem n7 (n:Nat):EntryOk Tryz.prog gl (eR n):=ya (S0 n) fun xs y h=>ma tys_ok (VD n) mixed (hint:=An n) (n:=n) Tryz.func154 (za (zX n)) (la (φ:=(fun y=>some (Out.ret (ib (.one .str) y)))) (by kernel_rfl) (Pbb n xs.1 _) h)
def pF (n:Nat):List Entry:=eR n::Qo n
theorem ct (n:Nat):AllOk Tryz.prog gl (pF n):=.cons (n7 n) (VD n)
def Gl (n:Nat) {R:Type} (s:BA) (k:U0→Option R) (kp:Int→Option R):Option R:=(Hi n s).bind fun x_1=>onX x_1 (fun p=>kp p) (fun v=>if (decide ((v.1.size:Int)≤(64:Int)))=true then (Xb n v.2.1 (⟨#[64]⟩:BA)).bind fun v1=>(tb n v1).bind fun x_2=>onX x_2 (fun p1=>kp p1) (fun v2=>if 0≤(1:Int)∧(1:Int)≤(v.2.1.size:Int) then (yn n (v.2.1.extract (Int.toNat (1:Int)) (Int.toNat (v.2.1.size:Int)))).bind fun v3=>(Xc n v3).bind fun v4=>(tb n v4).bind fun x_3=>onX x_3 (fun p2=>kp p2) (fun v5=>k (v.1,(v3,()))) else none) else (tb n false).bind fun x_4=>onX x_4 (fun p3=>kp p3) (fun v6=>if 0≤(1:Int)∧(1:Int)≤(v.2.1.size:Int) then (yn n (v.2.1.extract (Int.toNat (1:Int)) (Int.toNat (v.2.1.size:Int)))).bind fun v7=>(Xc n v7).bind fun v8=>(tb n v8).bind fun x_5=>onX x_5 (fun p4=>kp p4) (fun v9=>k (v.1,(v7,()))) else none))
def Vo (n:Nat) (s:BA):Option (Except Int U0):=Gl n s (fun y=>some (.ok y)) (fun p=>some (.error p))
theorem Q0 (n:Nat) {S:Type}:∀ s (φ:_→Option S),(Vo n s).bind φ=Gl n s (fun y=>φ (.ok y)) (fun p=>φ (.error p)):=by
  intros;unfold Vo Gl;first | (simp only [ia,ba,iB,bB,oL,oX,nB,Option.bind_some]) | rfl
def lz (n:Nat):Hint Out:={ live:=fun c=>[],run:=fun c=>none,xm:=fun c q=>none }
theorem NN (n:Nat):qa tys (ja Out (pF n)) (lz n) n (fa Tryz.f147) 0:=na (fun _=>rfl) _ _ (by kernel_rfl)
theorem l7 (n:Nat):Enters Tryz.prog 147:=enters_of (c:=fa Tryz.f147) Tryz.func147 (by kernel_rfl) (by kernel_rfl)
def oW (n:Nat):Entry:=⟨147,pcX 174 (.pair .str .unit) (.one (.pair .str (.pair .str .unit))) (fun xs=>Vo n xs.1),none,none⟩
theorem Nbb (n:Nat):EntryOk Tryz.prog gl (oW n):=TI (l7 n) (fun xs y h=>ma tys_ok (ct n) mixed (hint:=lz n) (n:=n) Tryz.func147 (za (NN n)) (la (φ:=(fun r=>onX r (fun p=>some (Out.pan (lh 174 p))) fun y=>some (Out.ret (ib (.one (.pair .str (.pair .str .unit))) y)))) (by kernel_rfl) (Q0 n xs.1 _) h)) (fun xs p h=>ma tys_ok (ct n) mixed (hint:=lz n) (n:=n) Tryz.func147 (za (NN n)) (la (φ:=(fun r=>onX r (fun p=>some (Out.pan (lh 174 p))) fun y=>some (Out.ret (ib (.one (.pair .str (.pair .str .unit))) y)))) (by kernel_rfl) (Q0 n xs.1 _) h))
def Io (n:Nat):List Entry:=oW n::pF n
theorem jI (n:Nat):AllOk Tryz.prog gl (Io n):=.cons (Nbb n) (ct n)
def Ho (n:Nat) {R:Type} (s:BA) (k:(U0×Int×Unit)→Option R):Option R:=(Vo n s).bind fun x_1=>onX x_1 (fun p=>k (((⟨#[]⟩:BA),((⟨#[]⟩:BA),())),(p,()))) (fun v=>k ((v.1,(v.2.1,())),((0:Int),())))
def qn (n:Nat) (s:BA):Option (U0×Int×Unit):=Ho n s some
theorem Gbb (n:Nat) {S:Type}:∀ s (φ:_→Option S),(qn n s).bind φ=Ho n s φ:=by
  intros;unfold qn Ho;first | (simp only [ia,ba,iB,bB,oL,oX,nB,Option.bind_some]) | rfl
def rn (n:Nat):Hint Out:={ live:=fun c=>[],run:=fun c=>none,xm:=fun c q=>none,pm:=some [(2,none),(3,none)] }
theorem pX (n:Nat):qa tys (ja Out (Io n)) (rn n) n (ta [0] (fa Tryz.f123)) 0∧qa tys (ja Out (Io n)) (rn n) n (ta [1,1] (fa Tryz.f123)) 0:=⟨aa,⟨aa,aa⟩⟩
theorem D0 (n:Nat):Enters Tryz.prog 123:=enters_of (c:=fa Tryz.f123) Tryz.func123 (by kernel_rfl) (by kernel_rfl)
theorem GN:Tryz.prog.funcs[146]?=some Tryz.f146:=by kernel_rfl
theorem nX:Enters Tryz.prog 146:=enters_of (c:=fa Tryz.f146) GN (by kernel_rfl) (by kernel_rfl)
theorem wU (n:Nat):qa tys (ja Out (Io n)) jY n (ta [1] (fa Tryz.f146)) 0:=⟨⟨aa,⟨aa,aa⟩⟩,⟨aa,⟨⟨aa,⟨aa,aa⟩⟩,aa⟩⟩⟩
theorem Fbb (n:Nat) (s:BA):fnD tys (ja Out (Io n)) (rn n) n 146 Tryz.f146 Tryz.f123 (jcb (.pair .str .unit) (s,())) (y9 fun v=>some (.ret v))=Ho n s (fun y=>some (.ret (ib (.many (.pair (.pair .str (.pair .str .unit)) (.pair (.int .i64) .unit))) y))):=by kernel_rfl
def TQ (n:Nat):Entry:=⟨123,pcT (.pair .str .unit) (.many (.pair (.pair .str (.pair .str .unit)) (.pair (.int .i64) .unit))) (fun xs=>qn n xs.1),none,none⟩
theorem Y6 (n:Nat):EntryOk Tryz.prog gl (TQ n):=ya (D0 n) fun xs y h=>qW tys_ok (jI n) mixed (hint:=rn n) (n:=n) (fn:=Tryz.f123) (f2:=Tryz.f146) Tryz.func123 GN nX (Xkb (pX n)) (kib (wU n)) (la (φ:=(fun y=>some (Out.ret (ib (.many (.pair (.pair .str (.pair .str .unit)) (.pair (.int .i64) .unit))) y)))) (Fbb n xs.1) (Gbb n xs.1 _) h)
def iF (n:Nat):List Entry:=TQ n::Io n
theorem UD (n:Nat):AllOk Tryz.prog gl (iF n):=.cons (Y6 n) (jI n)
def nQ (n:Nat) {R:Type} (m0:U0) (k:Bool→Option R):Option R:=(jW n (m0.1,(m0.2.1,()))).bind fun v=>(qn n v).bind fun v1=>if (v1.2.1==(0:Int))=true then k ((v1.1.1.toList==m0.1.toList)&&((v1.1.2.1.toList==m0.2.1.toList)&&true)) else k false
def dz (n:Nat) (m0:U0):Option Bool:=nQ n m0 some
theorem ugb (n:Nat) {S:Type}:∀ m0 (φ:_→Option S),(dz n m0).bind φ=nQ n m0 φ:=by
  intros;unfold dz nQ;first | (simp only [ia,ba,iB,bB,oL,oX,nB,Option.bind_some]) | rfl
def SQ (n:Nat):Hint Out:={ live:=fun c=>[],run:=fun c=>none,xm:=fun c q=>none }
theorem X6 (n:Nat):qa tys (ja Out (iF n)) (SQ n) n (fa Tryz.f91) 0:=na (fun _=>rfl) _ _ (by kernel_rfl)
theorem Ebb (n:Nat):Enters Tryz.prog 91:=enters_of (c:=fa Tryz.f91) Tryz.func91 (by kernel_rfl) (by kernel_rfl)
def C0 (n:Nat):Entry:=⟨91,pcT (.pair (.pair .str (.pair .str .unit)) .unit) (.one .bool) (fun xs=>dz n xs.1),none,none⟩
theorem Hdb (n:Nat):EntryOk Tryz.prog gl (C0 n):=ya (Ebb n) fun xs y h=>ma tys_ok (UD n) mixed (hint:=SQ n) (n:=n) Tryz.func91 (za (X6 n)) (la (φ:=(fun y=>some (Out.ret (ib (.one .bool) y)))) (by kernel_rfl) (ugb n xs.1 _) h)
def ez (n:Nat):List Entry:=C0 n::iF n
theorem FN (n:Nat):AllOk Tryz.prog gl (ez n):=.cons (Hdb n) (UD n)
def tT (n:Nat) {R:Type} (s1:(Sq U0)) (t7 t8:Int) (v1 v2:BA) (kn:(Sq U0)→Int→Int→BA→BA→Option R) (ko:(Unit)→Option R) (kr:(Int)→Option R) (kp:Int→Option R):Option R:=if (decide (t8<t7))=true then if 0≤t8∧t8<(s1.n:Int) then if ((v1.toList==(((s1.at' (Int.toNat t8))).1).toList)&&((v2.toList==((((s1.at' (Int.toNat t8))).2).1).toList)&&true))=true then kr t8 else kn s1 t7 (IntKind.wrap .i64 (t8+(1:Int))) v1 v2 else none else ko ()
def dy (n:Nat):Nat→(Sq U0)→Int→Int→BA→BA→Option (Lx (Unit) (Int))
 | 0,_,_,_,_,_=>none
 | m+1,s1,t7,t8,v1,v2=>tT n s1 t7 t8 v1 v2 (dy n m) (fun a=>some (.out a)) (fun a=>some (.ret a)) (fun p=>some (.pan p))
theorem ohb (n m:Nat) {S:Type}:∀ s1 t7 t8 v1 v2 (φ:_→Option S),(dy n (m+1) s1 t7 t8 v1 v2).bind φ=tT n s1 t7 t8 v1 v2 (fun s1 t7 t8 v1 v2=>(dy n m s1 t7 t8 v1 v2).bind φ) (fun a=>φ (.out a)) (fun a=>φ (.ret a)) (fun p=>φ (.pan p)):=by
  intros;first | (simp only [dy,tT,ia,ba,iB,bB,oL,oX,nB,Option.bind_some]) | rfl
def vT:List Sl:=.dat (.sl (.pair .str (.pair .str .unit)))::.top::.top::.ptr 0 0 0::.top::.top::.top::.dat (.int .i64)::.dat (.int .i64)::tp 10 []
def uT:List RS:=[.box 25 2 true [.dat .str,.dat .str]]
def rZ:List Sl:=tp 19 []
def qZ:List RS:=[]
def tZ:List Sl:=tp 4 (.dat (.int .i64)::tp 14 [])
def sZ:List RS:=[]
def nx (K:XE→List AV→oa→Option Out):Lx (Unit) (Int)→Option Out:=fun x=>onL x (fun a=>Zb rZ qZ () () (K (.exit 0))) (fun a=>Zb tZ sZ (a,()) () (K .ret)) (fun _=>none)
def nhb (n:Nat) {R:Type} (s:(Sq U0)) (v:U0) (k:Int→Option R):Option R:=(dy n n s (s.n:Int) (0:Int) v.1 v.2.1).bind fun x_1=>onL x_1 (fun a_2=>k (-1:Int)) (fun a_3=>k a_3) (fun _=>none)
def sIx (n:Nat) (s:(Sq U0)) (v:U0):Option Int:=nhb n s v some
theorem dmb (n:Nat) {S:Type}:∀ s v (φ:_→Option S),(sIx n s v).bind φ=nhb n s v φ:=by
  intros;unfold sIx nhb;first | (simp only [ia,ba,iB,bB,oL,oX,nB,Option.bind_some]) | rfl
def GQ (n:Nat):Hint Out:={ live:=fun c=>(cond (Nat.beq c 0) [(0,some (.sl (.pair .str (.pair .str .unit)))),(3,none),(7,none),(8,none)] []),run:=fun c=>(cond (Nat.beq c 0) (some (Qf vT uT fun σ ρ K=>(dy n n σ.1 σ.2.1 σ.2.2.1 ρ.1.1 ρ.1.2.1).bind (nx K))) none),xm:=fun c q=>(cond (Nat.beq c 0&&Nat.beq (q.getD 1000000) 0&&q.isSome) (some []) (cond (Nat.beq c 1&&q.isNone) (some [(4,none)]) none)) }
def FQ (n:Nat) (K:XE→List AV→oa→Option Out) (m:Nat) (s1:(Sq U0)) (t7:Int) (t8:Int) (v1:BA) (v2:BA):Option Out:=Dc tys (ja Out (ez n)) (GQ n) n (ta [1,0,1,0,0] (fa Tryz.f103)) 0 vT uT K m (s1,(t7,(t8,()))) ((v1,(v2,())),())
theorem hbb (n:Nat) (K:XE→List AV→oa→Option Out):∀ (m:Nat) s1 t7 t8 v1 v2,FQ n K m s1 t7 t8 v1 v2=(dy n m s1 t7 t8 v1 v2).bind (nx K)
  | 0,_,_,_,_,_=>by kernel_rfl
  | m+1,s1,t7,t8,v1,v2=>by
    have h1:FQ n K (m+1) s1 t7 t8 v1 v2=tT n s1 t7 t8 v1 v2 (FQ n K m) (fun a=>nx K (.out a)) (fun a=>nx K (.ret a)) (fun p=>nx K (.pan p)):=by kernel_rfl
    have h2:FQ n K m=fun s1 t7 t8 v1 v2=>(dy n m s1 t7 t8 v1 v2).bind (nx K):=by
      repeat (refine funext fun _=>?_)
      exact hbb n K m _ _ _ _ _
    rw [h1,h2];exact (ohb n m _ _ _ _ _ (nx K)).symm
theorem ufb (n:Nat):ec tys (ja Out (ez n)) (GQ n) n (ta [1,0,1,0,0] (fa Tryz.f103)) 0:=Ba (sp:=vT) (rp:=uT) (by kernel_rfl) fun K σ ρ=>hbb n K n σ.1 σ.2.1 σ.2.2.1 ρ.1.1 ρ.1.2.1
theorem phb (n:Nat):qa tys (ja Out (ez n)) (GQ n) n (fa Tryz.f103) 0:=⟨aa,⟨⟨aa,⟨ufb n,⟨aa,⟨⟨aa,aa⟩,⟨⟨aa,⟨aa,⟨⟨aa,aa⟩,aa⟩⟩⟩,aa⟩⟩⟩⟩⟩,⟨aa,aa⟩⟩⟩
theorem Ejb (n:Nat):Enters Tryz.prog 103:=enters_of (c:=fa Tryz.f103) Tryz.func103 (by kernel_rfl) (by kernel_rfl)
def mib (n:Nat):Entry:=⟨103,pcT K6 (.one (.int .i64)) (fun xs=>sIx n xs.1 xs.2.1),none,none⟩
theorem Zkb (n:Nat):EntryOk Tryz.prog gl (mib n):=ya (Ejb n) fun xs y h=>ma tys_ok (FN n) mixed (hint:=GQ n) (n:=n) Tryz.func103 (za (phb n)) (la (φ:=(fun y=>some (Out.ret (ib (.one (.int .i64)) y)))) (by kernel_rfl) (dmb n xs.1 xs.2.1 _) h)
def vfb (n:Nat):List Entry:=mib n::ez n
theorem I5 (n:Nat):AllOk Tryz.prog gl (vfb n):=.cons (Zkb n) (FN n)
def khb (n:Nat) {R:Type} (s:(Sq U0)) (v:U0) (k:Bool→Option R):Option R:=(sIx n s (v.1,(v.2.1,()))).bind fun v1=>k (decide (v1≥(0:Int)))
def sCn (n:Nat) (s:(Sq U0)) (v:U0):Option Bool:=khb n s v some
theorem cmb (n:Nat) {S:Type}:∀ s v (φ:_→Option S),(sCn n s v).bind φ=khb n s v φ:=by
  intros;unfold sCn khb;first | (simp only [ia,ba,iB,bB,oL,oX,nB,Option.bind_some]) | rfl
def gbb (n:Nat):Hint Out:={ live:=fun c=>[],run:=fun c=>none,xm:=fun c q=>none }
theorem lhb (n:Nat):qa tys (ja Out (vfb n)) (gbb n) n (fa Tryz.f75) 0:=na (fun _=>rfl) _ _ (by kernel_rfl)
theorem Djb (n:Nat):Enters Tryz.prog 75:=enters_of (c:=fa Tryz.f75) Tryz.func75 (by kernel_rfl) (by kernel_rfl)
def lib (n:Nat):Entry:=⟨75,pcT K6 (.one .bool) (fun xs=>sCn n xs.1 xs.2.1),none,none⟩
theorem Ykb (n:Nat):EntryOk Tryz.prog gl (lib n):=ya (Djb n) fun xs y h=>ma tys_ok (I5 n) mixed (hint:=gbb n) (n:=n) Tryz.func75 (za (lhb n)) (la (φ:=(fun y=>some (Out.ret (ib (.one .bool) y)))) (by kernel_rfl) (cmb n xs.1 xs.2.1 _) h)
def D5 (n:Nat):List Entry:=lib n::vfb n
theorem E5 (n:Nat):AllOk Tryz.prog gl (D5 n):=.cons (Ykb n) (I5 n)
def OL (n:Nat) {R:Type} (l1 t5:(Sq U0)) (t6 t7:Int) (kn:(Sq U0)→(Sq U0)→Int→Int→Option R) (ko:((Sq U0))→Option R) (kr:(Bool)→Option R) (kp:Int→Option R):Option R:=if (decide (t7<t6))=true then if 0≤t7∧t7<(t5.n:Int) then (dz n (((t5.at' (Int.toNat t7))).1,((((t5.at' (Int.toNat t7))).2).1,()))).bind fun v=>if (!v)=false then if 0≤t7∧t7≤(l1.n:Int) then (sCn n (⟨((Int.toNat t7) - (Int.toNat (0:Int))),fun i=>l1.at' ((Int.toNat (0:Int))+i)⟩:Sq U0) (((t5.at' (Int.toNat t7))).1,((((t5.at' (Int.toNat t7))).2).1,()))).bind fun v1=>if v1=true then kr false else kn l1 t5 t6 (IntKind.wrap .i64 (t7+(1:Int))) else none else kr false else none else ko l1
def ep (n:Nat):Nat→(Sq U0)→(Sq U0)→Int→Int→Option (Lx ((Sq U0)) (Bool))
 | 0,_,_,_,_=>none
 | m+1,l1,t5,t6,t7=>OL n l1 t5 t6 t7 (ep n m) (fun a=>some (.out a)) (fun a=>some (.ret a)) (fun p=>some (.pan p))
theorem Vdb (n m:Nat) {S:Type}:∀ l1 t5 t6 t7 (φ:_→Option S),(ep n (m+1) l1 t5 t6 t7).bind φ=OL n l1 t5 t6 t7 (fun l1 t5 t6 t7=>(ep n m l1 t5 t6 t7).bind φ) (fun a=>φ (.out a)) (fun a=>φ (.ret a)) (fun p=>φ (.pan p)):=by
  intros;first | (simp only [ep,OL,ia,ba,iB,bB,oL,oX,nB,Option.bind_some]) | rfl
def QL:List Sl:=.dat (.sl (.pair .str (.pair .str .unit)))::tp 4 (.dat (.sl (.pair .str (.pair .str .unit)))::.dat (.int .i64)::.dat (.int .i64)::tp 18 [])
def PL:List RS:=[]
def TU:List Sl:=.dat (.sl (.pair .str (.pair .str .unit)))::tp 25 []
def SU:List RS:=[]
def VU:List Sl:=.top::.top::.dat .bool::tp 23 []
def UU:List RS:=[]
def fp (K:XE→List AV→oa→Option Out):Lx ((Sq U0)) (Bool)→Option Out:=fun x=>onL x (fun a=>Zb TU SU (a,()) () (K (.exit 0))) (fun a=>Zb VU UU (a,()) () (K .ret)) (fun _=>none)
def sab (n:Nat) {R:Type} (l:(Sq U0)) (k:Bool→Option R):Option R:=(ep n n l l (l.n:Int) (0:Int)).bind fun x_1=>onL x_1 (fun a_2=>k (decide ((a_2.n:Int)≤(8:Int)))) (fun a_3=>k a_3) (fun _=>none)
def Dgb (n:Nat) (l:(Sq U0)):Option Bool:=sab n l some
theorem tkb (n:Nat) {S:Type}:∀ l (φ:_→Option S),(Dgb n l).bind φ=sab n l φ:=by
  intros;unfold Dgb sab;first | (simp only [ia,ba,iB,bB,oL,oX,nB,Option.bind_some]) | rfl
def DI (n:Nat):Hint Out:={ live:=fun c=>(cond (Nat.beq c 0) [(0,some (.sl (.pair .str (.pair .str .unit)))),(5,some (.sl (.pair .str (.pair .str .unit)))),(6,none),(7,none)] []),run:=fun c=>(cond (Nat.beq c 0) (some (Qf QL PL fun σ ρ K=>(ep n n σ.1 σ.2.1 σ.2.2.1 σ.2.2.2.1).bind (fp K))) none),xm:=fun c q=>(cond (Nat.beq c 0&&Nat.beq (q.getD 1000000) 0&&q.isSome) (some [(0,some (.sl (.pair .str (.pair .str .unit))))]) (cond (Nat.beq c 1&&q.isNone) (some [(2,none)]) none)) }
def CI (n:Nat) (K:XE→List AV→oa→Option Out) (m:Nat) (l1:(Sq U0)) (t5:(Sq U0)) (t6:Int) (t7:Int):Option Out:=Dc tys (ja Out (D5 n)) (DI n) n (ta [1,0,1,0,0] (fa Tryz.f92)) 0 QL PL K m (l1,(t5,(t6,(t7,())))) ()
theorem F2 (n:Nat) (K:XE→List AV→oa→Option Out):∀ (m:Nat) l1 t5 t6 t7,CI n K m l1 t5 t6 t7=(ep n m l1 t5 t6 t7).bind (fp K)
  | 0,_,_,_,_=>by kernel_rfl
  | m+1,l1,t5,t6,t7=>by
    have h1:CI n K (m+1) l1 t5 t6 t7=OL n l1 t5 t6 t7 (CI n K m) (fun a=>fp K (.out a)) (fun a=>fp K (.ret a)) (fun p=>fp K (.pan p)):=by kernel_rfl
    have h2:CI n K m=fun l1 t5 t6 t7=>(ep n m l1 t5 t6 t7).bind (fp K):=by
      repeat (refine funext fun _=>?_)
      exact F2 n K m _ _ _ _
    rw [h1,h2];exact (Vdb n m _ _ _ _ (fp K)).symm
theorem ccb (n:Nat):ec tys (ja Out (D5 n)) (DI n) n (ta [1,0,1,0,0] (fa Tryz.f92)) 0:=Ba (sp:=QL) (rp:=PL) (by kernel_rfl) fun K σ ρ=>F2 n K n σ.1 σ.2.1 σ.2.2.1 σ.2.2.2.1
theorem Xdb (n:Nat):qa tys (ja Out (D5 n)) (DI n) n (fa Tryz.f92) 0:=⟨aa,⟨⟨aa,⟨ccb n,⟨aa,⟨⟨aa,aa⟩,⟨⟨aa,⟨aa,⟨⟨aa,aa⟩,aa⟩⟩⟩,aa⟩⟩⟩⟩⟩,⟨aa,aa⟩⟩⟩
theorem Egb (n:Nat):Enters Tryz.prog 92:=enters_of (c:=fa Tryz.f92) Tryz.func92 (by kernel_rfl) (by kernel_rfl)
def Wdb (n:Nat):Entry:=⟨92,pcT (.pair (.sl (.pair .str (.pair .str .unit))) .unit) (.one .bool) (fun xs=>Dgb n xs.1),none,none⟩
theorem Iib (n:Nat):EntryOk Tryz.prog gl (Wdb n):=ya (Egb n) fun xs y h=>ma tys_ok (E5 n) mixed (hint:=DI n) (n:=n) Tryz.func92 (za (Xdb n)) (la (φ:=(fun y=>some (Out.ret (ib (.one .bool) y)))) (by kernel_rfl) (tkb n xs.1 _) h)
def M7 (n:Nat):List Entry:=Wdb n::D5 n
theorem xW (n:Nat):AllOk Tryz.prog gl (M7 n):=.cons (Iib n) (E5 n)
def Vq (n:Nat) {R:Type} (c:T0) (k:Bool→Option R):Option R:=if (decide (c.2.2.2.2.1<(2:Int)))=false then if (decide (c.2.2.2.2.1>(4:Int)))=true then if (!c.2.2.2.2.2.2.1)=true then if ((c.2.2.2.2.2.2.2.1.1.toList==(⟨#[]⟩:BA).toList)&&((c.2.2.2.2.2.2.2.1.2.1.toList==(⟨#[]⟩:BA).toList)&&true))=true then k ((c.2.2.2.2.2.2.2.2.1.n:Int)==(0:Int)) else k false else k false else if c.2.2.2.2.2.2.1=true then if (!((c.2.2.2.2.2.2.2.1.1.toList==(⟨#[]⟩:BA).toList)&&((c.2.2.2.2.2.2.2.1.2.1.toList==(⟨#[]⟩:BA).toList)&&true)))=false then if (!c.2.2.2.2.2.2.1)=true then (dz n c.2.2.2.2.2.2.2.1).bind fun v=>if (!v)=true then k false else (Dgb n c.2.2.2.2.2.2.2.2.1).bind fun v1=>if v1=true then k (((c.2.2.2.2.2.2.2.2.1.n:Int)==(0:Int))==(c.2.2.2.2.1==(2:Int))) else k false else (Dgb n c.2.2.2.2.2.2.2.2.1).bind fun v2=>if v2=true then k (((c.2.2.2.2.2.2.2.2.1.n:Int)==(0:Int))==(c.2.2.2.2.1==(2:Int))) else k false else k false else if (!c.2.2.2.2.2.2.1)=true then (dz n c.2.2.2.2.2.2.2.1).bind fun v3=>if (!v3)=true then k false else (Dgb n c.2.2.2.2.2.2.2.2.1).bind fun v4=>if v4=true then k (((c.2.2.2.2.2.2.2.2.1.n:Int)==(0:Int))==(c.2.2.2.2.1==(2:Int))) else k false else (Dgb n c.2.2.2.2.2.2.2.2.1).bind fun v5=>if v5=true then k (((c.2.2.2.2.2.2.2.2.1.n:Int)==(0:Int))==(c.2.2.2.2.1==(2:Int)))
 else k false else if (!c.2.2.2.2.2.2.1)=true then if ((c.2.2.2.2.2.2.2.1.1.toList==(⟨#[]⟩:BA).toList)&&((c.2.2.2.2.2.2.2.1.2.1.toList==(⟨#[]⟩:BA).toList)&&true))=true then k ((c.2.2.2.2.2.2.2.2.1.n:Int)==(0:Int)) else k false else k false
def ae (n:Nat) (c:T0):Option Bool:=Vq n c some
theorem X1 (n:Nat) {S:Type}:∀ c (φ:_→Option S),(ae n c).bind φ=Vq n c φ:=by
  intros;unfold ae Vq;first | (simp only [ia,ba,iB,bB,oL,oX,nB,Option.bind_some]) | rfl
def Dz (n:Nat):Hint Out:={ live:=fun c=>[],run:=fun c=>none,xm:=fun c q=>none }
theorem vR (n:Nat):qa tys (ja Out (M7 n)) (Dz n) n (fa Tryz.f66) 0:=na (fun _=>rfl) _ _ (by kernel_rfl)
theorem QU (n:Nat):Enters Tryz.prog 66:=enters_of (c:=fa Tryz.f66) Tryz.func66 (by kernel_rfl) (by kernel_rfl)
def wI (n:Nat):Entry:=⟨66,pcT K1 (.one .bool) (fun xs=>ae n xs.1),none,none⟩
theorem XX (n:Nat):EntryOk Tryz.prog gl (wI n):=ya (QU n) fun xs y h=>ma tys_ok (xW n) mixed (hint:=Dz n) (n:=n) Tryz.func66 (za (vR n)) (la (φ:=(fun y=>some (Out.ret (ib (.one .bool) y)))) (by kernel_rfl) (X1 n xs.1 _) h)
def xI (n:Nat):List Entry:=wI n::M7 n
theorem TO (n:Nat):AllOk Tryz.prog gl (xI n):=.cons (XX n) (xW n)
def Ck (n:Nat):List Entry:=⟨126,pcT (.pair .str (.pair .str .unit)) (.one .bool) (fun xs=>gcb xs.1 xs.2.1),none,none⟩::xI n
theorem Tm (n:Nat):AllOk Tryz.prog gl (Ck n):=.cons YU (TO n)
def zw (n:Nat) {R:Type} (s:BA) (k:Bool→Option R):Option R:=if (decide ((s.size:Int)≤(509:Int)))=true then (gcb s (⟨#[13,10]⟩:BA)).bind fun v=>k (!v) else k false
def Ll (n:Nat) (s:BA):Option Bool:=zw n s some
theorem T7 (n:Nat) {S:Type}:∀ s (φ:_→Option S),(Ll n s).bind φ=zw n s φ:=by
  intros;unfold Ll zw;first | (simp only [ia,ba,iB,bB,oL,oX,nB,Option.bind_some]) | rfl
def iE (n:Nat):Hint Out:={ live:=fun c=>[],run:=fun c=>none,xm:=fun c q=>none }
theorem ZU (n:Nat):qa tys (ja Out (Ck n)) (iE n) n (fa Tryz.f95) 0:=na (fun _=>rfl) _ _ (by kernel_rfl)
theorem cY (n:Nat):Enters Tryz.prog 95:=enters_of (c:=fa Tryz.f95) Tryz.func95 (by kernel_rfl) (by kernel_rfl)
def aO (n:Nat):Entry:=⟨95,pcT (.pair .str .unit) (.one .bool) (fun xs=>Ll n xs.1),none,none⟩
theorem N2 (n:Nat):EntryOk Tryz.prog gl (aO n):=ya (cY n) fun xs y h=>ma tys_ok (Tm n) mixed (hint:=iE n) (n:=n) Tryz.func95 (za (ZU n)) (la (φ:=(fun y=>some (Out.ret (ib (.one .bool) y)))) (by kernel_rfl) (T7 n xs.1 _) h)
def Mz (n:Nat):List Entry:=aO n::Ck n
theorem Nz (n:Nat):AllOk Tryz.prog gl (Mz n):=.cons (N2 n) (Tm n)
def dC (n:Nat) {R:Type} (s:BA) (k:Bool→Option R):Option R:=(Ll n s).bind fun v=>k (!v)
def cC (n:Nat) (s:BA):Option Bool:=dC n s some
theorem acb (n:Nat) {S:Type}:∀ s (φ:_→Option S),(cC n s).bind φ=dC n s φ:=by
  intros;unfold cC dC;first | (simp only [ia,ba,iB,bB,oL,oX,nB,Option.bind_some]) | rfl
def BI (n:Nat):Hint Out:={ live:=fun c=>[],run:=fun c=>none,xm:=fun c q=>none }
theorem ZX (n:Nat):qa tys (ja Out (Mz n)) (BI n) n (fa Tryz.f94) 0:=na (fun _=>rfl) _ _ (by kernel_rfl)
theorem C2 (n:Nat):Enters Tryz.prog 94:=enters_of (c:=fa Tryz.f94) Tryz.func94 (by kernel_rfl) (by kernel_rfl)
def AR (n:Nat):Entry:=⟨94,pcT (.pair .str .unit) (.one .bool) (fun xs=>cC n xs.1),none,none⟩
theorem J7 (n:Nat):EntryOk Tryz.prog gl (AR n):=ya (C2 n) fun xs y h=>ma tys_ok (Nz n) mixed (hint:=BI n) (n:=n) Tryz.func94 (za (ZX n)) (la (φ:=(fun y=>some (Out.ret (ib (.one .bool) y)))) (by kernel_rfl) (acb n xs.1 _) h)
def bp (n:Nat):List Entry:=AR n::Mz n
theorem gE (n:Nat):AllOk Tryz.prog gl (bp n):=.cons (J7 n) (Nz n)
def dq (n:Nat) {R:Type} (s1:(Sq BA)) (t7 t8:Int) (kn:(Sq BA)→Int→Int→Option R) (ko:(Unit)→Option R) (kr:(Int)→Option R) (kp:Int→Option R):Option R:=if (decide (t8<t7))=true then if 0≤t8∧t8<(s1.n:Int) then (cC n (s1.at' (Int.toNat t8))).bind fun v=>if v=true then kr t8 else kn s1 t7 (IntKind.wrap .i64 (t8+(1:Int))) else none else ko ()
def vf (n:Nat):Nat→(Sq BA)→Int→Int→Option (Lx (Unit) (Int))
 | 0,_,_,_=>none
 | m+1,s1,t7,t8=>dq n s1 t7 t8 (vf n m) (fun a=>some (.out a)) (fun a=>some (.ret a)) (fun p=>some (.pan p))
theorem u9 (n m:Nat) {S:Type}:∀ s1 t7 t8 (φ:_→Option S),(vf n (m+1) s1 t7 t8).bind φ=dq n s1 t7 t8 (fun s1 t7 t8=>(vf n m s1 t7 t8).bind φ) (fun a=>φ (.out a)) (fun a=>φ (.ret a)) (fun p=>φ (.pan p)):=by
  intros;first | (simp only [vf,dq,ia,ba,iB,bB,oL,oX,nB,Option.bind_some]) | rfl
def cB:List Sl:=.dat (.sl .str)::.fnc 94::tp 5 (.dat (.int .i64)::.dat (.int .i64)::tp 10 [])
def aB:List RS:=[.ghost [.top,.top]]
def FP:List Sl:=tp 19 []
def EP:List RS:=[.ghost [.top,.top]]
def JP:List Sl:=tp 4 (.dat (.int .i64)::tp 14 [])
def GP:List RS:=[.ghost [.top,.top]]
def Vh (K:XE→List AV→oa→Option OutS):Lx (Unit) (Int)→Option OutS:=fun x=>onL x (fun a=>Zb FP EP () ((),()) (K (.exit 0))) (fun a=>Zb JP GP (a,()) ((),()) (K .ret)) (fun _=>none)
def EQ (n:Nat) {R:Type} (s:(Sq BA)) (k:(Int×Unit)→Option R):Option R:=(vf n n s (s.n:Int) (0:Int)).bind fun x_1=>onL x_1 (fun a_2=>k ((-1:Int),())) (fun a_3=>k (a_3,())) (fun _=>none)
def PW (n:Nat) (s:(Sq BA)):Option (Int×Unit):=EQ n s some
theorem mhb (n:Nat) {S:Type}:∀ s (φ:_→Option S),(PW n s).bind φ=EQ n s φ:=by
  intros;unfold PW EQ;first | (simp only [ia,ba,iB,bB,oL,oX,nB,Option.bind_some]) | rfl
def lx (n:Nat):Hint OutS:={ live:=fun c=>(cond (Nat.beq c 0) [(0,some (.sl .str)),(1,none),(7,none),(8,none)] []),run:=fun c=>(cond (Nat.beq c 0) (some (Qf cB aB fun σ ρ K=>(vf n n σ.1 σ.2.1 σ.2.2.1).bind (Vh K))) none),xm:=fun c q=>(cond (Nat.beq c 0&&Nat.beq (q.getD 1000000) 0&&q.isSome) (some []) (cond (Nat.beq c 1&&q.isNone) (some [(4,none)]) none)) }
def kx (n:Nat) (K:XE→List AV→oa→Option OutS) (m:Nat) (s1:(Sq BA)) (t7:Int) (t8:Int):Option OutS:=Dc tys (ja OutS (bp n)) (lx n) n (ta [1,0,1,0,0] (fa Tryz.f125)) 0 cB aB K m (s1,(t7,(t8,()))) ((),())
theorem rT (n:Nat) (K:XE→List AV→oa→Option OutS):∀ (m:Nat) s1 t7 t8,kx n K m s1 t7 t8=(vf n m s1 t7 t8).bind (Vh K)
  | 0,_,_,_=>by kernel_rfl
  | m+1,s1,t7,t8=>by
    have h1:kx n K (m+1) s1 t7 t8=dq n s1 t7 t8 (kx n K m) (fun a=>Vh K (.out a)) (fun a=>Vh K (.ret a)) (fun p=>Vh K (.pan p)):=by kernel_rfl
    have h2:kx n K m=fun s1 t7 t8=>(vf n m s1 t7 t8).bind (Vh K):=by
      repeat (refine funext fun _=>?_)
      exact rT n K m _ _ _
    rw [h1,h2];exact (u9 n m _ _ _ (Vh K)).symm
theorem F5 (n:Nat):ec tys (ja OutS (bp n)) (lx n) n (ta [1,0,1,0,0] (fa Tryz.f125)) 0:=Ba (sp:=cB) (rp:=aB) (by kernel_rfl) fun K σ ρ=>rT n K n σ.1 σ.2.1 σ.2.2.1
theorem w9 (n:Nat):qa tys (ja OutS (bp n)) (lx n) n (fa Tryz.f125) 0:=⟨aa,⟨⟨aa,⟨F5 n,⟨aa,⟨⟨aa,aa⟩,⟨⟨aa,⟨aa,⟨⟨aa,aa⟩,aa⟩⟩⟩,aa⟩⟩⟩⟩⟩,⟨aa,aa⟩⟩⟩
theorem Tcb (n:Nat):Enters Tryz.prog 125:=enters_of (c:=fa Tryz.f125) Tryz.func125 (by kernel_rfl) (by kernel_rfl)
def H5:List RSp:=[.one (.dat (.sl .str)),.one (.fnc 94)]
def G5:List RS:=[]
def Ucb:List Sl:=[.top,.top]
def Vcb:List RSp:=[.one (.dat (.int .i64))]
def NC:List RS:=[]
def pZ (y:(Int×Unit)):OutS:=⟨false,lp (Wc NC ()) Ucb (),tH (kE (Wc NC ()) Vcb ((y.1,()),())),dw (Wc NC ()) NC ()⟩
theorem tfb (n:Nat):EntryOk Tryz.prog gl ⟨125,me,none,some (csT H5 G5 (fun σ ρ=>PW n σ.1.1) pZ)⟩:=qe (Tcb n) fun σ ρ y h=>Bb tys_ok (gE n) mixed (hint:=lx n) (n:=n) Tryz.func125 (za (w9 n)) (la (φ:=fun y=>some (pZ y)) (by kernel_rfl) (mhb n σ.1.1 _) h)
def sT (n:Nat):List Entry:=⟨125,me,none,some (csT H5 G5 (fun σ ρ=>PW n σ.1.1) pZ)⟩::bp n
theorem BO (n:Nat):AllOk Tryz.prog gl (sT n):=.cons (tfb n) (gE n)
def DQ (n:Nat) {R:Type} (s:(Sq BA)) (k:(Bool×Unit)→Option R):Option R:=(PW n s).bind fun v=>k ((decide (v.1≥(0:Int))),())
def pT (n:Nat) (s:(Sq BA)):Option (Bool×Unit):=DQ n s some
theorem jhb (n:Nat) {S:Type}:∀ s (φ:_→Option S),(pT n s).bind φ=DQ n s φ:=by
  intros;unfold pT DQ;first | (simp only [ia,ba,iB,bB,oL,oX,nB,Option.bind_some]) | rfl
def qT (n:Nat):Hint OutS:={ live:=fun c=>[],run:=fun c=>none,xm:=fun c q=>none }
theorem s9 (n:Nat):qa tys (ja OutS (sT n)) (qT n) n (fa Tryz.f93) 0:=na (fun _=>rfl) _ _ (by kernel_rfl)
theorem Qcb (n:Nat):Enters Tryz.prog 93:=enters_of (c:=fa Tryz.f93) Tryz.func93 (by kernel_rfl) (by kernel_rfl)
def C5:List RSp:=[.one (.dat (.sl .str)),.one (.fnc 94)]
def B5:List RS:=[]
def Rcb:List Sl:=[.top,.top]
def Scb:List RSp:=[.one (.dat .bool)]
def MC:List RS:=[]
def oZ (y:(Bool×Unit)):OutS:=⟨false,lp (Wc MC ()) Rcb (),tH (kE (Wc MC ()) Scb ((y.1,()),())),dw (Wc MC ()) MC ()⟩
theorem sfb (n:Nat):EntryOk Tryz.prog gl ⟨93,me,none,some (csT C5 B5 (fun σ ρ=>pT n σ.1.1) oZ)⟩:=qe (Qcb n) fun σ ρ y h=>Bb tys_ok (BO n) mixed (hint:=qT n) (n:=n) Tryz.func93 (za (s9 n)) (la (φ:=fun y=>some (oZ y)) (by kernel_rfl) (jhb n σ.1.1 _) h)
def ZA (n:Nat):List Entry:=⟨93,me,none,some (csT C5 B5 (fun σ ρ=>pT n σ.1.1) oZ)⟩::sT n
theorem AO (n:Nat):AllOk Tryz.prog gl (ZA n):=.cons (sfb n) (BO n)
def Gu (n:Nat) {R:Type} (n0:Int) (t5:(Sq BA)) (t6 t7:Int) (kn:Int→(Sq BA)→Int→Int→Option R) (ko:(Int)→Option R) (kr:Unit→Option R) (kp:Int→Option R):Option R:=if (decide (t7<t6))=true then if 0≤t7∧t7<(t5.n:Int) then kn (IntKind.wrap .i64 (n0+(IntKind.wrap .i64 (((t5.at' (Int.toNat t7)).size:Int)+(2:Int))))) t5 t6 (IntKind.wrap .i64 (t7+(1:Int))) else none else ko n0
def Vf (n:Nat):Nat→Int→(Sq BA)→Int→Int→Option (Lx (Int) Unit)
 | 0,_,_,_,_=>none
 | m+1,n0,t5,t6,t7=>Gu n n0 t5 t6 t7 (Vf n m) (fun a=>some (.out a)) (fun a=>some (.ret a)) (fun p=>some (.pan p))
theorem H7 (n m:Nat) {S:Type}:∀ n0 t5 t6 t7 (φ:_→Option S),(Vf n (m+1) n0 t5 t6 t7).bind φ=Gu n n0 t5 t6 t7 (fun n0 t5 t6 t7=>(Vf n m n0 t5 t6 t7).bind φ) (fun a=>φ (.out a)) (fun a=>φ (.ret a)) (fun p=>φ (.pan p)):=by
  intros;first | (simp only [Vf,Gu,ia,ba,iB,bB,oL,oX,nB,Option.bind_some]) | rfl
def Fz:List Sl:=.top::.top::.dat (.int .i64)::.top::.top::.dat (.sl .str)::.dat (.int .i64)::.dat (.int .i64)::tp 10 []
def Ez:List RS:=[]
def VO:List Sl:=.top::.top::.dat (.int .i64)::tp 15 []
def UO:List RS:=[]
def Oh (K:XE→List AV→oa→Option Out):Lx (Int) Unit→Option Out:=fun x=>onL x (fun a=>Zb VO UO (a,()) () (K (.exit 0))) (fun _=>none) (fun _=>none)
def sQ (n:Nat) {R:Type} (l:(Sq BA)) (k:Int→Option R):Option R:=(Vf n n (0:Int) l (l.n:Int) (0:Int)).bind fun x_1=>onL x_1 (fun a_2=>k a_2) (fun _=>none) (fun _=>none)
def xR (n:Nat) (l:(Sq BA)):Option Int:=sQ n l some
theorem Bgb (n:Nat) {S:Type}:∀ l (φ:_→Option S),(xR n l).bind φ=sQ n l φ:=by
  intros;unfold xR sQ;first | (simp only [ia,ba,iB,bB,oL,oX,nB,Option.bind_some]) | rfl
def yw (n:Nat):Hint Out:={ live:=fun c=>(cond (Nat.beq c 0) [(2,none),(5,some (.sl .str)),(6,none),(7,none)] []),run:=fun c=>(cond (Nat.beq c 0) (some (Qf Fz Ez fun σ ρ K=>(Vf n n σ.1 σ.2.1 σ.2.2.1 σ.2.2.2.1).bind (Oh K))) none),xm:=fun c q=>(cond (Nat.beq c 0&&Nat.beq (q.getD 1000000) 0&&q.isSome) (some [(2,none)]) none) }
def xw (n:Nat) (K:XE→List AV→oa→Option Out) (m:Nat) (n0:Int) (t5:(Sq BA)) (t6:Int) (t7:Int):Option Out:=Dc tys (ja Out (ZA n)) (yw n) n (ta [1,0,1,0,0] (fa Tryz.f96)) 0 Fz Ez K m (n0,(t5,(t6,(t7,())))) ()
theorem yR (n:Nat) (K:XE→List AV→oa→Option Out):∀ (m:Nat) n0 t5 t6 t7,xw n K m n0 t5 t6 t7=(Vf n m n0 t5 t6 t7).bind (Oh K)
  | 0,_,_,_,_=>by kernel_rfl
  | m+1,n0,t5,t6,t7=>by
    have h1:xw n K (m+1) n0 t5 t6 t7=Gu n n0 t5 t6 t7 (xw n K m) (fun a=>Oh K (.out a)) (fun a=>Oh K (.ret a)) (fun p=>Oh K (.pan p)):=by kernel_rfl
    have h2:xw n K m=fun n0 t5 t6 t7=>(Vf n m n0 t5 t6 t7).bind (Oh K):=by
      repeat (refine funext fun _=>?_)
      exact yR n K m _ _ _ _
    rw [h1,h2];exact (H7 n m _ _ _ _ (Oh K)).symm
theorem A2 (n:Nat):ec tys (ja Out (ZA n)) (yw n) n (ta [1,0,1,0,0] (fa Tryz.f96)) 0:=Ba (sp:=Fz) (rp:=Ez) (by kernel_rfl) fun K σ ρ=>yR n K n σ.1 σ.2.1 σ.2.2.1 σ.2.2.2.1
theorem I7 (n:Nat):qa tys (ja Out (ZA n)) (yw n) n (fa Tryz.f96) 0:=⟨aa,⟨⟨aa,⟨A2 n,⟨aa,⟨⟨aa,aa⟩,⟨⟨aa,aa⟩,aa⟩⟩⟩⟩⟩,⟨aa,aa⟩⟩⟩
theorem Zbb (n:Nat):Enters Tryz.prog 96:=enters_of (c:=fa Tryz.f96) Tryz.func96 (by kernel_rfl) (by kernel_rfl)
def B2 (n:Nat):Entry:=⟨96,pcT (.pair (.sl .str) .unit) (.one (.int .i64)) (fun xs=>xR n xs.1),none,none⟩
theorem Tdb (n:Nat):EntryOk Tryz.prog gl (B2 n):=ya (Zbb n) fun xs y h=>ma tys_ok (AO n) mixed (hint:=yw n) (n:=n) Tryz.func96 (za (I7 n)) (la (φ:=(fun y=>some (Out.ret (ib (.one (.int .i64)) y)))) (by kernel_rfl) (Bgb n xs.1 _) h)
def zR (n:Nat):List Entry:=B2 n::ZA n
theorem YN (n:Nat):AllOk Tryz.prog gl (zR n):=.cons (Tdb n) (AO n)
def tQ (n:Nat) {R:Type} (c:T0) (k:Bool→Option R):Option R:=if (c.2.2.2.2.1 !=(4:Int))=false then if c.2.2.2.2.2.2.2.2.2.2.2.1=true then if ((c.2.2.2.2.2.2.2.2.2.1.n:Int)==(0:Int))=true then if (c.2.2.2.2.2.2.2.2.2.2.1==(0:Int))=true then if (!c.2.2.2.2.2.2.2.2.2.2.2.1)=false then k (c.2.2.2.2.1==(4:Int)) else k true else k false else k false else (pT n c.2.2.2.2.2.2.2.2.2.1).bind fun v=>if (!v.1)=true then DL ((xR n c.2.2.2.2.2.2.2.2.2.1).bind fun v1=>if (c.2.2.2.2.2.2.2.2.2.2.1==v1)=true then k (decide (c.2.2.2.2.2.2.2.2.2.2.1≤(8192:Int))) else k false) (dup 1 ((xR n c.2.2.2.2.2.2.2.2.2.1).bind fun v2=>if (c.2.2.2.2.2.2.2.2.2.2.1==v2)=true then k (decide (c.2.2.2.2.2.2.2.2.2.2.1≤(8192:Int))) else k false)) else DL (k false) (dup 1 (k false)) else if ((c.2.2.2.2.2.2.2.2.2.1.n:Int)==(0:Int))=true then if (c.2.2.2.2.2.2.2.2.2.2.1==(0:Int))=true then if (!c.2.2.2.2.2.2.2.2.2.2.2.1)=false then k (c.2.2.2.2.1==(4:Int)) else k true else k false else k false
def Gz (n:Nat) (c:T0):Option Bool:=tQ n c some
theorem Cgb (n:Nat) {S:Type}:∀ c (φ:_→Option S),(Gz n c).bind φ=tQ n c φ:=by
  intros;unfold Gz tQ;first | (simp only [ia,ba,iB,bB,oL,oX,nB,Option.bind_some]) | rfl
def DR (n:Nat):Hint Out:={ live:=fun c=>[],run:=fun c=>none,xm:=fun c q=>none,sch:=fun c=>(cond (Nat.beq c 3) (some [(0,0),(1,1),(2,2),(3,0),(4,0),(5,0),(7,0),(6,5),(8,7),(9,7),(10,6),(11,6),(12,6),(13,6),(14,7),(15,6),(16,6),(17,6)]) none) }
theorem L7 (n:Nat):qa tys (ja Out (zR n)) (DR n) n (fa Tryz.f67) 0:=na (fun _=>rfl) _ _ (by kernel_rfl)
theorem bcb (n:Nat):Enters Tryz.prog 67:=enters_of (c:=fa Tryz.f67) Tryz.func67 (by kernel_rfl) (by kernel_rfl)
def D2 (n:Nat):Entry:=⟨67,pcT K1 (.one .bool) (fun xs=>Gz n xs.1),none,none⟩
theorem Udb (n:Nat):EntryOk Tryz.prog gl (D2 n):=ya (bcb n) fun xs y h=>ma tys_ok (YN n) mixed (hint:=DR n) (n:=n) Tryz.func67 (za (L7 n)) (la (φ:=(fun y=>some (Out.ret (ib (.one .bool) y)))) (by kernel_rfl) (Cgb n xs.1 _) h)
def BR (n:Nat):List Entry:=D2 n::zR n
theorem ZN (n:Nat):AllOk Tryz.prog gl (BR n):=.cons (Udb n) (YN n)
def QX (n:Nat) {R:Type} (c:T0) (k:Bool→Option R):Option R:=(In n c.1 (1:Int) (1099511627776:Int)).bind fun v=>if (!v)=false then (In n c.2.1 (0:Int) (3:Int)).bind fun v1=>if (!v1)=false then (In n c.2.2.1 (0:Int) (1099511627776:Int)).bind fun v2=>if (!v2)=false then (Ju n c.2.2.2.1).bind fun v3=>if (!v3)=false then (In n c.2.2.2.2.1 (0:Int) (5:Int)).bind fun v4=>if (!v4)=true then k false else if (c.2.2.2.2.2.1.toList==(⟨#[]⟩:BA).toList)=true then if (c.2.2.2.2.1 !=(0:Int))=true then if (c.2.2.2.2.1 !=(5:Int))=false then if (!(c.2.2.2.2.2.1.toList==(⟨#[]⟩:BA).toList))=true then if (c.2.2.2.2.1==(0:Int))=false then (Wj n c.2.2.2.2.2.1).bind fun v5=>if (!v5)=true then k false else (ae n c).bind fun v6=>if v6=true then (Gz n c).bind fun v7=>k v7 else k false else k false else (ae n c).bind fun v8=>if v8=true then (Gz n c).bind fun v9=>k v9 else k false else k false else if (!(c.2.2.2.2.2.1.toList==(⟨#[]⟩:BA).toList))=true then if (c.2.2.2.2.1==(0:Int))=false then (Wj n c.2.2.2.2.2.1).bind fun v10=>if (!v10)=true then k false else (ae n c).bind fun v11=>if v11=true then (Gz n c).bind fun v12=>k v12 else k false else k false else (ae n c).bind fun v13=>if v13=true then (Gz n c).bind fun v14=>
 k v14 else k false else if (!(c.2.2.2.2.2.1.toList==(⟨#[]⟩:BA).toList))=true then if (c.2.2.2.2.1==(0:Int))=false then (Wj n c.2.2.2.2.2.1).bind fun v15=>if (!v15)=true then k false else (ae n c).bind fun v16=>if v16=true then (Gz n c).bind fun v17=>k v17 else k false else k false else (ae n c).bind fun v18=>if v18=true then (Gz n c).bind fun v19=>k v19 else k false else k false else k false else k false else k false
def RO (n:Nat) (c:T0):Option Bool:=QX n c some
theorem Hib (n:Nat) {S:Type}:∀ c (φ:_→Option S),(RO n c).bind φ=QX n c φ:=by
  intros;unfold RO QX;first | (simp only [ia,ba,iB,bB,oL,oX,nB,Option.bind_some]) | rfl
def uW (n:Nat):Hint Out:={ live:=fun c=>[],run:=fun c=>none,xm:=fun c q=>none }
theorem Tbb (n:Nat):qa tys (ja Out (BR n)) (uW n) n (fa Tryz.f36) 0:=na (fun _=>rfl) _ _ (by kernel_rfl)
theorem Qdb (n:Nat):Enters Tryz.prog 36:=enters_of (c:=fa Tryz.f36) Tryz.func36 (by kernel_rfl) (by kernel_rfl)
def qab (n:Nat):Entry:=⟨36,pcT K1 (.one .bool) (fun xs=>RO n xs.1),none,none⟩
theorem zgb (n:Nat):EntryOk Tryz.prog gl (qab n):=ya (Qdb n) fun xs y h=>ma tys_ok (ZN n) mixed (hint:=uW n) (n:=n) Tryz.func36 (za (Tbb n)) (la (φ:=(fun y=>some (Out.ret (ib (.one .bool) y)))) (by kernel_rfl) (Hib n xs.1 _) h)
def rab (n:Nat):List Entry:=qab n::BR n
theorem B7 (n:Nat):AllOk Tryz.prog gl (rab n):=.cons (zgb n) (ZN n)
def Ac (n:Nat):List Entry:=zc::rab n
theorem xf (n:Nat):AllOk Tryz.prog gl (Ac n):=.cons wg (B7 n)
def Lc (n:Nat):List Entry:=zf::Ac n
theorem Sd (n:Nat):AllOk Tryz.prog gl (Lc n):=.cons Am (xf n)
def aC (n:Nat) {R:Type} (c:T0) (k:U2→Option R):Option R:=dup 1 ((Kz 32 c.2.2.2.2.2.2.2.2.1).bind fun v=>(Kz 16 c.2.2.2.2.2.2.2.2.2.1).bind fun v1=>k (c.1,(c.2.1,(c.2.2.1,(c.2.2.2.1.1,(c.2.2.2.1.2.1,(c.2.2.2.2.1,(c.2.2.2.2.2.1,(c.2.2.2.2.2.2.1,(c.2.2.2.2.2.2.2.1.1,(c.2.2.2.2.2.2.2.1.2.1,(c.2.2.2.2.2.2.2.2.2.2.1,(c.2.2.2.2.2.2.2.2.2.2.2.1,(v.1,(v1.1,())))))))))))))))
def Ch (n:Nat) (c:T0):Option U2:=aC n c some
theorem Vbb (n:Nat) {S:Type}:∀ c (φ:_→Option S),(Ch n c).bind φ=aC n c φ:=by
  intros;unfold Ch aC;first | (simp only [ia,ba,iB,bB,oL,oX,nB,Option.bind_some]) | rfl
def sI (n:Nat):Hint OutS:={ live:=fun c=>[],run:=fun c=>none,xm:=fun c q=>none,sch:=fun c=>(cond (Nat.beq c 1) (some [(0,0),(3,0),(1,1),(2,5),(4,7),(5,2),(6,6),(7,2),(8,6),(9,2)]) none),pr:=[(0,10,25),(0,11,9)] }
theorem UX (n:Nat):qa tys (ja OutS (Lc n)).keep (sI n) n (fa Tryz.f38) 0:=na (fun _=>rfl) _ _ (by kernel_rfl)
theorem J1 (n:Nat):Enters Tryz.prog 38:=enters_of (c:=fa Tryz.f38) Tryz.func38 (by kernel_rfl) (by kernel_rfl)
def rR:List RSp:=[.one (.dat K0)]
def qR:List RS:=[]
def M1:List Sl:=[.top]
def N1:List RSp:=[.agg [.dat (.int .i64),.dat (.int .i64),.dat (.int .i64),.dat .str,.dat .bool,.dat (.int .i64),.dat .str,.dat .bool,.dat .str,.dat .str,.row 0,.row 1,.dat (.int .i64),.dat .bool]]
def Rq:List RS:=[.row 25 2 (.pair .str (.pair .str .unit)) true true,.row 9 1 .str true true]
def GL (y:U2):OutS:=⟨false,lp (Wc Rq (y.2.2.2.2.2.2.2.2.2.2.2.2.1,(y.2.2.2.2.2.2.2.2.2.2.2.2.2.1,()))) M1 (),tH (kE (Wc Rq (y.2.2.2.2.2.2.2.2.2.2.2.2.1,(y.2.2.2.2.2.2.2.2.2.2.2.2.2.1,()))) N1 ((y.1,(y.2.1,(y.2.2.1,(y.2.2.2.1,(y.2.2.2.2.1,(y.2.2.2.2.2.1,(y.2.2.2.2.2.2.1,(y.2.2.2.2.2.2.2.1,(y.2.2.2.2.2.2.2.2.1,(y.2.2.2.2.2.2.2.2.2.1,(y.2.2.2.2.2.2.2.2.2.2.1,(y.2.2.2.2.2.2.2.2.2.2.2.1,())))))))))))),())),dw (Wc Rq (y.2.2.2.2.2.2.2.2.2.2.2.2.1,(y.2.2.2.2.2.2.2.2.2.2.2.2.2.1,()))) Rq (y.2.2.2.2.2.2.2.2.2.2.2.2.1,(y.2.2.2.2.2.2.2.2.2.2.2.2.2.1,()))⟩
theorem E7 (n:Nat):EntryOk Tryz.prog gl ⟨38,me,none,some (csT rR qR (fun σ ρ=>Ch n σ.1.1) GL)⟩:=qe (J1 n) fun σ ρ y h=>Tf tys_ok (Sd n) mixed (hint:=sI n) (n:=n) Tryz.func38 (za (UX n)) (la (φ:=fun y=>some (GL y)) (by kernel_rfl) (Vbb n σ.1.1 _) h)
def vF (n:Nat):List Entry:=⟨38,me,none,some (csT rR qR (fun σ ρ=>Ch n σ.1.1) GL)⟩::Lc n
theorem dE (n:Nat):AllOk Tryz.prog gl (vF n):=.cons (E7 n) (Sd n)
def Mi (n:Nat) {R:Type} (s prefix0:BA) (k:BA→Option R):Option R:=(se n s prefix0).bind fun v=>if v=true then if 0≤(prefix0.size:Int)∧(prefix0.size:Int)≤(s.size:Int) then k (s.extract (Int.toNat (prefix0.size:Int)) (Int.toNat (s.size:Int))) else none else k s
def Li (n:Nat) (s prefix0:BA):Option BA:=Mi n s prefix0 some
theorem UR (n:Nat) {S:Type}:∀ s prefix0 (φ:_→Option S),(Li n s prefix0).bind φ=Mi n s prefix0 φ:=by
  intros;unfold Li Mi;first | (simp only [ia,ba,iB,bB,oL,oX,nB,Option.bind_some]) | rfl
def er (n:Nat):Hint Out:={ live:=fun c=>[],run:=fun c=>none,xm:=fun c q=>none }
theorem PI (n:Nat):qa tys (ja Out (vF n)) (er n) n (fa Tryz.f149) 0:=na (fun _=>rfl) _ _ (by kernel_rfl)
theorem bM (n:Nat):Enters Tryz.prog 149:=enters_of (c:=fa Tryz.f149) Tryz.func149 (by kernel_rfl) (by kernel_rfl)
def Qx (n:Nat):Entry:=⟨149,pcT (.pair .str (.pair .str .unit)) (.one .str) (fun xs=>Li n xs.1 xs.2.1),none,none⟩
theorem eP (n:Nat):EntryOk Tryz.prog gl (Qx n):=ya (bM n) fun xs y h=>ma tys_ok (dE n) mixed (hint:=er n) (n:=n) Tryz.func149 (za (PI n)) (la (φ:=(fun y=>some (Out.ret (ib (.one .str) y)))) (by kernel_rfl) (UR n xs.1 xs.2.1 _) h)
def mm (n:Nat):List Entry:=Qx n::vF n
theorem zp (n:Nat):AllOk Tryz.prog gl (mm n):=.cons (eP n) (dE n)
def tj (n:Nat) {R:Type} (s prefix0:BA) (k:BA→Option R):Option R:=(Li n s prefix0).bind fun v=>k v
def Da (n:Nat) (s prefix0:BA):Option BA:=tj n s prefix0 some
theorem HT (n:Nat) {S:Type}:∀ s prefix0 (φ:_→Option S),(Da n s prefix0).bind φ=tj n s prefix0 φ:=by
  intros;unfold Da tj;first | (simp only [ia,ba,iB,bB,oL,oX,nB,Option.bind_some]) | rfl
def As (n:Nat):Hint Out:={ live:=fun c=>[],run:=fun c=>none,xm:=fun c q=>none }
theorem PK (n:Nat):qa tys (ja Out (mm n)) (As n) n (fa Tryz.f127) 0:=na (fun _=>rfl) _ _ (by kernel_rfl)
theorem WM (n:Nat):Enters Tryz.prog 127:=enters_of (c:=fa Tryz.f127) Tryz.func127 (by kernel_rfl) (by kernel_rfl)
def ey (n:Nat):Entry:=⟨127,pcT (.pair .str (.pair .str .unit)) (.one .str) (fun xs=>Da n xs.1 xs.2.1),none,none⟩
theorem NP (n:Nat):EntryOk Tryz.prog gl (ey n):=ya (WM n) fun xs y h=>ma tys_ok (zp n) mixed (hint:=As n) (n:=n) Tryz.func127 (za (PK n)) (la (φ:=(fun y=>some (Out.ret (ib (.one .str) y)))) (by kernel_rfl) (HT n xs.1 xs.2.1 _) h)
def Bm (n:Nat):List Entry:=ey n::mm n
theorem mq (n:Nat):AllOk Tryz.prog gl (Bm n):=.cons (NP n) (zp n)
def AF (n:Nat) {R:Type} (line:BA) (k:(BA×Bool×Unit)→Option R):Option R:=if (line.toList==(⟨#[46]⟩:BA).toList)=true then k ((⟨#[]⟩:BA),(true,())) else (Da n line (⟨#[46]⟩:BA)).bind fun v=>k (v,(false,()))
def GI (n:Nat) (line:BA):Option (BA×Bool×Unit):=AF n line some
theorem V7 (n:Nat) {S:Type}:∀ line (φ:_→Option S),(GI n line).bind φ=AF n line φ:=by
  intros;unfold GI AF;first | (simp only [ia,ba,iB,bB,oL,oX,nB,Option.bind_some]) | rfl
def jE (n:Nat):Hint Out:={ live:=fun c=>[],run:=fun c=>none,xm:=fun c q=>none }
theorem aV (n:Nat):qa tys (ja Out (Bm n)) (jE n) n (fa Tryz.f97) 0:=na (fun _=>rfl) _ _ (by kernel_rfl)
theorem dY (n:Nat):Enters Tryz.prog 97:=enters_of (c:=fa Tryz.f97) Tryz.func97 (by kernel_rfl) (by kernel_rfl)
def bO (n:Nat):Entry:=⟨97,pcT (.pair .str .unit) (.many (.pair .str (.pair .bool .unit))) (fun xs=>GI n xs.1),none,none⟩
theorem O2 (n:Nat):EntryOk Tryz.prog gl (bO n):=ya (dY n) fun xs y h=>ma tys_ok (mq n) mixed (hint:=jE n) (n:=n) Tryz.func97 (za (aV n)) (la (φ:=(fun y=>some (Out.ret (ib (.many (.pair .str (.pair .bool .unit))) y)))) (by kernel_rfl) (V7 n xs.1 _) h)
def Oz (n:Nat):List Entry:=bO n::Bm n
theorem Pz (n:Nat):AllOk Tryz.prog gl (Oz n):=.cons (O2 n) (mq n)
def dt (n:Nat) {R:Type} (c c1 c2:Int) (c3:BA) (c4:Bool) (c5:Int) (c6:BA) (c7:Bool) (c8 c9:BA) (c10:Int) (c11:Bool) (l:U10) (r0:(Sq U0)) (r1:(Sq BA)) (k:(T0×BA×Unit)→Option R):Option R:=(GI n l.1).bind fun v=>if v.2.1=true then if (!l.2.1)=true then k ((c,(c1,(c2,((c3,(c4,())),(c5,(c6,(c7,((c8,(c9,())),(r0,(r1,(c10,(c11,())))))))))))),((⟨#[115,101,110,100]⟩:BA),())) else if c11=true then k ((c,(c1,(c2,((c3,(c4,())),(c5,(c6,(c7,((c8,(c9,())),(r0,(r1,(c10,(c11,())))))))))))),((⟨#[]⟩:BA),())) else if l.2.1=false then (Ll n v.1).bind fun v1=>if (!v1)=false then if (decide ((IntKind.wrap .i64 ((IntKind.wrap .i64 (c10+(v.1.size:Int)))+(2:Int)))>(8192:Int)))=true then k ((c,(c1,(c2,((c3,(c4,())),(c5,(c6,(c7,((c8,(c9,())),(r0,((⟨0,fun _=>ua .str⟩:Sq BA),((0:Int),(true,())))))))))))),((⟨#[]⟩:BA),())) else if Gb (r1.n+1) 16=true then k ((c,(c1,(c2,((c3,(c4,())),(c5,(c6,(c7,((c8,(c9,())),(r0,((⟨(r1.n+1),fun q=>if q<r1.n then r1.at' q else (fun q=>List.getD (α:=BA) [v.1] q (ua .str)) (q - r1.n)⟩:Sq BA),((IntKind.wrap .i64 ((IntKind.wrap .i64 (c10+(v.1.size:Int)))+(2:Int))),(c11,())))))))))))),((⟨#[]⟩:BA),())) else none else k ((c,(c1,(c2,((c3,(c4,())),(c5,(c6,(c7,((c8,(c9,())),(r0,((⟨0,fun _=>ua .str⟩:Sq BA),((0:Int),(true,())))))))))))),((⟨#[]⟩:BA),()))
 else k ((c,(c1,(c2,((c3,(c4,())),(c5,(c6,(c7,((c8,(c9,())),(r0,((⟨0,fun _=>ua .str⟩:Sq BA),((0:Int),(true,())))))))))))),((⟨#[]⟩:BA),())) else if c11=true then k ((c,(c1,(c2,((c3,(c4,())),(c5,(c6,(c7,((c8,(c9,())),(r0,(r1,(c10,(c11,())))))))))))),((⟨#[]⟩:BA),())) else if l.2.1=false then (Ll n v.1).bind fun v2=>if (!v2)=false then if (decide ((IntKind.wrap .i64 ((IntKind.wrap .i64 (c10+(v.1.size:Int)))+(2:Int)))>(8192:Int)))=true then k ((c,(c1,(c2,((c3,(c4,())),(c5,(c6,(c7,((c8,(c9,())),(r0,((⟨0,fun _=>ua .str⟩:Sq BA),((0:Int),(true,())))))))))))),((⟨#[]⟩:BA),())) else if Gb (r1.n+1) 16=true then k ((c,(c1,(c2,((c3,(c4,())),(c5,(c6,(c7,((c8,(c9,())),(r0,((⟨(r1.n+1),fun q=>if q<r1.n then r1.at' q else (fun q=>List.getD (α:=BA) [v.1] q (ua .str)) (q - r1.n)⟩:Sq BA),((IntKind.wrap .i64 ((IntKind.wrap .i64 (c10+(v.1.size:Int)))+(2:Int))),(c11,())))))))))))),((⟨#[]⟩:BA),())) else none else k ((c,(c1,(c2,((c3,(c4,())),(c5,(c6,(c7,((c8,(c9,())),(r0,((⟨0,fun _=>ua .str⟩:Sq BA),((0:Int),(true,())))))))))))),((⟨#[]⟩:BA),())) else k ((c,(c1,(c2,((c3,(c4,())),(c5,(c6,(c7,((c8,(c9,())),(r0,((⟨0,fun _=>ua .str⟩:Sq BA),((0:Int),(true,())))))))))))),((⟨#[]⟩:BA),()))
def Kl (n:Nat) (c c1 c2:Int) (c3:BA) (c4:Bool) (c5:Int) (c6:BA) (c7:Bool) (c8 c9:BA) (c10:Int) (c11:Bool) (l:U10) (r0:(Sq U0)) (r1:(Sq BA)):Option (T0×BA×Unit):=dt n c c1 c2 c3 c4 c5 c6 c7 c8 c9 c10 c11 l r0 r1 some
theorem RU (n:Nat) {S:Type}:∀ c c1 c2 c3 c4 c5 c6 c7 c8 c9 c10 c11 l r0 r1 (φ:_→Option S),(Kl n c c1 c2 c3 c4 c5 c6 c7 c8 c9 c10 c11 l r0 r1).bind φ=dt n c c1 c2 c3 c4 c5 c6 c7 c8 c9 c10 c11 l r0 r1 φ:=by
  intros;unfold Kl dt;first | (simp only [ia,ba,iB,bB,oL,oX,nB,Option.bind_some]) | rfl
def Hu (n:Nat):Hint OutS:={ live:=fun c=>[],run:=fun c=>none,xm:=fun c q=>none,fz:=true }
theorem NL (n:Nat):qa tys (ja OutS (Oz n)) (Hu n) n (fa Tryz.f68) 0:=na (fun _=>rfl) _ _ (by kernel_rfl)
theorem WO (n:Nat):Enters Tryz.prog 68:=enters_of (c:=fa Tryz.f68) Tryz.func68 (by kernel_rfl) (by kernel_rfl)
def Iz:List RSp:=[.agg [.dat (.int .i64),.dat (.int .i64),.dat (.int .i64),.dat .str,.dat .bool,.dat (.int .i64),.dat .str,.dat .bool,.dat .str,.dat .str,.row 0,.row 1,.dat (.int .i64),.dat .bool],.one (.dat (.pair .str (.pair .bool .unit)))]
def Hz:List RS:=[.row 25 2 (.pair .str (.pair .str .unit)) true true,.row 9 1 .str true true]
def XO:List Sl:=[.top,.top]
def YO:List RSp:=[.one (.dat K0),.one (.dat .str)]
def Dh:List RS:=[]
def et (y:(T0×BA×Unit)):OutS:=⟨false,lp (Wc Dh ()) XO (),tH (kE (Wc Dh ()) YO ((y.1,()),((y.2.1,()),()))),dw (Wc Dh ()) Dh ()⟩
theorem ER (n:Nat):EntryOk Tryz.prog gl ⟨68,me,none,some (csT Iz Hz (fun σ ρ=>Kl n σ.1.1 σ.1.2.1 σ.1.2.2.1 σ.1.2.2.2.1 σ.1.2.2.2.2.1 σ.1.2.2.2.2.2.1 σ.1.2.2.2.2.2.2.1 σ.1.2.2.2.2.2.2.2.1 σ.1.2.2.2.2.2.2.2.2.1 σ.1.2.2.2.2.2.2.2.2.2.1 σ.1.2.2.2.2.2.2.2.2.2.2.1 σ.1.2.2.2.2.2.2.2.2.2.2.2.1 σ.2.1.1 ρ.1 ρ.2.1) et)⟩:=qe (WO n) fun σ ρ y h=>Bb tys_ok (Pz n) mixed (hint:=Hu n) (n:=n) Tryz.func68 (za (NL n)) (la (φ:=fun y=>some (et y)) (by kernel_rfl) (RU n σ.1.1 σ.1.2.1 σ.1.2.2.1 σ.1.2.2.2.1 σ.1.2.2.2.2.1 σ.1.2.2.2.2.2.1 σ.1.2.2.2.2.2.2.1 σ.1.2.2.2.2.2.2.2.1 σ.1.2.2.2.2.2.2.2.2.1 σ.1.2.2.2.2.2.2.2.2.2.1 σ.1.2.2.2.2.2.2.2.2.2.2.1 σ.1.2.2.2.2.2.2.2.2.2.2.2.1 σ.2.1.1 ρ.1 ρ.2.1 _) h)
def dp (n:Nat):List Entry:=⟨68,me,none,some (csT Iz Hz (fun σ ρ=>Kl n σ.1.1 σ.1.2.1 σ.1.2.2.1 σ.1.2.2.2.1 σ.1.2.2.2.2.1 σ.1.2.2.2.2.2.1 σ.1.2.2.2.2.2.2.1 σ.1.2.2.2.2.2.2.2.1 σ.1.2.2.2.2.2.2.2.2.1 σ.1.2.2.2.2.2.2.2.2.2.1 σ.1.2.2.2.2.2.2.2.2.2.2.1 σ.1.2.2.2.2.2.2.2.2.2.2.2.1 σ.2.1.1 ρ.1 ρ.2.1) et)⟩::Oz n
theorem Xq (n:Nat):AllOk Tryz.prog gl (dp n):=.cons (ER n) (Pz n)
def UT (n:Nat) {R:Type} (kind:Int) (k:BA→Option R):Option R:=if 0≤kind∧kind<(10:Int) then k (List.getD (α:=BA) [(⟨#[]⟩:BA),(⟨#[72,69,76,79]⟩:BA),(⟨#[69,72,76,79]⟩:BA),(⟨#[77,65,73,76]⟩:BA),(⟨#[82,67,80,84]⟩:BA),(⟨#[68,65,84,65]⟩:BA),(⟨#[82,83,69,84]⟩:BA),(⟨#[78,79,79,80]⟩:BA),(⟨#[81,85,73,84]⟩:BA),(⟨#[86,82,70,89]⟩:BA)] (Int.toNat kind) (ua .str)) else none
def TT (n:Nat) (kind:Int):Option BA:=UT n kind some
theorem Mfb (n:Nat) {S:Type}:∀ kind (φ:_→Option S),(TT n kind).bind φ=UT n kind φ:=by
  intros;unfold TT UT;first | (simp only [ia,ba,iB,bB,oL,oX,nB,Option.bind_some]) | rfl
def EO (n:Nat):Hint Out:={ live:=fun c=>[],run:=fun c=>none,xm:=fun c q=>none }
theorem i6 (n:Nat):qa tys (ja Out (dp n)) (EO n) n (fa Tryz.f151) 0:=na (fun _=>rfl) _ _ (by kernel_rfl)
theorem O9 (n:Nat):Enters Tryz.prog 151:=enters_of (c:=fa Tryz.f151) Tryz.func151 (by kernel_rfl) (by kernel_rfl)
def XW (n:Nat):Entry:=⟨151,pcT (.pair (.int .i64) .unit) (.one .str) (fun xs=>TT n xs.1),none,none⟩
theorem idb (n:Nat):EntryOk Tryz.prog gl (XW n):=ya (O9 n) fun xs y h=>ma tys_ok (Xq n) mixed (hint:=EO n) (n:=n) Tryz.func151 (za (i6 n)) (la (φ:=(fun y=>some (Out.ret (ib (.one .str) y)))) (by kernel_rfl) (Mfb n xs.1 _) h)
def Tv (n:Nat):List Entry:=XW n::dp n
theorem VK (n:Nat):AllOk Tryz.prog gl (Tv n):=.cons (idb n) (Xq n)
def Sv (n:Nat) {R:Type} (s1 word1:BA) (t13 t14:Int) (kn:BA→BA→Int→Int→Option R) (ko:(Unit)→Option R) (kr:(Bool)→Option R) (kp:Int→Option R):Option R:=if (decide (t14<t13))=true then if 0≤t14∧t14<(s1.size:Int) then if (decide ((bt s1 t14)≥(97:Int)))=true then if (decide ((bt s1 t14)≤(122:Int)))=true then if 0≤t14∧t14<(word1.size:Int) then if ((IntKind.wrap .u8 ((bt s1 t14) - (32:Int))) !=(bt word1 t14))=true then kr false else kn s1 word1 t13 (IntKind.wrap .i64 (t14+(1:Int))) else none else if 0≤t14∧t14<(word1.size:Int) then if ((bt s1 t14) !=(bt word1 t14))=true then kr false else kn s1 word1 t13 (IntKind.wrap .i64 (t14+(1:Int))) else none else if 0≤t14∧t14<(word1.size:Int) then if ((bt s1 t14) !=(bt word1 t14))=true then kr false else kn s1 word1 t13 (IntKind.wrap .i64 (t14+(1:Int))) else none else none else ko ()
def Ag (n:Nat):Nat→BA→BA→Int→Int→Option (Lx (Unit) (Bool))
 | 0,_,_,_,_=>none
 | m+1,s1,word1,t13,t14=>Sv n s1 word1 t13 t14 (Ag n m) (fun a=>some (.out a)) (fun a=>some (.ret a)) (fun p=>some (.pan p))
theorem M9 (n m:Nat) {S:Type}:∀ s1 word1 t13 t14 (φ:_→Option S),(Ag n (m+1) s1 word1 t13 t14).bind φ=Sv n s1 word1 t13 t14 (fun s1 word1 t13 t14=>(Ag n m s1 word1 t13 t14).bind φ) (fun a=>φ (.out a)) (fun a=>φ (.ret a)) (fun p=>φ (.pan p)):=by
  intros;first | (simp only [Ag,Sv,ia,ba,iB,bB,oL,oX,nB,Option.bind_some]) | rfl
def zB:List Sl:=.dat .str::.dat .str::tp 11 (.dat (.int .i64)::.dat (.int .i64)::tp 19 [])
def yB:List RS:=[]
def VP:List Sl:=tp 34 []
def UP:List RS:=[]
def XP:List Sl:=tp 4 (.dat .bool::tp 29 [])
def WP:List RS:=[]
def Yh (K:XE→List AV→oa→Option Out):Lx (Unit) (Bool)→Option Out:=fun x=>onL x (fun a=>Zb VP UP () () (K (.exit 0))) (fun a=>Zb XP WP (a,()) () (K .ret)) (fun _=>none)
def IQ (n:Nat) {R:Type} (s word:BA) (k:Bool→Option R):Option R:=if ((s.size:Int) !=(word.size:Int))=true then k false else (Ag n n s word (s.size:Int) (0:Int)).bind fun x_1=>onL x_1 (fun a_2=>k true) (fun a_3=>k a_3) (fun _=>none)
def OT (n:Nat) (s word:BA):Option Bool:=IQ n s word some
theorem Ihb (n:Nat) {S:Type}:∀ s word (φ:_→Option S),(OT n s word).bind φ=IQ n s word φ:=by
  intros;unfold OT IQ;first | (simp only [ia,ba,iB,bB,oL,oX,nB,Option.bind_some]) | rfl
def ux (n:Nat):Hint Out:={ live:=fun c=>(cond (Nat.beq c 0) (lv [0,1,13,14]) []),run:=fun c=>(cond (Nat.beq c 0) (some (Qf zB yB fun σ ρ K=>(Ag n n σ.1 σ.2.1 σ.2.2.1 σ.2.2.2.1).bind (Yh K))) none),xm:=fun c q=>(cond (Nat.beq c 0&&Nat.beq (q.getD 1000000) 0&&q.isSome) (some []) (cond (Nat.beq c 1&&q.isNone) (some [(4,none)]) none)) }
def tx (n:Nat) (K:XE→List AV→oa→Option Out) (m:Nat) (s1:BA) (word1:BA) (t13:Int) (t14:Int):Option Out:=Dc tys (ja Out (Tv n)) (ux n) n (ta [1,1,0,1,0,0] (fa Tryz.f150)) 0 zB yB K m (s1,(word1,(t13,(t14,())))) ()
theorem PT (n:Nat) (K:XE→List AV→oa→Option Out):∀ (m:Nat) s1 word1 t13 t14,tx n K m s1 word1 t13 t14=(Ag n m s1 word1 t13 t14).bind (Yh K)
  | 0,_,_,_,_=>by kernel_rfl
  | m+1,s1,word1,t13,t14=>by
    have h1:tx n K (m+1) s1 word1 t13 t14=Sv n s1 word1 t13 t14 (tx n K m) (fun a=>Yh K (.out a)) (fun a=>Yh K (.ret a)) (fun p=>Yh K (.pan p)):=by kernel_rfl
    have h2:tx n K m=fun s1 word1 t13 t14=>(Ag n m s1 word1 t13 t14).bind (Yh K):=by
      repeat (refine funext fun _=>?_)
      exact PT n K m _ _ _ _
    rw [h1,h2];exact (M9 n m _ _ _ _ (Yh K)).symm
theorem b6 (n:Nat):ec tys (ja Out (Tv n)) (ux n) n (ta [1,1,0,1,0,0] (fa Tryz.f150)) 0:=Ba (sp:=zB) (rp:=yB) (by kernel_rfl) fun K σ ρ=>PT n K n σ.1 σ.2.1 σ.2.2.1 σ.2.2.2.1
theorem N9 (n:Nat):qa tys (ja Out (Tv n)) (ux n) n (fa Tryz.f150) 0:=⟨aa,⟨⟨aa,⟨⟨aa,aa⟩,aa⟩⟩,⟨⟨aa,⟨b6 n,⟨aa,⟨⟨aa,aa⟩,⟨⟨aa,⟨aa,⟨⟨aa,⟨aa,aa⟩⟩,⟨aa,⟨⟨aa,aa⟩,aa⟩⟩⟩⟩⟩,aa⟩⟩⟩⟩⟩,⟨aa,aa⟩⟩⟩⟩
theorem gdb (n:Nat):Enters Tryz.prog 150:=enters_of (c:=fa Tryz.f150) Tryz.func150 (by kernel_rfl) (by kernel_rfl)
def d6 (n:Nat):Entry:=⟨150,pcT (.pair .str (.pair .str .unit)) (.one .bool) (fun xs=>OT n xs.1 xs.2.1),none,none⟩
theorem Kfb (n:Nat):EntryOk Tryz.prog gl (d6 n):=ya (gdb n) fun xs y h=>ma tys_ok (VK n) mixed (hint:=ux n) (n:=n) Tryz.func150 (za (N9 n)) (la (φ:=(fun y=>some (Out.ret (ib (.one .bool) y)))) (by kernel_rfl) (Ihb n xs.1 xs.2.1 _) h)
def AB (n:Nat):List Entry:=d6 n::Tv n
theorem DO (n:Nat):AllOk Tryz.prog gl (AB n):=.cons (Kfb n) (VK n)
def Rv (n:Nat) {R:Type} (s1:BA) (k0:Int) (kn:BA→Int→Option R) (ko:(Unit)→Option R) (kr:(Int)→Option R) (kp:Int→Option R):Option R:=if (decide (k0≤(9:Int)))=true then (TT n k0).bind fun v=>(OT n s1 v).bind fun v1=>if v1=true then kr k0 else kn s1 (IntKind.wrap .i64 (k0+(1:Int))) else ko ()
def Pc (n:Nat):Nat→BA→Int→Option (Lx (Unit) (Int))
 | 0,_,_=>none
 | m+1,s1,k0=>Rv n s1 k0 (Pc n m) (fun a=>some (.out a)) (fun a=>some (.ret a)) (fun p=>some (.pan p))
theorem J9 (n m:Nat) {S:Type}:∀ s1 k0 (φ:_→Option S),(Pc n (m+1) s1 k0).bind φ=Rv n s1 k0 (fun s1 k0=>(Pc n m s1 k0).bind φ) (fun a=>φ (.out a)) (fun a=>φ (.ret a)) (fun p=>φ (.pan p)):=by
  intros;first | (simp only [Pc,Rv,ia,ba,iB,bB,oL,oX,nB,Option.bind_some]) | rfl
def vB:List Sl:=.dat .str::.top::.top::.dat (.int .i64)::tp 9 []
def uB:List RS:=[]
def RP:List Sl:=tp 13 []
def QP:List RS:=[]
def TP:List Sl:=.top::.top::.dat (.int .i64)::tp 10 []
def SP:List RS:=[]
def Xh (K:XE→List AV→oa→Option Out):Lx (Unit) (Int)→Option Out:=fun x=>onL x (fun a=>Zb RP QP () () (K (.exit 0))) (fun a=>Zb TP SP (a,()) () (K .ret)) (fun _=>none)
def HQ (n:Nat) {R:Type} (s:BA) (k:Int→Option R):Option R:=(Pc n n s (1:Int)).bind fun x_1=>onL x_1 (fun a_2=>k (0:Int)) (fun a_3=>k a_3) (fun _=>none)
def bF (n:Nat) (s:BA):Option Int:=HQ n s some
theorem Hhb (n:Nat) {S:Type}:∀ s (φ:_→Option S),(bF n s).bind φ=HQ n s φ:=by
  intros;unfold bF HQ;first | (simp only [ia,ba,iB,bB,oL,oX,nB,Option.bind_some]) | rfl
def sx (n:Nat):Hint Out:={ live:=fun c=>(cond (Nat.beq c 0) [(0,none),(3,none)] []),run:=fun c=>(cond (Nat.beq c 0) (some (Qf vB uB fun σ ρ K=>(Pc n n σ.1 σ.2.1).bind (Xh K))) none),xm:=fun c q=>(cond (Nat.beq c 0&&Nat.beq (q.getD 1000000) 0&&q.isSome) (some []) (cond (Nat.beq c 1&&q.isNone) (some [(2,none)]) none)) }
def rx (n:Nat) (K:XE→List AV→oa→Option Out) (m:Nat) (s1:BA) (k0:Int):Option Out:=Dc tys (ja Out (AB n)) (sx n) n (ta [1,0,1,0,0] (fa Tryz.f129)) 0 vB uB K m (s1,(k0,())) ()
theorem MT (n:Nat) (K:XE→List AV→oa→Option Out):∀ (m:Nat) s1 k0,rx n K m s1 k0=(Pc n m s1 k0).bind (Xh K)
  | 0,_,_=>by kernel_rfl
  | m+1,s1,k0=>by
    have h1:rx n K (m+1) s1 k0=Rv n s1 k0 (rx n K m) (fun a=>Xh K (.out a)) (fun a=>Xh K (.ret a)) (fun p=>Xh K (.pan p)):=by kernel_rfl
    have h2:rx n K m=fun s1 k0=>(Pc n m s1 k0).bind (Xh K):=by
      repeat (refine funext fun _=>?_)
      exact MT n K m _ _
    rw [h1,h2];exact (J9 n m _ _ (Xh K)).symm
theorem Y5 (n:Nat):ec tys (ja Out (AB n)) (sx n) n (ta [1,0,1,0,0] (fa Tryz.f129)) 0:=Ba (sp:=vB) (rp:=uB) (by kernel_rfl) fun K σ ρ=>MT n K n σ.1 σ.2.1
theorem L9 (n:Nat):qa tys (ja Out (AB n)) (sx n) n (fa Tryz.f129) 0:=⟨aa,⟨⟨aa,⟨Y5 n,⟨⟨aa,⟨aa,aa⟩⟩,⟨⟨aa,⟨⟨aa,aa⟩,aa⟩⟩,aa⟩⟩⟩⟩,⟨aa,aa⟩⟩⟩
theorem fdb (n:Nat):Enters Tryz.prog 129:=enters_of (c:=fa Tryz.f129) Tryz.func129 (by kernel_rfl) (by kernel_rfl)
def Z5 (n:Nat):Entry:=⟨129,pcT (.pair .str .unit) (.one (.int .i64)) (fun xs=>bF n xs.1),none,none⟩
theorem Jfb (n:Nat):EntryOk Tryz.prog gl (Z5 n):=ya (fdb n) fun xs y h=>ma tys_ok (DO n) mixed (hint:=sx n) (n:=n) Tryz.func129 (za (L9 n)) (la (φ:=(fun y=>some (Out.ret (ib (.one (.int .i64)) y)))) (by kernel_rfl) (Hhb n xs.1 _) h)
def NT (n:Nat):List Entry:=Z5 n::AB n
theorem xB (n:Nat):AllOk Tryz.prog gl (NT n):=.cons (Jfb n) (DO n)
def JQ (n:Nat) {R:Type} (ok:Bool) (e:Int) (k:(Unit)→Option R) (kp:Int→Option R):Option R:=if (!ok)=true then kp e else k ()
def Fa (n:Nat) (ok:Bool) (e:Int):Option (Except Int (Unit)):=JQ n ok e (fun y=>some (.ok y)) (fun p=>some (.error p))
theorem pbb (n:Nat) {S:Type}:∀ ok e (φ:_→Option S),(Fa n ok e).bind φ=JQ n ok e (fun y=>φ (.ok y)) (fun p=>φ (.error p)):=by
  intros;unfold Fa JQ;first | (simp only [ia,ba,iB,bB,oL,oX,nB,Option.bind_some]) | rfl
def uH (n:Nat):Hint Out:={ live:=fun c=>[],run:=fun c=>none,xm:=fun c q=>none }
theorem ST (n:Nat):qa tys (ja Out (NT n)) (uH n) n (fa Tryz.f128) 0:=na (fun _=>rfl) _ _ (by kernel_rfl)
theorem hdb (n:Nat):Enters Tryz.prog 128:=enters_of (c:=fa Tryz.f128) Tryz.func128 (by kernel_rfl) (by kernel_rfl)
def g6 (n:Nat):Entry:=⟨128,pcX 144 (.pair .bool (.pair (.int .i64) .unit)) (.many .unit) (fun xs=>Fa n xs.1 xs.2.1),none,none⟩
theorem Lfb (n:Nat):EntryOk Tryz.prog gl (g6 n):=TI (hdb n) (fun xs y h=>ma tys_ok (xB n) mixed (hint:=uH n) (n:=n) Tryz.func128 (za (ST n)) (la (φ:=(fun r=>onX r (fun p=>some (Out.pan (lh 144 p))) fun y=>some (Out.ret (ib (.many .unit) y)))) (by kernel_rfl) (pbb n xs.1 xs.2.1 _) h)) (fun xs p h=>ma tys_ok (xB n) mixed (hint:=uH n) (n:=n) Tryz.func128 (za (ST n)) (la (φ:=(fun r=>onX r (fun p=>some (Out.pan (lh 144 p))) fun y=>some (Out.ret (ib (.many .unit) y)))) (by kernel_rfl) (pbb n xs.1 xs.2.1 _) h))
def QT (n:Nat):List Entry:=g6 n::NT n
theorem BB (n:Nat):AllOk Tryz.prog gl (QT n):=.cons (Lfb n) (xB n)
def TK (n:Nat) {R:Type} (s word:BA) (k:BA→Option R) (kp:Int→Option R):Option R:=if (decide ((s.size:Int)≥(word.size:Int)))=true then if 0≤(word.size:Int)∧(word.size:Int)≤(s.size:Int) then (OT n (s.extract (Int.toNat (0:Int)) (Int.toNat (word.size:Int))) word).bind fun v=>(Fa n v (8:Int)).bind fun x_1=>onX x_1 (fun p=>kp p) (fun v1=>if 0≤(word.size:Int)∧(word.size:Int)≤(s.size:Int) then k (s.extract (Int.toNat (word.size:Int)) (Int.toNat (s.size:Int))) else none) else none else (Fa n false (8:Int)).bind fun x_2=>onX x_2 (fun p1=>kp p1) (fun v2=>if 0≤(word.size:Int)∧(word.size:Int)≤(s.size:Int) then k (s.extract (Int.toNat (word.size:Int)) (Int.toNat (s.size:Int))) else none)
def rh (n:Nat) (s word:BA):Option (Except Int BA):=TK n s word (fun y=>some (.ok y)) (fun p=>some (.error p))
theorem X5 (n:Nat) {S:Type}:∀ s word (φ:_→Option S),(rh n s word).bind φ=TK n s word (fun y=>φ (.ok y)) (fun p=>φ (.error p)):=by
  intros;unfold rh TK;first | (simp only [ia,ba,iB,bB,oL,oX,nB,Option.bind_some]) | rfl
def tB (n:Nat):Hint Out:={ live:=fun c=>[],run:=fun c=>none,xm:=fun c q=>none }
theorem CO (n:Nat):qa tys (ja Out (QT n)) (tB n) n (fa Tryz.f131) 0:=na (fun _=>rfl) _ _ (by kernel_rfl)
theorem I9 (n:Nat):Enters Tryz.prog 131:=enters_of (c:=fa Tryz.f131) Tryz.func131 (by kernel_rfl) (by kernel_rfl)
def WW (n:Nat):Entry:=⟨131,pcX 144 (.pair .str (.pair .str .unit)) (.one .str) (fun xs=>rh n xs.1 xs.2.1),none,none⟩
theorem edb (n:Nat):EntryOk Tryz.prog gl (WW n):=TI (I9 n) (fun xs y h=>ma tys_ok (BB n) mixed (hint:=tB n) (n:=n) Tryz.func131 (za (CO n)) (la (φ:=(fun r=>onX r (fun p=>some (Out.pan (lh 144 p))) fun y=>some (Out.ret (ib (.one .str) y)))) (by kernel_rfl) (X5 n xs.1 xs.2.1 _) h)) (fun xs p h=>ma tys_ok (BB n) mixed (hint:=tB n) (n:=n) Tryz.func131 (za (CO n)) (la (φ:=(fun r=>onX r (fun p=>some (Out.pan (lh 144 p))) fun y=>some (Out.ret (ib (.one .str) y)))) (by kernel_rfl) (X5 n xs.1 xs.2.1 _) h))
def Qv (n:Nat):List Entry:=WW n::QT n
theorem UK (n:Nat):AllOk Tryz.prog gl (Qv n):=.cons (edb n) (BB n)
def Ma (n:Nat) {R:Type} (s1:BA) (c1 i:Int) (kn:BA→Int→Int→Option R) (ko:(Unit)→Option R) (kr:(Int)→Option R) (kp:Int→Option R):Option R:=if (decide (i≥(0:Int)))=true then if 0≤i∧i<(s1.size:Int) then if ((bt s1 i)==c1)=true then kr i else kn s1 c1 (IntKind.wrap .i64 (i - (1:Int))) else none else ko ()
def Aa (n:Nat):Nat→BA→Int→Int→Option (Lx (Unit) (Int))
 | 0,_,_,_=>none
 | m+1,s1,c1,i=>Ma n s1 c1 i (Aa n m) (fun a=>some (.out a)) (fun a=>some (.ret a)) (fun p=>some (.pan p))
theorem pp (n m:Nat) {S:Type}:∀ s1 c1 i (φ:_→Option S),(Aa n (m+1) s1 c1 i).bind φ=Ma n s1 c1 i (fun s1 c1 i=>(Aa n m s1 c1 i).bind φ) (fun a=>φ (.out a)) (fun a=>φ (.ret a)) (fun p=>φ (.pan p)):=by
  intros;first | (simp only [Aa,Ma,ia,ba,iB,bB,oL,oX,nB,Option.bind_some]) | rfl
def Rc:List Sl:=.dat .str::.dat (.int .u8)::.top::.top::.top::.dat (.int .i64)::tp 13 []
def Qc:List RS:=[]
def Jj:List Sl:=tp 19 []
def Ij:List RS:=[]
def Lj:List Sl:=tp 4 (.dat (.int .i64)::tp 14 [])
def Kj:List RS:=[]
def Ga (K:XE→List AV→oa→Option Out):Lx (Unit) (Int)→Option Out:=fun x=>onL x (fun a=>Zb Jj Ij () () (K (.exit 0))) (fun a=>Zb Lj Kj (a,()) () (K .ret)) (fun _=>none)
def Ec (n:Nat) {R:Type} (s:BA) (c:Int) (k:Int→Option R):Option R:=(Aa n n s c (IntKind.wrap .i64 ((s.size:Int) - (1:Int)))).bind fun x_1=>onL x_1 (fun a_2=>k (-1:Int)) (fun a_3=>k a_3) (fun _=>none)
def cc (n:Nat) (s:BA) (c:Int):Option Int:=Ec n s c some
theorem Lu (n:Nat) {S:Type}:∀ s c (φ:_→Option S),(cc n s c).bind φ=Ec n s c φ:=by
  intros;unfold cc Ec;first | (simp only [ia,ba,iB,bB,oL,oX,nB,Option.bind_some]) | rfl
def Mb (n:Nat):Hint Out:={ live:=fun c=>(cond (Nat.beq c 0) (lv [0,1,5]) []),run:=fun c=>(cond (Nat.beq c 0) (some (Qf Rc Qc fun σ ρ K=>(Aa n n σ.1 σ.2.1 σ.2.2.1).bind (Ga K))) none),xm:=fun c q=>(cond (Nat.beq c 0&&Nat.beq (q.getD 1000000) 0&&q.isSome) (some []) (cond (Nat.beq c 1&&q.isNone) (some [(4,none)]) none)) }
def Lb (n:Nat) (K:XE→List AV→oa→Option Out) (m:Nat) (s1:BA) (c1:Int) (i:Int):Option Out:=Dc tys (ja Out (Qv n)) (Mb n) n (ta [1,0,1,0,0] (fa Tryz.f175)) 0 Rc Qc K m (s1,(c1,(i,()))) ()
theorem Yf (n:Nat) (K:XE→List AV→oa→Option Out):∀ (m:Nat) s1 c1 i,Lb n K m s1 c1 i=(Aa n m s1 c1 i).bind (Ga K)
  | 0,_,_,_=>by kernel_rfl
  | m+1,s1,c1,i=>by
    have h1:Lb n K (m+1) s1 c1 i=Ma n s1 c1 i (Lb n K m) (fun a=>Ga K (.out a)) (fun a=>Ga K (.ret a)) (fun p=>Ga K (.pan p)):=by kernel_rfl
    have h2:Lb n K m=fun s1 c1 i=>(Aa n m s1 c1 i).bind (Ga K):=by
      repeat (refine funext fun _=>?_)
      exact Yf n K m _ _ _
    rw [h1,h2];exact (pp n m _ _ _ (Ga K)).symm
theorem Jn (n:Nat):ec tys (ja Out (Qv n)) (Mb n) n (ta [1,0,1,0,0] (fa Tryz.f175)) 0:=Ba (sp:=Rc) (rp:=Qc) (by kernel_rfl) fun K σ ρ=>Yf n K n σ.1 σ.2.1 σ.2.2.1
theorem qp (n:Nat):qa tys (ja Out (Qv n)) (Mb n) n (fa Tryz.f175) 0:=⟨aa,⟨⟨aa,⟨Jn n,⟨⟨aa,⟨aa,aa⟩⟩,⟨⟨aa,⟨⟨aa,aa⟩,aa⟩⟩,aa⟩⟩⟩⟩,⟨aa,aa⟩⟩⟩
theorem Hq (n:Nat):Enters Tryz.prog 175:=enters_of (c:=fa Tryz.f175) Tryz.func175 (by kernel_rfl) (by kernel_rfl)
def xh (n:Nat):Entry:=⟨175,pcT (.pair .str (.pair (.int .u8) .unit)) (.one (.int .i64)) (fun xs=>cc n xs.1 xs.2.1),none,none⟩
theorem ft (n:Nat):EntryOk Tryz.prog gl (xh n):=ya (Hq n) fun xs y h=>ma tys_ok (UK n) mixed (hint:=Mb n) (n:=n) Tryz.func175 (za (qp n)) (la (φ:=(fun y=>some (Out.ret (ib (.one (.int .i64)) y)))) (by kernel_rfl) (Lu n xs.1 xs.2.1 _) h)
def Id (n:Nat):List Entry:=xh n::Qv n
theorem Hf (n:Nat):AllOk Tryz.prog gl (Id n):=.cons (ft n) (UK n)
def If (n:Nat) {R:Type} (s:BA) (c:Int) (k:Int→Option R):Option R:=(cc n s c).bind fun v=>k v
def zd (n:Nat) (s:BA) (c:Int):Option Int:=If n s c some
theorem NK (n:Nat) {S:Type}:∀ s c (φ:_→Option S),(zd n s c).bind φ=If n s c φ:=by
  intros;unfold zd If;first | (simp only [ia,ba,iB,bB,oL,oX,nB,Option.bind_some]) | rfl
def Yl (n:Nat):Hint Out:={ live:=fun c=>[],run:=fun c=>none,xm:=fun c q=>none }
theorem mB (n:Nat):qa tys (ja Out (Id n)) (Yl n) n (fa Tryz.f152) 0:=na (fun _=>rfl) _ _ (by kernel_rfl)
theorem CD (n:Nat):Enters Tryz.prog 152:=enters_of (c:=fa Tryz.f152) Tryz.func152 (by kernel_rfl) (by kernel_rfl)
def lq (n:Nat):Entry:=⟨152,pcT (.pair .str (.pair (.int .u8) .unit)) (.one (.int .i64)) (fun xs=>zd n xs.1 xs.2.1),none,none⟩
theorem sH (n:Nat):EntryOk Tryz.prog gl (lq n):=ya (CD n) fun xs y h=>ma tys_ok (Hf n) mixed (hint:=Yl n) (n:=n) Tryz.func152 (za (mB n)) (la (φ:=(fun y=>some (Out.ret (ib (.one (.int .i64)) y)))) (by kernel_rfl) (NK n xs.1 xs.2.1 _) h)
def Wh (n:Nat):List Entry:=lq n::Id n
theorem Qj (n:Nat):AllOk Tryz.prog gl (Wh n):=.cons (sH n) (Hf n)
def NH (n:Nat) {R:Type} (s:BA) (k:(U0×Bool×Int×Unit)→Option R):Option R:=if (s.toList==(⟨#[60,62]⟩:BA).toList)=true then k (((⟨#[]⟩:BA),((⟨#[]⟩:BA),())),(true,((0:Int),()))) else if (decide ((s.size:Int)<(2:Int)))=false then if 0≤(0:Int)∧(0:Int)<(s.size:Int) then if ((bt s (0:Int)) !=(60:Int))=false then if 0≤(IntKind.wrap .i64 ((s.size:Int) - (1:Int)))∧(IntKind.wrap .i64 ((s.size:Int) - (1:Int)))<(s.size:Int) then if ((bt s (IntKind.wrap .i64 ((s.size:Int) - (1:Int)))) !=(62:Int))=true then k (((⟨#[]⟩:BA),((⟨#[]⟩:BA),())),(false,((8:Int),()))) else if 0≤(IntKind.wrap .i64 ((s.size:Int) - (1:Int)))∧(IntKind.wrap .i64 ((s.size:Int) - (1:Int)))≤(s.size:Int) then if 0≤(1:Int)∧(1:Int)≤(IntKind.wrap .i64 ((s.size:Int) - (1:Int))) then (qn n (s.extract (Int.toNat (1:Int)) (Int.toNat (IntKind.wrap .i64 ((s.size:Int) - (1:Int)))))).bind fun v=>k ((v.1.1,(v.1.2.1,())),(false,(v.2.1,()))) else none else none else none else k (((⟨#[]⟩:BA),((⟨#[]⟩:BA),())),(false,((8:Int),()))) else none else k (((⟨#[]⟩:BA),((⟨#[]⟩:BA),())),(false,((8:Int),())))
def jF (n:Nat) (s:BA):Option (U0×Bool×Int×Unit):=NH n s some
theorem Idb (n:Nat) {S:Type}:∀ s (φ:_→Option S),(jF n s).bind φ=NH n s φ:=by
  intros;unfold jF NH;first | (simp only [ia,ba,iB,bB,oL,oX,nB,Option.bind_some]) | rfl
def JN (n:Nat):Hint Out:={ live:=fun c=>[],run:=fun c=>none,xm:=fun c q=>none }
theorem F0 (n:Nat):qa tys (ja Out (Wh n)) (JN n) n (fa Tryz.f153) 0:=na (fun _=>rfl) _ _ (by kernel_rfl)
theorem Z6 (n:Nat):Enters Tryz.prog 153:=enters_of (c:=fa Tryz.f153) Tryz.func153 (by kernel_rfl) (by kernel_rfl)
def kW (n:Nat):Entry:=⟨153,pcT (.pair .str .unit) (.many K8) (fun xs=>jF n xs.1),none,none⟩
theorem Hbb (n:Nat):EntryOk Tryz.prog gl (kW n):=ya (Z6 n) fun xs y h=>ma tys_ok (Qj n) mixed (hint:=JN n) (n:=n) Tryz.func153 (za (F0 n)) (la (φ:=(fun y=>some (Out.ret (ib (.many K8) y)))) (by kernel_rfl) (Idb n xs.1 _) h)
def AL (n:Nat):List Entry:=kW n::Wh n
theorem kw (n:Nat):AllOk Tryz.prog gl (AL n):=.cons (Hbb n) (Qj n)
def LQ (n:Nat) {R:Type} (s:BA) (k:(U0×Bool×BA×Unit)→Option R) (kp:Int→Option R):Option R:=(Da n s (⟨#[32]⟩:BA)).bind fun v=>(zd n v (62:Int)).bind fun v1=>(Fa n (decide (v1≥(0:Int))) (8:Int)).bind fun x_1=>onX x_1 (fun p=>kp p) (fun v2=>if 0≤(IntKind.wrap .i64 (v1+(1:Int)))∧(IntKind.wrap .i64 (v1+(1:Int)))≤(v.size:Int) then (jF n (v.extract (Int.toNat (0:Int)) (Int.toNat (IntKind.wrap .i64 (v1+(1:Int)))))).bind fun v3=>(Fa n (v3.2.2.1==(0:Int)) v3.2.2.1).bind fun x_2=>onX x_2 (fun p1=>kp p1) (fun v4=>if 0≤(IntKind.wrap .i64 (v1+(1:Int)))∧(IntKind.wrap .i64 (v1+(1:Int)))≤(v.size:Int) then k ((v3.1.1,(v3.1.2.1,())),(v3.2.1,((v.extract (Int.toNat (IntKind.wrap .i64 (v1+(1:Int)))) (Int.toNat (v.size:Int))),()))) else none) else none)
def Um (n:Nat) (s:BA):Option (Except Int (U0×Bool×BA×Unit)):=LQ n s (fun y=>some (.ok y)) (fun p=>some (.error p))
theorem qbb (n:Nat) {S:Type}:∀ s (φ:_→Option S),(Um n s).bind φ=LQ n s (fun y=>φ (.ok y)) (fun p=>φ (.error p)):=by
  intros;unfold Um LQ;first | (simp only [ia,ba,iB,bB,oL,oX,nB,Option.bind_some]) | rfl
def vH (n:Nat):Hint Out:={ live:=fun c=>[],run:=fun c=>none,xm:=fun c q=>none,sch:=fun c=>(cond (Nat.beq c 6) (some [(1,0),(2,0),(3,0),(4,0),(5,0),(0,1),(6,2),(7,0),(8,0)]) none) }
theorem XT (n:Nat):qa tys (ja Out (AL n)) (vH n) n (fa Tryz.f130) 0:=na (fun _=>rfl) _ _ (by kernel_rfl)
theorem kdb (n:Nat):Enters Tryz.prog 130:=enters_of (c:=fa Tryz.f130) Tryz.func130 (by kernel_rfl) (by kernel_rfl)
def m6 (n:Nat):Entry:=⟨130,pcX 144 (.pair .str .unit) (.many K9) (fun xs=>Um n xs.1),none,none⟩
theorem Ofb (n:Nat):EntryOk Tryz.prog gl (m6 n):=TI (kdb n) (fun xs y h=>ma tys_ok (kw n) mixed (hint:=vH n) (n:=n) Tryz.func130 (za (XT n)) (la (φ:=(fun r=>onX r (fun p=>some (Out.pan (lh 144 p))) fun y=>some (Out.ret (ib (.many K9) y)))) (by kernel_rfl) (qbb n xs.1 _) h)) (fun xs p h=>ma tys_ok (kw n) mixed (hint:=vH n) (n:=n) Tryz.func130 (za (XT n)) (la (φ:=(fun r=>onX r (fun p=>some (Out.pan (lh 144 p))) fun y=>some (Out.ret (ib (.many K9) y)))) (by kernel_rfl) (qbb n xs.1 _) h))
def CB (n:Nat):List Entry:=m6 n::AL n
theorem DB (n:Nat):AllOk Tryz.prog gl (CB n):=.cons (Ofb n) (kw n)
def oq (n:Nat) {R:Type} (s1:BA) (n0 t19 t20:Int) (kn:BA→Int→Int→Int→Option R) (ko:(Int)→Option R) (kr:Unit→Option R) (kp:Int→Option R):Option R:=if (decide (t20<t19))=true then if 0≤t20∧t20<(s1.size:Int) then if (decide ((bt s1 t20)≥(48:Int)))=true then if 0≤t20∧t20<(s1.size:Int) then (Fa n (decide ((bt s1 t20)≤(57:Int))) (8:Int)).bind fun x_1=>onX x_1 (fun p2=>kp p2) (fun v2=>if 0≤t20∧t20<(s1.size:Int) then kn s1 (IntKind.wrap .i64 ((IntKind.wrap .i64 ((10:Int)*n0))+(IntKind.wrap .i64 (IntKind.wrap .u8 ((bt s1 t20) - (48:Int)))))) t19 (IntKind.wrap .i64 (t20+(1:Int))) else none) else none else (Fa n false (8:Int)).bind fun x_2=>onX x_2 (fun p3=>kp p3) (fun v3=>if 0≤t20∧t20<(s1.size:Int) then kn s1 (IntKind.wrap .i64 ((IntKind.wrap .i64 ((10:Int)*n0))+(IntKind.wrap .i64 (IntKind.wrap .u8 ((bt s1 t20) - (48:Int)))))) t19 (IntKind.wrap .i64 (t20+(1:Int))) else none) else none else ko n0
def je (n:Nat):Nat→BA→Int→Int→Int→Option (Lx (Int) Unit)
 | 0,_,_,_,_=>none
 | m+1,s1,n0,t19,t20=>oq n s1 n0 t19 t20 (je n m) (fun a=>some (.out a)) (fun a=>some (.ret a)) (fun p=>some (.pan p))
theorem Q9 (n m:Nat) {S:Type}:∀ s1 n0 t19 t20 (φ:_→Option S),(je n (m+1) s1 n0 t19 t20).bind φ=oq n s1 n0 t19 t20 (fun s1 n0 t19 t20=>(je n m s1 n0 t19 t20).bind φ) (fun a=>φ (.out a)) (fun a=>φ (.ret a)) (fun p=>φ (.pan p)):=by
  intros;first | (simp only [je,oq,ia,ba,iB,bB,oL,oX,nB,Option.bind_some]) | rfl
def FB:List Sl:=.dat .str::.top::.top::.dat (.int .i64)::tp 15 (.dat (.int .i64)::.dat (.int .i64)::tp 26 [])
def EB:List RS:=[]
def ZP:List Sl:=.top::.top::.top::.dat (.int .i64)::tp 43 []
def YP:List RS:=[]
def Zh (K:XE→List AV→oa→Option Out):Lx (Int) Unit→Option Out:=fun x=>onL x (fun a=>Zb ZP YP (a,()) () (K (.exit 0))) (fun _=>none) (fun p=>K (.panic (lh 144 p)) (List.replicate 47 .top) [])
def NQ (n:Nat) {R:Type} (s:BA) (k:Int→Option R) (kp:Int→Option R):Option R:=if (s.toList==(⟨#[]⟩:BA).toList)=true then k (-1:Int) else (rh n s (⟨#[32,83,73,90,69,61]⟩:BA)).bind fun x_1=>onX x_1 (fun p=>kp p) (fun v=>if (decide ((v.size:Int)≥(1:Int)))=true then (Fa n (decide ((v.size:Int)≤(10:Int))) (8:Int)).bind fun x_2=>onX x_2 (fun p1=>kp p1) (fun v1=>(je n n v (0:Int) (v.size:Int) (0:Int)).bind fun x_3=>onL x_3 (fun a_4=>(Fa n (decide (a_4≤(1073741824:Int))) (8:Int)).bind fun x_5=>onX x_5 (fun p4=>kp p4) (fun v4=>k a_4)) (fun _=>none) (fun p5=>kp p5)) else (Fa n false (8:Int)).bind fun x_6=>onX x_6 (fun p6=>kp p6) (fun v5=>(je n n v (0:Int) (v.size:Int) (0:Int)).bind fun x_7=>onL x_7 (fun a_8=>(Fa n (decide (a_8≤(1073741824:Int))) (8:Int)).bind fun x_9=>onX x_9 (fun p7=>kp p7) (fun v6=>k a_8)) (fun _=>none) (fun p8=>kp p8)))
def cF (n:Nat) (s:BA):Option (Except Int Int):=NQ n s (fun y=>some (.ok y)) (fun p=>some (.error p))
theorem sbb (n:Nat) {S:Type}:∀ s (φ:_→Option S),(cF n s).bind φ=NQ n s (fun y=>φ (.ok y)) (fun p=>φ (.error p)):=by
  intros;unfold cF NQ;first | (simp only [ia,ba,iB,bB,oL,oX,nB,Option.bind_some]) | rfl
def pq (n:Nat):Hint Out:={ live:=fun c=>(cond (Nat.beq c 0) (lv [0,3,19,20]) []),run:=fun c=>(cond (Nat.beq c 0) (some (Qf FB EB fun σ ρ K=>(je n n σ.1 σ.2.1 σ.2.2.1 σ.2.2.2.1).bind (Zh K))) none),xm:=fun c q=>(cond (Nat.beq c 0&&Nat.beq (q.getD 1000000) 0&&q.isSome) (some [(3,none)]) none) }
def xx (n:Nat) (K:XE→List AV→oa→Option Out) (m:Nat) (s1:BA) (n0:Int) (t19:Int) (t20:Int):Option Out:=Dc tys (ja Out (CB n)) (pq n) n (ta [1,1,1,1,1,0,1,0,0] (fa Tryz.f132)) 0 FB EB K m (s1,(n0,(t19,(t20,())))) ()
theorem ZT (n:Nat) (K:XE→List AV→oa→Option Out):∀ (m:Nat) s1 n0 t19 t20,xx n K m s1 n0 t19 t20=(je n m s1 n0 t19 t20).bind (Zh K)
  | 0,_,_,_,_=>by kernel_rfl
  | m+1,s1,n0,t19,t20=>by
    have h1:xx n K (m+1) s1 n0 t19 t20=oq n s1 n0 t19 t20 (xx n K m) (fun a=>Zh K (.out a)) (fun a=>Zh K (.ret a)) (fun p=>Zh K (.pan p)):=by kernel_rfl
    have h2:xx n K m=fun s1 n0 t19 t20=>(je n m s1 n0 t19 t20).bind (Zh K):=by
      repeat (refine funext fun _=>?_)
      exact ZT n K m _ _ _ _
    rw [h1,h2];exact (Q9 n m _ _ _ _ (Zh K)).symm
theorem o6 (n:Nat):ec tys (ja Out (CB n)) (pq n) n (ta [1,1,1,1,1,0,1,0,0] (fa Tryz.f132)) 0:=Ba (sp:=FB) (rp:=EB) (by kernel_rfl) fun K σ ρ=>ZT n K n σ.1 σ.2.1 σ.2.2.1 σ.2.2.2.1
theorem aU (n:Nat):qa tys (ja Out (CB n)) (pq n) n (fa Tryz.f132) 0:=⟨aa,⟨⟨aa,⟨⟨aa,aa⟩,aa⟩⟩,⟨aa,⟨aa,⟨aa,⟨⟨aa,⟨o6 n,⟨aa,⟨⟨aa,aa⟩,⟨⟨aa,⟨aa,aa⟩⟩,aa⟩⟩⟩⟩⟩,⟨aa,⟨aa,aa⟩⟩⟩⟩⟩⟩⟩⟩
theorem mdb (n:Nat):Enters Tryz.prog 132:=enters_of (c:=fa Tryz.f132) Tryz.func132 (by kernel_rfl) (by kernel_rfl)
def q6 (n:Nat):Entry:=⟨132,pcX 144 (.pair .str .unit) (.one (.int .i64)) (fun xs=>cF n xs.1),none,none⟩
theorem Qfb (n:Nat):EntryOk Tryz.prog gl (q6 n):=TI (mdb n) (fun xs y h=>ma tys_ok (DB n) mixed (hint:=pq n) (n:=n) Tryz.func132 (za (aU n)) (la (φ:=(fun r=>onX r (fun p=>some (Out.pan (lh 144 p))) fun y=>some (Out.ret (ib (.one (.int .i64)) y)))) (by kernel_rfl) (sbb n xs.1 _) h)) (fun xs p h=>ma tys_ok (DB n) mixed (hint:=pq n) (n:=n) Tryz.func132 (za (aU n)) (la (φ:=(fun r=>onX r (fun p=>some (Out.pan (lh 144 p))) fun y=>some (Out.ret (ib (.one (.int .i64)) y)))) (by kernel_rfl) (sbb n xs.1 _) h))
def GB (n:Nat):List Entry:=q6 n::CB n
theorem HO (n:Nat):AllOk Tryz.prog gl (GB n):=.cons (Qfb n) (DB n)
def Mo (n:Nat) {R:Type} (s1:BA) (blank:Bool) (t6 t7:Int) (kn:BA→Bool→Int→Int→Option R) (ko:(BA×Bool)→Option R) (kr:(Bool)→Option R) (kp:Int→Option R):Option R:=if (decide (t7<t6))=true then if 0≤t7∧t7<(s1.size:Int) then if (decide ((bt s1 t7)<(32:Int)))=false then if 0≤t7∧t7<(s1.size:Int) then if (decide ((bt s1 t7)>(126:Int)))=false then if 0≤t7∧t7<(s1.size:Int) then if ((bt s1 t7)==(32:Int))=true then if blank=true then kr false else if 0≤t7∧t7<(s1.size:Int) then kn s1 ((bt s1 t7)==(32:Int)) t6 (IntKind.wrap .i64 (t7+(1:Int))) else none else if 0≤t7∧t7<(s1.size:Int) then kn s1 ((bt s1 t7)==(32:Int)) t6 (IntKind.wrap .i64 (t7+(1:Int))) else none else none else kr false else none else kr false else none else ko (s1,blank)
def ke (n:Nat):Nat→BA→Bool→Int→Int→Option (Lx (BA×Bool) (Bool))
 | 0,_,_,_,_=>none
 | m+1,s1,blank,t6,t7=>Mo n s1 blank t6 t7 (ke n m) (fun a=>some (.out a)) (fun a=>some (.ret a)) (fun p=>some (.pan p))
theorem r6 (n m:Nat) {S:Type}:∀ s1 blank t6 t7 (φ:_→Option S),(ke n (m+1) s1 blank t6 t7).bind φ=Mo n s1 blank t6 t7 (fun s1 blank t6 t7=>(ke n m s1 blank t6 t7).bind φ) (fun a=>φ (.out a)) (fun a=>φ (.ret a)) (fun p=>φ (.pan p)):=by
  intros;first | (simp only [ke,Mo,ia,ba,iB,bB,oL,oX,nB,Option.bind_some]) | rfl
def zx:List Sl:=.dat .str::.top::.top::.dat .bool::.top::.top::.dat (.int .i64)::.dat (.int .i64)::tp 33 []
def yx:List RS:=[]
def bN:List Sl:=.dat .str::.top::.top::.dat .bool::tp 37 []
def aN:List RS:=[]
def dN:List Sl:=.top::.top::.dat .bool::tp 38 []
def cN:List RS:=[]
def Bg (K:XE→List AV→oa→Option Out):Lx (BA×Bool) (Bool)→Option Out:=fun x=>onL x (fun a=>Zb bN aN (a.1,(a.2,())) () (K (.exit 0))) (fun a=>Zb dN cN (a,()) () (K .ret)) (fun _=>none)
def WK (n:Nat) {R:Type} (s:BA) (k:Bool→Option R):Option R:=(ke n n s true (s.size:Int) (0:Int)).bind fun x_1=>onL x_1 (fun a_2=>if (!a_2.2)=true then k (decide ((a_2.1.size:Int)≤(64:Int))) else k false) (fun a_3=>k a_3) (fun _=>none)
def xH (n:Nat) (s:BA):Option Bool:=WK n s some
theorem Rfb (n:Nat) {S:Type}:∀ s (φ:_→Option S),(xH n s).bind φ=WK n s φ:=by
  intros;unfold xH WK;first | (simp only [ia,ba,iB,bB,oL,oX,nB,Option.bind_some]) | rfl
def Fs (n:Nat):Hint Out:={ live:=fun c=>(cond (Nat.beq c 0) (lv [0,3,6,7]) []),run:=fun c=>(cond (Nat.beq c 0) (some (Qf zx yx fun σ ρ K=>(ke n n σ.1 σ.2.1 σ.2.2.1 σ.2.2.2.1).bind (Bg K))) none),xm:=fun c q=>(cond (Nat.beq c 0&&Nat.beq (q.getD 1000000) 0&&q.isSome) (some [(0,none),(3,none)]) (cond (Nat.beq c 1&&q.isNone) (some [(2,none)]) none)) }
def Es (n:Nat) (K:XE→List AV→oa→Option Out) (m:Nat) (s1:BA) (blank:Bool) (t6:Int) (t7:Int):Option Out:=Dc tys (ja Out (GB n)) (Fs n) n (ta [1,1,0,1,0,0] (fa Tryz.f135)) 0 zx yx K m (s1,(blank,(t6,(t7,())))) ()
theorem JO (n:Nat) (K:XE→List AV→oa→Option Out):∀ (m:Nat) s1 blank t6 t7,Es n K m s1 blank t6 t7=(ke n m s1 blank t6 t7).bind (Bg K)
  | 0,_,_,_,_=>by kernel_rfl
  | m+1,s1,blank,t6,t7=>by
    have h1:Es n K (m+1) s1 blank t6 t7=Mo n s1 blank t6 t7 (Es n K m) (fun a=>Bg K (.out a)) (fun a=>Bg K (.ret a)) (fun p=>Bg K (.pan p)):=by kernel_rfl
    have h2:Es n K m=fun s1 blank t6 t7=>(ke n m s1 blank t6 t7).bind (Bg K):=by
      repeat (refine funext fun _=>?_)
      exact JO n K m _ _ _ _
    rw [h1,h2];exact (r6 n m _ _ _ _ (Bg K)).symm
theorem FZ (n:Nat):ec tys (ja Out (GB n)) (Fs n) n (ta [1,1,0,1,0,0] (fa Tryz.f135)) 0:=Ba (sp:=zx) (rp:=yx) (by kernel_rfl) fun K σ ρ=>JO n K n σ.1 σ.2.1 σ.2.2.1 σ.2.2.2.1
theorem s6 (n:Nat):qa tys (ja Out (GB n)) (Fs n) n (fa Tryz.f135) 0:=⟨aa,⟨aa,⟨⟨aa,⟨FZ n,⟨aa,⟨⟨aa,aa⟩,⟨⟨aa,⟨⟨aa,⟨⟨aa,aa⟩,aa⟩⟩,aa⟩⟩,aa⟩⟩⟩⟩⟩,⟨aa,aa⟩⟩⟩⟩
theorem R9 (n:Nat):Enters Tryz.prog 135:=enters_of (c:=fa Tryz.f135) Tryz.func135 (by kernel_rfl) (by kernel_rfl)
def ZW (n:Nat):Entry:=⟨135,pcT (.pair .str .unit) (.one .bool) (fun xs=>xH n xs.1),none,none⟩
theorem ndb (n:Nat):EntryOk Tryz.prog gl (ZW n):=ya (R9 n) fun xs y h=>ma tys_ok (HO n) mixed (hint:=Fs n) (n:=n) Tryz.func135 (za (s6 n)) (la (φ:=(fun y=>some (Out.ret (ib (.one .bool) y)))) (by kernel_rfl) (Rfb n xs.1 _) h)
def eN (n:Nat):List Entry:=ZW n::GB n
theorem XK (n:Nat):AllOk Tryz.prog gl (eN n):=.cons (ndb n) (HO n)
def KQ (n:Nat) {R:Type} (v:T1) (k:(T1×Bool×Unit)→Option R):Option R:=if (v.1==(1:Int))=true then (Xc n v.2.1).bind fun v1=>k ((v.1,(v.2.1,(false,(((⟨#[]⟩:BA),((⟨#[]⟩:BA),())),((0:Int),()))))),(v1,())) else if (v.1==(2:Int))=true then (Xc n v.2.1).bind fun v2=>k ((v.1,(v.2.1,(false,(((⟨#[]⟩:BA),((⟨#[]⟩:BA),())),((0:Int),()))))),(v2,())) else if (v.1==(3:Int))=true then dup 1 (if (!v.2.2.1)=true then if v.2.2.1=false then (dz n (v.2.2.2.1.1,(v.2.2.2.1.2.1,()))).bind fun v3=>if v3=true then if (decide (v.2.2.2.2.1≥(-1:Int)))=true then dup 1 (k ((v.1,((⟨#[]⟩:BA),(v.2.2.1,((v.2.2.2.1.1,(v.2.2.2.1.2.1,())),(v.2.2.2.2.1,()))))),((decide (v.2.2.2.2.1≤(1073741824:Int))),()))) else dup 1 (k ((v.1,((⟨#[]⟩:BA),(v.2.2.1,((v.2.2.2.1.1,(v.2.2.2.1.2.1,())),(v.2.2.2.2.1,()))))),(false,()))) else dup 1 (k ((v.1,((⟨#[]⟩:BA),(v.2.2.1,((v.2.2.2.1.1,(v.2.2.2.1.2.1,())),(v.2.2.2.2.1,()))))),(false,()))) else if (decide (v.2.2.2.2.1≥(-1:Int)))=true then dup 1 (k ((v.1,((⟨#[]⟩:BA),(v.2.2.1,((v.2.2.2.1.1,(v.2.2.2.1.2.1,())),(v.2.2.2.2.1,()))))),((decide (v.2.2.2.2.1≤(1073741824:Int))),()))) else dup 1 (k ((v.1,((⟨#[]⟩:BA),(v.2.2.1,((v.2.2.2.1.1,(v.2.2.2.1.2.1,())),(v.2.2.2.2.1,()))))),(false,()))) else if v.2.2.1=false then (dz n (v.2.2.2.1.1,(v.2.2.2.1.2.1,()))).bind fun v4=>
 if v4=true then if (decide (v.2.2.2.2.1≥(-1:Int)))=true then dup 1 (k ((v.1,((⟨#[]⟩:BA),(v.2.2.1,(((⟨#[]⟩:BA),((⟨#[]⟩:BA),())),(v.2.2.2.2.1,()))))),((decide (v.2.2.2.2.1≤(1073741824:Int))),()))) else dup 1 (k ((v.1,((⟨#[]⟩:BA),(v.2.2.1,(((⟨#[]⟩:BA),((⟨#[]⟩:BA),())),(v.2.2.2.2.1,()))))),(false,()))) else dup 1 (k ((v.1,((⟨#[]⟩:BA),(v.2.2.1,(((⟨#[]⟩:BA),((⟨#[]⟩:BA),())),(v.2.2.2.2.1,()))))),(false,()))) else if (decide (v.2.2.2.2.1≥(-1:Int)))=true then dup 1 (k ((v.1,((⟨#[]⟩:BA),(v.2.2.1,(((⟨#[]⟩:BA),((⟨#[]⟩:BA),())),(v.2.2.2.2.1,()))))),((decide (v.2.2.2.2.1≤(1073741824:Int))),()))) else dup 1 (k ((v.1,((⟨#[]⟩:BA),(v.2.2.1,(((⟨#[]⟩:BA),((⟨#[]⟩:BA),())),(v.2.2.2.2.1,()))))),(false,())))) else if (v.1==(4:Int))=true then (dz n (v.2.2.2.1.1,(v.2.2.2.1.2.1,()))).bind fun v7=>k ((v.1,((⟨#[]⟩:BA),(false,((v.2.2.2.1.1,(v.2.2.2.1.2.1,())),((0:Int),()))))),(v7,())) else if (v.1==(7:Int))=true then (xH n v.2.1).bind fun v8=>if v8=false then if (v.2.1.toList==(⟨#[]⟩:BA).toList)=true then dup 1 (k ((v.1,(v.2.1,(false,(((⟨#[]⟩:BA),((⟨#[]⟩:BA),())),((0:Int),()))))),((v.1==(7:Int)),()))) else dup 1 (k ((v.1,(v.2.1,(false,(((⟨#[]⟩:BA),((⟨#[]⟩:BA),())),((0:Int),()))))),(false,())))
 else dup 1 (k ((v.1,(v.2.1,(false,(((⟨#[]⟩:BA),((⟨#[]⟩:BA),())),((0:Int),()))))),(true,()))) else if (v.1==(9:Int))=true then (xH n v.2.1).bind fun v9=>if v9=false then if (v.2.1.toList==(⟨#[]⟩:BA).toList)=true then dup 1 (k ((v.1,(v.2.1,(false,(((⟨#[]⟩:BA),((⟨#[]⟩:BA),())),((0:Int),()))))),((v.1==(7:Int)),()))) else dup 1 (k ((v.1,(v.2.1,(false,(((⟨#[]⟩:BA),((⟨#[]⟩:BA),())),((0:Int),()))))),(false,()))) else dup 1 (k ((v.1,(v.2.1,(false,(((⟨#[]⟩:BA),((⟨#[]⟩:BA),())),((0:Int),()))))),(true,()))) else if (v.1==(5:Int))=true then k ((v.1,((⟨#[]⟩:BA),(false,(((⟨#[]⟩:BA),((⟨#[]⟩:BA),())),((0:Int),()))))),(true,())) else if (v.1==(6:Int))=true then k ((v.1,((⟨#[]⟩:BA),(false,(((⟨#[]⟩:BA),((⟨#[]⟩:BA),())),((0:Int),()))))),(true,())) else if (v.1==(8:Int))=true then k ((v.1,((⟨#[]⟩:BA),(false,(((⟨#[]⟩:BA),((⟨#[]⟩:BA),())),((0:Int),()))))),(true,())) else k ((v.1,((⟨#[]⟩:BA),(false,(((⟨#[]⟩:BA),((⟨#[]⟩:BA),())),((0:Int),()))))),(false,()))
def j6 (n:Nat) (v:T1):Option (T1×Bool×Unit):=KQ n v some
theorem Jhb (n:Nat) {S:Type}:∀ v (φ:_→Option S),(j6 n v).bind φ=KQ n v φ:=by
  intros;unfold j6 KQ;first | (simp only [ia,ba,iB,bB,oL,oX,nB,Option.bind_some]) | rfl
def WT (n:Nat):Hint Out:={ live:=fun c=>[],run:=fun c=>none,xm:=fun c q=>none,sch:=fun c=>(cond (Nat.beq c 18) (some [(1,0),(0,1),(2,1),(3,3),(4,0),(5,0),(6,3),(7,0),(8,0),(9,0),(14,5),(10,7),(11,6),(12,6),(13,6),(15,6)]) (cond (Nat.beq c 14) (some [(1,0),(0,1),(2,1),(3,3),(4,2),(5,0)]) (cond (Nat.beq c 11) (some [(1,0),(0,1),(2,1),(3,0),(4,0),(5,1),(6,3),(7,0),(8,0),(9,0),(10,3),(11,0),(12,0),(13,0),(14,0),(18,5),(15,7),(16,6),(17,6),(19,6)]) (cond (Nat.beq c 8) (some [(0,0),(2,0),(1,1),(4,0),(5,5),(3,7),(6,6),(7,2)]) (cond (Nat.beq c 6) (some [(1,0),(0,1),(2,1),(3,3),(4,2),(5,0)]) none))))) }
theorem P9 (n:Nat):qa tys (ja Out (eN n)) (WT n) n (fa Tryz.f102) 0:=na (fun _=>rfl) _ _ (by kernel_rfl)
theorem jdb (n:Nat):Enters Tryz.prog 102:=enters_of (c:=fa Tryz.f102) Tryz.func102 (by kernel_rfl) (by kernel_rfl)
def l6 (n:Nat):Entry:=⟨102,pcT K11 (.many K10) (fun xs=>j6 n xs.1),none,none⟩
theorem Nfb (n:Nat):EntryOk Tryz.prog gl (l6 n):=ya (jdb n) fun xs y h=>ma tys_ok (XK n) mixed (hint:=WT n) (n:=n) Tryz.func102 (za (P9 n)) (la (φ:=(fun y=>some (Out.ret (ib (.many K10) y)))) (by kernel_rfl) (Jhb n xs.1 _) h)
def VT (n:Nat):List Entry:=l6 n::eN n
theorem FO (n:Nat):AllOk Tryz.prog gl (VT n):=.cons (Nfb n) (XK n)
def CZ (n:Nat) {R:Type} (v:T1) (k:Bool→Option R):Option R:=(j6 n (v.1,(v.2.1,(v.2.2.1,((v.2.2.2.1.1,(v.2.2.2.1.2.1,())),(v.2.2.2.2.1,())))))).bind fun v1=>if v1.2.1=true then k ((v1.1.1==v.1)&&((v1.1.2.1.toList==v.2.1.toList)&&((v1.1.2.2.1==v.2.2.1)&&(((v1.1.2.2.2.1.1.toList==v.2.2.2.1.1.toList)&&((v1.1.2.2.2.1.2.1.toList==v.2.2.2.1.2.1.toList)&&true))&&((v1.1.2.2.2.2.1==v.2.2.2.2.1)&&true))))) else k false
def qh (n:Nat) (v:T1):Option Bool:=CZ n v some
theorem ekb (n:Nat) {S:Type}:∀ v (φ:_→Option S),(qh n v).bind φ=CZ n v φ:=by
  intros;unfold qh CZ;first | (simp only [ia,ba,iB,bB,oL,oX,nB,Option.bind_some]) | rfl
def UW (n:Nat):Hint Out:={ live:=fun c=>[],run:=fun c=>none,xm:=fun c q=>none }
theorem cdb (n:Nat):qa tys (ja Out (VT n)) (UW n) n (fa Tryz.f74) 0:=na (fun _=>rfl) _ _ (by kernel_rfl)
theorem Gfb (n:Nat):Enters Tryz.prog 74:=enters_of (c:=fa Tryz.f74) Tryz.func74 (by kernel_rfl) (by kernel_rfl)
def obb (n:Nat):Entry:=⟨74,pcT K11 (.one .bool) (fun xs=>qh n xs.1),none,none⟩
theorem Ghb (n:Nat):EntryOk Tryz.prog gl (obb n):=ya (Gfb n) fun xs y h=>ma tys_ok (FO n) mixed (hint:=UW n) (n:=n) Tryz.func74 (za (cdb n)) (la (φ:=(fun y=>some (Out.ret (ib (.one .bool) y)))) (by kernel_rfl) (ekb n xs.1 _) h)
def DZ (n:Nat):List Entry:=obb n::VT n
theorem KT (n:Nat):AllOk Tryz.prog gl (DZ n):=.cons (Ghb n) (FO n)
end
end Go.Proofs.YtdohilmgblkppaaGreatDoor.AM
