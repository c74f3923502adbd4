/- Typed functions that tell what the Go functions of this seat answer, and proofs of it, by program (gen.py). -/
import Derived.Test.YtdhehcnfkcibiaaGreatDoorXF1
set_option linter.all false
set_option linter.unusedVariables false
set_option linter.unusedSimpArgs false
set_option maxRecDepth 1000000
set_option maxHeartbeats 0
namespace Go.Proofs.YtdhehcnfkcibiaaGreatDoor.AM
open Go Go.RowKit
noncomputable section
def iC (n:Nat) {R:Type} (c:Int) (k:Bool→Option R):Option R:=if (decide (c≥(97:Int)))=true then if (decide (c≤(122:Int)))=false then if (decide (c≥(65:Int)))=true then k (decide (c≤(90:Int))) else k false else k true else if (decide (c≥(65:Int)))=true then k (decide (c≤(90:Int))) else k false
def ZA (n:Nat) (c:Int):Option Bool:=iC n c some
theorem Q7 (n:Nat) {S:Type}:∀ c (φ:_→Option S),(ZA n c).bind φ=iC n c φ:=by
  intros;unfold ZA iC;first | (simp only [fa,ba,iB,bB,oL,oX,nB,Option.bind_some]) | rfl
def OI (n:Nat):Hint Out:={ live:=fun c=>[],run:=fun c=>none,xm:=fun c q=>none }
theorem AW (n:Nat):qa tys (da Out (Ig n)) (OI n) n (aa Tryz.f234) 0:=oa (fun _=>rfl) _ _ (by kernel_rfl)
theorem BZ (n:Nat):Enters Tryz.prog 234:=enters_of (c:=aa Tryz.f234) Tryz.func234 (by kernel_rfl) (by kernel_rfl)
def zQ (n:Nat):Entry:=⟨234,pcT (.pair (.int .u8) .unit) (.one .bool) (fun xs=>ZA n xs.1),none,none⟩
theorem j5 (n:Nat):EntryOk Tryz.prog gl (zQ n):=wa (BZ n) fun xs y h=>ja tys_ok (Aj n) mixed (hint:=OI n) (n:=n) Tryz.func234 (Ea (AW n)) (ma (φ:=(fun y=>some (Out.ret (Uc (.one .bool) y)))) (by kernel_rfl) (Q7 n xs.1 _) h)
def jr (n:Nat):List Entry:=zQ n::Ig n
theorem lF (n:Nat):AllOk Tryz.prog gl (jr n):=.cons (j5 n) (Aj n)
def mu (n:Nat) {R:Type} (c1:Int) (s:BA) (i:Int) (kn:Int→BA→Int→Option R) (ko:(Unit)→Option R) (kr:(Bool)→Option R) (kp:Int→Option R):Option R:=if (decide (i<(s.size:Int)))=true then if 0≤i∧i<(s.size:Int) then if ((bt s i)==c1)=true then kr true else kn c1 s (IntKind.wrap .i64 (i+(1:Int))) else none else ko ()
def Eh (n:Nat):Nat→Int→BA→Int→Option (Lx (Unit) (Bool))
 | 0,_,_,_=>none
 | m+1,c1,s,i=>mu n c1 s i (Eh n m) (fun a=>some (.out a)) (fun a=>some (.ret a)) (fun p=>some (.pan p))
theorem q5 (n m:Nat) {S:Type}:∀ c1 s i (φ:_→Option S),(Eh n (m+1) c1 s i).bind φ=mu n c1 s i (fun c1 s i=>(Eh n m c1 s i).bind φ) (fun a=>φ (.out a)) (fun a=>φ (.ret a)) (fun p=>φ (.pan p)):=by
  intros;first | (simp only [Eh,mu,fa,ba,iB,bB,oL,oX,nB,Option.bind_some]) | rfl
def lC:List Sl:=.dat (.int .u8)::.top::.top::.dat .str::.dat (.int .i64)::tp 11 []
def kC:List RS:=[]
def rP:List Sl:=tp 16 []
def qP:List RS:=[]
def tP:List Sl:=.top::.top::.dat .bool::tp 13 []
def sP:List RS:=[]
def Ak (K:XE→List AV→ia→Option Out):Lx (Unit) (Bool)→Option Out:=fun x=>onL x (fun a=>Ye rP qP () () (K (.exit 0))) (fun a=>Ye tP sP (a,()) () (K .ret)) (fun _=>none)
def gN (n:Nat) {R:Type} (c:Int) (k:Bool→Option R):Option R:=(Eh n n c (⟨#[33,35,36,37,38,39,42,43,45,47,61,63,94,95,96,123,124,125,126]⟩:BA) (0:Int)).bind fun x_1=>onL x_1 (fun a_2=>k false) (fun a_3=>k a_3) (fun _=>none)
def pP (n:Nat) (c:Int):Option Bool:=gN n c some
theorem vdb (n:Nat) {S:Type}:∀ c (φ:_→Option S),(pP n c).bind φ=gN n c φ:=by
  intros;unfold pP gN;first | (simp only [fa,ba,iB,bB,oL,oX,nB,Option.bind_some]) | rfl
def Cx (n:Nat):Hint Out:={ live:=fun c=>(cond (Nat.beq c 0) (lv [0,3,4]) []),run:=fun c=>(cond (Nat.beq c 0) (some (Zl lC kC fun σ ρ K=>(Eh n n σ.1 σ.2.1 σ.2.2.1).bind (Ak K))) none),xm:=fun c q=>(cond (Nat.beq c 0&&Nat.beq (q.getD 1000000) 0&&q.isSome) (some []) (cond (Nat.beq c 1&&q.isNone) (some [(2,none)]) none)) }
def Bx (n:Nat) (K:XE→List AV→ia→Option Out) (m:Nat) (c1:Int) (s:BA) (i:Int):Option Out:=rd tys (da Out (jr n)) (Cx n) n (ta [1,1,0,1,0,0] (aa Tryz.f235)) 0 lC kC K m (c1,(s,(i,()))) ()
theorem AQ (n:Nat) (K:XE→List AV→ia→Option Out):∀ (m:Nat) c1 s i,Bx n K m c1 s i=(Eh n m c1 s i).bind (Ak K)
  | 0,_,_,_=>by kernel_rfl
  | m+1,c1,s,i=>by
    have h1:Bx n K (m+1) c1 s i=mu n c1 s i (Bx n K m) (fun a=>Ak K (.out a)) (fun a=>Ak K (.ret a)) (fun p=>Ak K (.pan p)):=by kernel_rfl
    have h2:Bx n K m=fun c1 s i=>(Eh n m c1 s i).bind (Ak K):=by
      repeat (refine funext fun _=>?_)
      exact AQ n K m _ _ _
    rw [h1,h2];exact (q5 n m _ _ _ (Ak K)).symm
theorem HZ (n:Nat):Vc tys (da Out (jr n)) (Cx n) n (ta [1,1,0,1,0,0] (aa Tryz.f235)) 0:=Ca (sp:=lC) (rp:=kC) (by kernel_rfl) fun K σ ρ=>AQ n K n σ.1 σ.2.1 σ.2.2.1
theorem u5 (n:Nat):qa tys (da Out (jr n)) (Cx n) n (aa Tryz.f235) 0:=⟨trivial,⟨trivial,⟨⟨trivial,⟨HZ n,⟨⟨trivial,⟨trivial,trivial⟩⟩,⟨⟨trivial,⟨⟨trivial,trivial⟩,trivial⟩⟩,trivial⟩⟩⟩⟩,⟨trivial,trivial⟩⟩⟩⟩
theorem T7 (n:Nat):Enters Tryz.prog 235:=enters_of (c:=aa Tryz.f235) Tryz.func235 (by kernel_rfl) (by kernel_rfl)
def NX (n:Nat):Entry:=⟨235,pcT (.pair (.int .u8) .unit) (.one .bool) (fun xs=>pP n xs.1),none,none⟩
theorem pbb (n:Nat):EntryOk Tryz.prog gl (NX n):=wa (T7 n) fun xs y h=>ja tys_ok (lF n) mixed (hint:=Cx n) (n:=n) Tryz.func235 (Ea (u5 n)) (ma (φ:=(fun y=>some (Out.ret (Uc (.one .bool) y)))) (by kernel_rfl) (vdb n xs.1 _) h)
def Rp (n:Nat):List Entry:=NX n::jr n
theorem iN (n:Nat):AllOk Tryz.prog gl (Rp n):=.cons (pbb n) (lF n)
def Qp (n:Nat) {R:Type} (l1:(Sq BA)) (i1 k0:Int) (kn:(Sq BA)→Int→Int→Option R) (ko:((Sq BA)×Int)→Option R) (kr:(Bool)→Option R) (kp:Int→Option R):Option R:=if 0≤i1∧i1<(l1.n:Int) then if (decide (k0<((l1.at' (Int.toNat i1)).size:Int)))=true then if 0≤i1∧i1<(l1.n:Int) then if 0≤k0∧k0<((l1.at' (Int.toNat i1)).size:Int) then (ZA n (bt (l1.at' (Int.toNat i1)) k0)).bind fun v1=>if (!v1)=true then if 0≤i1∧i1<(l1.n:Int) then if 0≤k0∧k0<((l1.at' (Int.toNat i1)).size:Int) then (Ax n (bt (l1.at' (Int.toNat i1)) k0)).bind fun v2=>if (!v2)=true then if 0≤i1∧i1<(l1.n:Int) then if 0≤k0∧k0<((l1.at' (Int.toNat i1)).size:Int) then (pP n (bt (l1.at' (Int.toNat i1)) k0)).bind fun v3=>if (!v3)=true then kr false else kn l1 i1 (IntKind.wrap .i64 (k0+(1:Int))) else none else none else kn l1 i1 (IntKind.wrap .i64 (k0+(1:Int))) else none else none else kn l1 i1 (IntKind.wrap .i64 (k0+(1:Int))) else none else none else ko (l1,i1) else none
def Sf (n:Nat):Nat→(Sq BA)→Int→Int→Option (Lx ((Sq BA)×Int) (Bool))
 | 0,_,_,_=>none
 | m+1,l1,i1,k0=>Qp n l1 i1 k0 (Sf n m) (fun a=>some (.out a)) (fun a=>some (.ret a)) (fun p=>some (.pan p))
theorem DZ (n m:Nat) {S:Type}:∀ l1 i1 k0 (φ:_→Option S),(Sf n (m+1) l1 i1 k0).bind φ=Qp n l1 i1 k0 (fun l1 i1 k0=>(Sf n m l1 i1 k0).bind φ) (fun a=>φ (.out a)) (fun a=>φ (.ret a)) (fun p=>φ (.pan p)):=by
  intros;first | (simp only [Sf,Qp,fa,ba,iB,bB,oL,oX,nB,Option.bind_some]) | rfl
def Hz:List Sl:=.top::.top::.top::.dat (.sl .str)::.dat (.int .i64)::.dat (.int .i64)::tp 50 []
def Gz:List RS:=[]
def aN:List Sl:=.top::.top::.top::.dat (.sl .str)::.dat (.int .i64)::tp 51 []
def ZM:List RS:=[]
def cN:List Sl:=.top::.top::.dat .bool::tp 53 []
def bN:List RS:=[]
def Ii (K:XE→List AV→ia→Option Out):Lx ((Sq BA)×Int) (Bool)→Option Out:=fun x=>onL x (fun a=>Ye aN ZM (a.1,(a.2,())) () (K (.exit 2))) (fun a=>Ye cN bN (a,()) () (K .ret)) (fun _=>none)
def Pp (n:Nat) {R:Type} (l:(Sq BA)) (i:Int) (kn:(Sq BA)→Int→Option R) (ko:(Unit)→Option R) (kr:(Bool)→Option R) (kp:Int→Option R):Option R:=if (decide (i<(l.n:Int)))=true then if 0≤i∧i<(l.n:Int) then if ((l.at' (Int.toNat i)).toList==(⟨#[]⟩:BA).toList)=true then kr false else (Sf n n l i (0:Int)).bind fun x_1=>onL x_1 (fun a_2=>kn a_2.1 (IntKind.wrap .i64 (a_2.2+(1:Int)))) (fun a_3=>kr a_3) (fun _=>none) else none else ko ()
def Rf (n:Nat):Nat→(Sq BA)→Int→Option (Lx (Unit) (Bool))
 | 0,_,_=>none
 | m+1,l,i=>Pp n l i (Rf n m) (fun a=>some (.out a)) (fun a=>some (.ret a)) (fun p=>some (.pan p))
theorem CZ (n m:Nat) {S:Type}:∀ l i (φ:_→Option S),(Rf n (m+1) l i).bind φ=Pp n l i (fun l i=>(Rf n m l i).bind φ) (fun a=>φ (.out a)) (fun a=>φ (.ret a)) (fun p=>φ (.pan p)):=by
  intros;first | (simp only [Rf,Pp,fa,ba,iB,bB,oL,oX,nB,Option.bind_some]) | rfl
def Fz:List Sl:=.top::.top::.top::.dat (.sl .str)::.dat (.int .i64)::tp 51 []
def Ez:List RS:=[]
def VM:List Sl:=tp 56 []
def UM:List RS:=[]
def XM:List Sl:=.top::.top::.dat .bool::tp 53 []
def WM:List RS:=[]
def Hi (K:XE→List AV→ia→Option Out):Lx (Unit) (Bool)→Option Out:=fun x=>onL x (fun a=>Ye VM UM () () (K (.exit 0))) (fun a=>Ye XM WM (a,()) () (K .ret)) (fun _=>none)
def yG (n:Nat) {R:Type} (s:BA) (k:Bool→Option R):Option R:=(ux n s (46:Int)).bind fun v=>(Rf n n v (0:Int)).bind fun x_1=>onL x_1 (fun a_2=>k true) (fun a_3=>k a_3) (fun _=>none)
def jC (n:Nat) (s:BA):Option Bool:=yG n s some
theorem nbb (n:Nat) {S:Type}:∀ s (φ:_→Option S),(jC n s).bind φ=yG n s φ:=by
  intros;unfold jC yG;first | (simp only [fa,ba,iB,bB,oL,oX,nB,Option.bind_some]) | rfl
def zl (n:Nat):Hint Out:={ live:=fun c=>(cond (Nat.beq c 0) [(3,some (.sl .str)),(4,none)] (cond (Nat.beq c 2) [(3,some (.sl .str)),(4,none),(5,none)] [])),run:=fun c=>(cond (Nat.beq c 0) (some (Zl Fz Ez fun σ ρ K=>(Rf n n σ.1 σ.2.1).bind (Hi K))) (cond (Nat.beq c 2) (some (Zl Hz Gz fun σ ρ K=>(Sf n n σ.1 σ.2.1 σ.2.2.1).bind (Ii K))) none)),xm:=fun c q=>(cond (Nat.beq c 0&&Nat.beq (q.getD 1000000) 0&&q.isSome) (some []) (cond (Nat.beq c 2&&Nat.beq (q.getD 1000000) 2&&q.isSome) (some [(3,some (.sl .str)),(4,none)]) (cond (Nat.beq c 3&&q.isNone) (some [(2,none)]) (cond (Nat.beq c 1&&q.isNone) (some [(2,none)]) none)))) }
def Qt (n:Nat) (K:XE→List AV→ia→Option Out) (m:Nat) (l1:(Sq BA)) (i1:Int) (k0:Int):Option Out:=rd tys (da Out (Rp n)) (zl n) n (ta [1,1,0,1,0,0,1,0,0,1,1,0,0] (aa Tryz.f205)) 2 Hz Gz K m (l1,(i1,(k0,()))) ()
theorem YM (n:Nat) (K:XE→List AV→ia→Option Out):∀ (m:Nat) l1 i1 k0,Qt n K m l1 i1 k0=(Sf n m l1 i1 k0).bind (Ii K)
  | 0,_,_,_=>by kernel_rfl
  | m+1,l1,i1,k0=>by
    have h1:Qt n K (m+1) l1 i1 k0=Qp n l1 i1 k0 (Qt n K m) (fun a=>Ii K (.out a)) (fun a=>Ii K (.ret a)) (fun p=>Ii K (.pan p)):=by kernel_rfl
    have h2:Qt n K m=fun l1 i1 k0=>(Sf n m l1 i1 k0).bind (Ii K):=by
      repeat (refine funext fun _=>?_)
      exact YM n K m _ _ _
    rw [h1,h2];exact (DZ n m _ _ _ (Ii K)).symm
theorem CW (n:Nat):Vc tys (da Out (Rp n)) (zl n) n (ta [1,1,0,1,0,0,1,0,0,1,1,0,0] (aa Tryz.f205)) 2:=Ca (sp:=Hz) (rp:=Gz) (by kernel_rfl) fun K σ ρ=>YM n K n σ.1 σ.2.1 σ.2.2.1
def Pt (n:Nat) (K:XE→List AV→ia→Option Out) (m:Nat) (l:(Sq BA)) (i:Int):Option Out:=rd tys (da Out (Rp n)) (zl n) n (ta [1,1,0,1,0,0] (aa Tryz.f205)) 0 Fz Ez K m (l,(i,())) ()
theorem TM (n:Nat) (K:XE→List AV→ia→Option Out):∀ (m:Nat) l i,Pt n K m l i=(Rf n m l i).bind (Hi K)
  | 0,_,_=>by kernel_rfl
  | m+1,l,i=>by
    have h1:Pt n K (m+1) l i=Pp n l i (Pt n K m) (fun a=>Hi K (.out a)) (fun a=>Hi K (.ret a)) (fun p=>Hi K (.pan p)):=by kernel_rfl
    have h2:Pt n K m=fun l i=>(Rf n m l i).bind (Hi K):=by
      repeat (refine funext fun _=>?_)
      exact TM n K m _ _
    rw [h1,h2];exact (CZ n m _ _ (Hi K)).symm
theorem BW (n:Nat):Vc tys (da Out (Rp n)) (zl n) n (ta [1,1,0,1,0,0] (aa Tryz.f205)) 0:=Ca (sp:=Fz) (rp:=Ez) (by kernel_rfl) fun K σ ρ=>TM n K n σ.1 σ.2.1
theorem EZ (n:Nat):qa tys (da Out (Rp n)) (zl n) n (aa Tryz.f205) 0:=⟨trivial,⟨trivial,⟨⟨trivial,⟨BW n,⟨⟨trivial,⟨trivial,trivial⟩⟩,⟨⟨⟨trivial,⟨⟨trivial,trivial⟩,trivial⟩⟩,⟨trivial,⟨CW n,⟨⟨trivial,⟨trivial,trivial⟩⟩,⟨⟨trivial,⟨⟨trivial,trivial⟩,trivial⟩⟩,trivial⟩⟩⟩⟩⟩,trivial⟩⟩⟩⟩,⟨trivial,trivial⟩⟩⟩⟩
theorem n5 (n:Nat):Enters Tryz.prog 205:=enters_of (c:=aa Tryz.f205) Tryz.func205 (by kernel_rfl) (by kernel_rfl)
def sU (n:Nat):Entry:=⟨205,pcT (.pair .str .unit) (.one .bool) (fun xs=>jC n xs.1),none,none⟩
theorem R7 (n:Nat):EntryOk Tryz.prog gl (sU n):=wa (n5 n) fun xs y h=>ja tys_ok (iN n) mixed (hint:=zl n) (n:=n) Tryz.func205 (Ea (EZ n)) (ma (φ:=(fun y=>some (Out.ret (Uc (.one .bool) y)))) (by kernel_rfl) (nbb n xs.1 _) h)
def Ov (n:Nat):List Entry:=sU n::Rp n
theorem PI (n:Nat):AllOk Tryz.prog gl (Ov n):=.cons (R7 n) (iN n)
def je (n:Nat) {R:Type} (s1:BA) (i:Int) (b:(Sq Int)) (kn:BA→Int→(Sq Int)→Option R) (ko:(Unit)→Option R) (kr:(BA×Int×Bool)→Option R) (kp:Int→Option R):Option R:=if (decide (i<(s1.size:Int)))=true then if 0≤i∧i<(s1.size:Int) then if ((bt s1 i)==(34:Int))=true then kr ((MN b.n b.at'),(IntKind.wrap .i64 (i+(1:Int))),true) else if ((bt s1 i)==(92:Int))=true then if (decide ((IntKind.wrap .i64 (i+(1:Int)))≥(s1.size:Int)))=true then ko () else if 0≤(IntKind.wrap .i64 (i+(1:Int)))∧(IntKind.wrap .i64 (i+(1:Int)))<(s1.size:Int) then if (decide ((bt s1 (IntKind.wrap .i64 (i+(1:Int))))<(32:Int)))=false then if (decide ((bt s1 (IntKind.wrap .i64 (i+(1:Int))))>(126:Int)))=true then ko () else if Rb (b.n+1) 1=true then kn s1 (IntKind.wrap .i64 ((IntKind.wrap .i64 (i+(1:Int)))+(1:Int))) (⟨(b.n+1),fun q=>if q<b.n then b.at' q else (fun q=>List.getD (α:=Int) [(bt s1 (IntKind.wrap .i64 (i+(1:Int))))] q (Ba (.int .u8))) (q - b.n)⟩:Sq Int) else none else ko () else none else if (decide ((bt s1 i)<(32:Int)))=false then if (decide ((bt s1 i)>(126:Int)))=true then ko () else if Rb (b.n+1) 1=true then kn s1 (IntKind.wrap .i64 (i+(1:Int))) (⟨(b.n+1),fun q=>if q<b.n then b.at' q else (fun q=>List.getD (α:=Int) [(bt s1 i)] q (Ba (.int .u8))) (q - b.n)⟩:Sq Int) else none else
 ko () else none else ko ()
def ob (n:Nat):Nat→BA→Int→(Sq Int)→Option (Lx (Unit) (BA×Int×Bool))
 | 0,_,_,_=>none
 | m+1,s1,i,b=>je n s1 i b (ob n m) (fun a=>some (.out a)) (fun a=>some (.ret a)) (fun p=>some (.pan p))
theorem zZ (n m:Nat) {S:Type}:∀ s1 i b (φ:_→Option S),(ob n (m+1) s1 i b).bind φ=je n s1 i b (fun s1 i b=>(ob n m s1 i b).bind φ) (fun a=>φ (.out a)) (fun a=>φ (.ret a)) (fun p=>φ (.pan p)):=by
  intros;first | (simp only [ob,je,fa,ba,iB,bB,oL,oX,nB,Option.bind_some]) | rfl
def Dz:List Sl:=.dat .str::tp 4 (.row 0::.dat (.int .i64)::tp 37 [])
def Cz:List RS:=[.row 5 1 (.int .u8) true false]
def QM:List Sl:=tp 44 []
def PM:List RS:=[]
def SM:List Sl:=.top::.top::.dat .str::.dat (.int .i64)::.dat .bool::tp 39 []
def RM:List RS:=[]
def Gi (K:XE→List AV→ia→Option Out):Lx (Unit) (BA×Int×Bool)→Option Out:=fun x=>onL x (fun a=>Ye QM PM () () (K (.exit 0))) (fun a=>Ye SM RM (a.1,(a.2.1,(a.2.2,()))) () (K .ret)) (fun _=>none)
def xG (n:Nat) {R:Type} (s:BA) (k:(BA×Int×Bool×Unit)→Option R):Option R:=(ob n n s (1:Int) (⟨0,fun _=>Ba (.int .u8)⟩:Sq Int)).bind fun x_1=>onL x_1 (fun a_2=>k ((⟨#[]⟩:BA),((0:Int),(false,())))) (fun a_3=>k (a_3.1,(a_3.2.1,(a_3.2.2,())))) (fun _=>none)
def gC (n:Nat) (s:BA):Option (BA×Int×Bool×Unit):=xG n s some
theorem mbb (n:Nat) {S:Type}:∀ s (φ:_→Option S),(gC n s).bind φ=xG n s φ:=by
  intros;unfold gC xG;first | (simp only [fa,ba,iB,bB,oL,oX,nB,Option.bind_some]) | rfl
def Ot (n:Nat):Hint Out:={ live:=fun c=>(cond (Nat.beq c 0) [(0,none),(5,some (.sl (.int .u8))),(6,none)] []),run:=fun c=>(cond (Nat.beq c 0) (some (Zl Dz Cz fun σ ρ K=>(ob n n σ.1 σ.2.1 ρ.1).bind (Gi K))) none),xm:=fun c q=>(cond (Nat.beq c 0&&Nat.beq (q.getD 1000000) 0&&q.isSome) (some []) (cond (Nat.beq c 1&&Nat.beq (q.getD 1000000) 0&&q.isSome) (some []) (cond (Nat.beq c 1&&q.isNone) (some (lv [2,3,4])) none))) }
def Nt (n:Nat) (K:XE→List AV→ia→Option Out) (m:Nat) (s1:BA) (i:Int) (b:(Sq Int)):Option Out:=rd tys (da Out (Ov n)) (Ot n) n (ta [1,1,0,1,0,0] (aa Tryz.f206)) 0 Dz Cz K m (s1,(i,())) (b,())
theorem OM (n:Nat) (K:XE→List AV→ia→Option Out):∀ (m:Nat) s1 i b,Nt n K m s1 i b=(ob n m s1 i b).bind (Gi K)
  | 0,_,_,_=>by kernel_rfl
  | m+1,s1,i,b=>by
    have h1:Nt n K (m+1) s1 i b=je n s1 i b (Nt n K m) (fun a=>Gi K (.out a)) (fun a=>Gi K (.ret a)) (fun p=>Gi K (.pan p)):=by kernel_rfl
    have h2:Nt n K m=fun s1 i b=>(ob n m s1 i b).bind (Gi K):=by
      repeat (refine funext fun _=>?_)
      exact OM n K m _ _ _
    rw [h1,h2];exact (zZ n m _ _ _ (Gi K)).symm
theorem zW (n:Nat):Vc tys (da Out (Ov n)) (Ot n) n (ta [1,1,0,1,0,0] (aa Tryz.f206)) 0:=Ca (sp:=Dz) (rp:=Cz) (by kernel_rfl) fun K σ ρ=>OM n K n σ.1 σ.2.1 ρ.1
theorem AZ (n:Nat):qa tys (da Out (Ov n)) (Ot n) n (aa Tryz.f206) 0:=⟨trivial,⟨trivial,⟨⟨trivial,⟨zW n,⟨⟨trivial,⟨trivial,trivial⟩⟩,⟨⟨trivial,⟨⟨trivial,⟨⟨trivial,trivial⟩,trivial⟩⟩,⟨⟨trivial,⟨⟨trivial,⟨⟨trivial,⟨trivial,trivial⟩⟩,trivial⟩⟩,trivial⟩⟩,⟨⟨trivial,⟨trivial,trivial⟩⟩,trivial⟩⟩⟩⟩,trivial⟩⟩⟩⟩,⟨trivial,trivial⟩⟩⟩⟩
theorem f5 (n:Nat):Enters Tryz.prog 206:=enters_of (c:=aa Tryz.f206) Tryz.func206 (by kernel_rfl) (by kernel_rfl)
def rU (n:Nat):Entry:=⟨206,pcT (.pair .str .unit) (.many (.pair .str (.pair (.int .i64) (.pair .bool .unit)))) (fun xs=>gC n xs.1),none,none⟩
theorem P7 (n:Nat):EntryOk Tryz.prog gl (rU n):=wa (f5 n) fun xs y h=>ja tys_ok (PI n) mixed (hint:=Ot n) (n:=n) Tryz.func206 (Ea (AZ n)) (ma (φ:=(fun y=>some (Out.ret (Uc (.many (.pair .str (.pair (.int .i64) (.pair .bool .unit)))) y)))) (by kernel_rfl) (mbb n xs.1 _) h)
def Nv (n:Nat):List Entry:=rU n::Ov n
theorem NI (n:Nat):AllOk Tryz.prog gl (Nv n):=.cons (P7 n) (PI n)
def zk (n:Nat) {R:Type} (s1 q:BA) (i:Int) (kn:BA→BA→Int→Option R) (ko:(BA)→Option R) (kr:Unit→Option R) (kp:Int→Option R):Option R:=if (decide (i<(s1.size:Int)))=true then if 0≤i∧i<(s1.size:Int) then if ((bt s1 i)==(34:Int))=false then if 0≤i∧i<(s1.size:Int) then if ((bt s1 i)==(92:Int))=true then if zj q (⟨#[92]⟩:BA)=true then if 0≤(IntKind.wrap .i64 (i+(1:Int)))∧(IntKind.wrap .i64 (i+(1:Int)))≤(s1.size:Int) then if 0≤i∧i≤(IntKind.wrap .i64 (i+(1:Int))) then if zj (q++(⟨#[92]⟩:BA)) (s1.extract (Int.toNat i) (Int.toNat (IntKind.wrap .i64 (i+(1:Int)))))=true then kn s1 ((q++(⟨#[92]⟩:BA))++(s1.extract (Int.toNat i) (Int.toNat (IntKind.wrap .i64 (i+(1:Int)))))) (IntKind.wrap .i64 (i+(1:Int))) else none else none else none else none else if 0≤(IntKind.wrap .i64 (i+(1:Int)))∧(IntKind.wrap .i64 (i+(1:Int)))≤(s1.size:Int) then if 0≤i∧i≤(IntKind.wrap .i64 (i+(1:Int))) then if zj q (s1.extract (Int.toNat i) (Int.toNat (IntKind.wrap .i64 (i+(1:Int)))))=true then kn s1 (q++(s1.extract (Int.toNat i) (Int.toNat (IntKind.wrap .i64 (i+(1:Int)))))) (IntKind.wrap .i64 (i+(1:Int))) else none else none else none else none else if zj q (⟨#[92]⟩:BA)=true then if 0≤(IntKind.wrap .i64 (i+(1:Int)))∧(IntKind.wrap .i64 (i+(1:Int)))≤(s1.size:Int) then
 if 0≤i∧i≤(IntKind.wrap .i64 (i+(1:Int))) then if zj (q++(⟨#[92]⟩:BA)) (s1.extract (Int.toNat i) (Int.toNat (IntKind.wrap .i64 (i+(1:Int)))))=true then kn s1 ((q++(⟨#[92]⟩:BA))++(s1.extract (Int.toNat i) (Int.toNat (IntKind.wrap .i64 (i+(1:Int)))))) (IntKind.wrap .i64 (i+(1:Int))) else none else none else none else none else none else ko q
def ke (n:Nat):Nat→BA→BA→Int→Option (Lx (BA) Unit)
 | 0,_,_,_=>none
 | m+1,s1,q,i=>zk n s1 q i (ke n m) (fun a=>some (.out a)) (fun a=>some (.ret a)) (fun p=>some (.pan p))
theorem FZ (n m:Nat) {S:Type}:∀ s1 q i (φ:_→Option S),(ke n (m+1) s1 q i).bind φ=zk n s1 q i (fun s1 q i=>(ke n m s1 q i).bind φ) (fun a=>φ (.out a)) (fun a=>φ (.ret a)) (fun p=>φ (.pan p)):=by
  intros;first | (simp only [ke,zk,fa,ba,iB,bB,oL,oX,nB,Option.bind_some]) | rfl
def Jz:List Sl:=.dat .str::.top::.top::.dat .str::.dat (.int .i64)::tp 27 []
def Iz:List RS:=[]
def fN:List Sl:=.top::.top::.top::.dat .str::tp 28 []
def eN:List RS:=[]
def Ji (K:XE→List AV→ia→Option Out):Lx (BA) Unit→Option Out:=fun x=>onL x (fun a=>Ye fN eN (a,()) () (K (.exit 0))) (fun _=>none) (fun _=>none)
def AG (n:Nat) {R:Type} (s:BA) (k:BA→Option R):Option R:=(ke n n s (⟨#[34]⟩:BA) (0:Int)).bind fun x_1=>onL x_1 (fun a_2=>if zj a_2 (⟨#[34]⟩:BA)=true then k (a_2++(⟨#[34]⟩:BA)) else none) (fun _=>none) (fun _=>none)
def zG (n:Nat) (s:BA):Option BA:=AG n s some
theorem obb (n:Nat) {S:Type}:∀ s (φ:_→Option S),(zG n s).bind φ=AG n s φ:=by
  intros;unfold zG AG;first | (simp only [fa,ba,iB,bB,oL,oX,nB,Option.bind_some]) | rfl
def Tt (n:Nat):Hint Out:={ live:=fun c=>(cond (Nat.beq c 0) (lv [0,3,4]) []),run:=fun c=>(cond (Nat.beq c 0) (some (Zl Jz Iz fun σ ρ K=>(ke n n σ.1 σ.2.1 σ.2.2.1).bind (Ji K))) none),xm:=fun c q=>(cond (Nat.beq c 0&&Nat.beq (q.getD 1000000) 0&&q.isSome) (some [(3,none)]) none) }
def Rt (n:Nat) (K:XE→List AV→ia→Option Out) (m:Nat) (s1:BA) (q:BA) (i:Int):Option Out:=rd tys (da Out (Nv n)) (Tt n) n (ta [1,1,0,1,0,0] (aa Tryz.f207)) 0 Jz Iz K m (s1,(q,(i,()))) ()
theorem dN (n:Nat) (K:XE→List AV→ia→Option Out):∀ (m:Nat) s1 q i,Rt n K m s1 q i=(ke n m s1 q i).bind (Ji K)
  | 0,_,_,_=>by kernel_rfl
  | m+1,s1,q,i=>by
    have h1:Rt n K (m+1) s1 q i=zk n s1 q i (Rt n K m) (fun a=>Ji K (.out a)) (fun a=>Ji K (.ret a)) (fun p=>Ji K (.pan p)):=by kernel_rfl
    have h2:Rt n K m=fun s1 q i=>(ke n m s1 q i).bind (Ji K):=by
      repeat (refine funext fun _=>?_)
      exact dN n K m _ _ _
    rw [h1,h2];exact (FZ n m _ _ _ (Ji K)).symm
theorem DW (n:Nat):Vc tys (da Out (Nv n)) (Tt n) n (ta [1,1,0,1,0,0] (aa Tryz.f207)) 0:=Ca (sp:=Jz) (rp:=Iz) (by kernel_rfl) fun K σ ρ=>dN n K n σ.1 σ.2.1 σ.2.2.1
theorem GZ (n:Nat):qa tys (da Out (Nv n)) (Tt n) n (aa Tryz.f207) 0:=⟨trivial,⟨trivial,⟨⟨trivial,⟨DW n,⟨⟨trivial,⟨trivial,trivial⟩⟩,⟨⟨⟨trivial,⟨trivial,trivial⟩⟩,trivial⟩,trivial⟩⟩⟩⟩,⟨trivial,trivial⟩⟩⟩⟩
theorem o5 (n:Nat):Enters Tryz.prog 207:=enters_of (c:=aa Tryz.f207) Tryz.func207 (by kernel_rfl) (by kernel_rfl)
def tU (n:Nat):Entry:=⟨207,pcT (.pair .str .unit) (.one .str) (fun xs=>zG n xs.1),none,none⟩
theorem S7 (n:Nat):EntryOk Tryz.prog gl (tU n):=wa (o5 n) fun xs y h=>ja tys_ok (NI n) mixed (hint:=Tt n) (n:=n) Tryz.func207 (Ea (GZ n)) (ma (φ:=(fun y=>some (Out.ret (Uc (.one .str) y)))) (by kernel_rfl) (obb n xs.1 _) h)
def dK (n:Nat):List Entry:=tU n::Nv n
theorem QI (n:Nat):AllOk Tryz.prog gl (dK n):=.cons (S7 n) (NI n)
def vG (n:Nat) {R:Type} (s:BA) (k:Bool→Option R):Option R:=if (decide ((s.size:Int)<(1:Int)))=false then if (decide ((s.size:Int)>(64:Int)))=true then k false else if 0≤(0:Int)∧(0:Int)<(s.size:Int) then if ((bt s (0:Int)) !=(34:Int))=true then (jC n s).bind fun v=>k v else (gC n s).bind fun v1=>if v1.2.2.1=true then if (v1.2.1==(s.size:Int))=true then (jC n v1.1).bind fun v2=>if (!v2)=true then (zG n v1.1).bind fun v3=>k (v3.toList==s.toList) else k false else k false else k false else none else k false
def uG (n:Nat) (s:BA):Option Bool:=vG n s some
theorem jbb (n:Nat) {S:Type}:∀ s (φ:_→Option S),(uG n s).bind φ=vG n s φ:=by
  intros;unfold uG vG;first | (simp only [fa,ba,iB,bB,oL,oX,nB,Option.bind_some]) | rfl
def MM (n:Nat):Hint Out:={ live:=fun c=>[],run:=fun c=>none,xm:=fun c q=>none }
theorem xZ (n:Nat):qa tys (da Out (dK n)) (MM n) n (aa Tryz.f160) 0:=oa (fun _=>rfl) _ _ (by kernel_rfl)
theorem Z4 (n:Nat):Enters Tryz.prog 160:=enters_of (c:=aa Tryz.f160) Tryz.func160 (by kernel_rfl) (by kernel_rfl)
def oU (n:Nat):Entry:=⟨160,pcT (.pair .str .unit) (.one .bool) (fun xs=>uG n xs.1),none,none⟩
theorem M7 (n:Nat):EntryOk Tryz.prog gl (oU n):=wa (Z4 n) fun xs y h=>ja tys_ok (QI n) mixed (hint:=MM n) (n:=n) Tryz.func160 (Ea (xZ n)) (ma (φ:=(fun y=>some (Out.ret (Uc (.one .bool) y)))) (by kernel_rfl) (jbb n xs.1 _) h)
def cK (n:Nat):List Entry:=oU n::dK n
theorem LI (n:Nat):AllOk Tryz.prog gl (cK n):=.cons (M7 n) (QI n)
def nS (n:Nat) {R:Type} (m0:U2) (k:Bool→Option R):Option R:=(uG n m0.1).bind fun v=>if v=true then (Iv n m0.2.1).bind fun v1=>k v1 else k false
def xQ (n:Nat) (m0:U2):Option Bool:=nS n m0 some
theorem Reb (n:Nat) {S:Type}:∀ m0 (φ:_→Option S),(xQ n m0).bind φ=nS n m0 φ:=by
  intros;unfold xQ nS;first | (simp only [fa,ba,iB,bB,oL,oX,nB,Option.bind_some]) | rfl
def pU (n:Nat):Hint Out:={ live:=fun c=>[],run:=fun c=>none,xm:=fun c q=>none }
theorem N7 (n:Nat):qa tys (da Out (cK n)) (pU n) n (aa Tryz.f109) 0:=oa (fun _=>rfl) _ _ (by kernel_rfl)
theorem kbb (n:Nat):Enters Tryz.prog 109:=enters_of (c:=aa Tryz.f109) Tryz.func109 (by kernel_rfl) (by kernel_rfl)
def d5 (n:Nat):Entry:=⟨109,pcT (.pair (.pair .str (.pair .str .unit)) .unit) (.one .bool) (fun xs=>xQ n xs.1),none,none⟩
theorem udb (n:Nat):EntryOk Tryz.prog gl (d5 n):=wa (kbb n) fun xs y h=>ja tys_ok (LI n) mixed (hint:=pU n) (n:=n) Tryz.func109 (Ea (N7 n)) (ma (φ:=(fun y=>some (Out.ret (Uc (.one .bool) y)))) (by kernel_rfl) (Reb n xs.1 _) h)
def kF (n:Nat):List Entry:=d5 n::cK n
theorem yQ (n:Nat):AllOk Tryz.prog gl (kF n):=.cons (udb n) (LI n)
def Kp (n:Nat) {R:Type} (s1:BA) (i:Int) (kn:BA→Int→Option R) (ko:(BA)→Option R) (kr:(Bool)→Option R) (kp:Int→Option R):Option R:=if (decide (i<(s1.size:Int)))=true then if 0≤i∧i<(s1.size:Int) then if ((bt s1 i)==(13:Int))=false then if 0≤i∧i<(s1.size:Int) then if ((bt s1 i)==(10:Int))=true then kr false else kn s1 (IntKind.wrap .i64 (i+(1:Int))) else none else kr false else none else ko s1
def Pf (n:Nat):Nat→BA→Int→Option (Lx (BA) (Bool))
 | 0,_,_=>none
 | m+1,s1,i=>Kp n s1 i (Pf n m) (fun a=>some (.out a)) (fun a=>some (.ret a)) (fun p=>some (.pan p))
theorem sZ (n m:Nat) {S:Type}:∀ s1 i (φ:_→Option S),(Pf n (m+1) s1 i).bind φ=Kp n s1 i (fun s1 i=>(Pf n m s1 i).bind φ) (fun a=>φ (.out a)) (fun a=>φ (.ret a)) (fun p=>φ (.pan p)):=by
  intros;first | (simp only [Pf,Kp,fa,ba,iB,bB,oL,oX,nB,Option.bind_some]) | rfl
def Bz:List Sl:=.dat .str::.top::.top::.dat (.int .i64)::tp 19 []
def Az:List RS:=[]
def EM:List Sl:=.dat .str::tp 22 []
def DM:List RS:=[]
def GM:List Sl:=.top::.top::.dat .bool::tp 20 []
def FM:List RS:=[]
def Fi (K:XE→List AV→ia→Option Out):Lx (BA) (Bool)→Option Out:=fun x=>onL x (fun a=>Ye EM DM (a,()) () (K (.exit 0))) (fun a=>Ye GM FM (a,()) () (K .ret)) (fun _=>none)
def tG (n:Nat) {R:Type} (s:BA) (k:Bool→Option R):Option R:=(Pf n n s (0:Int)).bind fun x_1=>onL x_1 (fun a_2=>k (decide ((a_2.size:Int)≤(509:Int)))) (fun a_3=>k a_3) (fun _=>none)
def aC (n:Nat) (s:BA):Option Bool:=tG n s some
theorem gbb (n:Nat) {S:Type}:∀ s (φ:_→Option S),(aC n s).bind φ=tG n s φ:=by
  intros;unfold aC tG;first | (simp only [fa,ba,iB,bB,oL,oX,nB,Option.bind_some]) | rfl
def Mt (n:Nat):Hint Out:={ live:=fun c=>(cond (Nat.beq c 0) [(0,none),(3,none)] []),run:=fun c=>(cond (Nat.beq c 0) (some (Zl Bz Az fun σ ρ K=>(Pf n n σ.1 σ.2.1).bind (Fi K))) none),xm:=fun c q=>(cond (Nat.beq c 0&&Nat.beq (q.getD 1000000) 0&&q.isSome) (some [(0,none)]) (cond (Nat.beq c 1&&q.isNone) (some [(2,none)]) none)) }
def Lt (n:Nat) (K:XE→List AV→ia→Option Out) (m:Nat) (s1:BA) (i:Int):Option Out:=rd tys (da Out (kF n)) (Mt n) n (ta [1,0,1,0,0] (aa Tryz.f161)) 0 Bz Az K m (s1,(i,())) ()
theorem CM (n:Nat) (K:XE→List AV→ia→Option Out):∀ (m:Nat) s1 i,Lt n K m s1 i=(Pf n m s1 i).bind (Fi K)
  | 0,_,_=>by kernel_rfl
  | m+1,s1,i=>by
    have h1:Lt n K (m+1) s1 i=Kp n s1 i (Lt n K m) (fun a=>Fi K (.out a)) (fun a=>Fi K (.ret a)) (fun p=>Fi K (.pan p)):=by kernel_rfl
    have h2:Lt n K m=fun s1 i=>(Pf n m s1 i).bind (Fi K):=by
      repeat (refine funext fun _=>?_)
      exact CM n K m _ _
    rw [h1,h2];exact (sZ n m _ _ (Fi K)).symm
theorem uW (n:Nat):Vc tys (da Out (kF n)) (Mt n) n (ta [1,0,1,0,0] (aa Tryz.f161)) 0:=Ca (sp:=Bz) (rp:=Az) (by kernel_rfl) fun K σ ρ=>CM n K n σ.1 σ.2.1
theorem tZ (n:Nat):qa tys (da Out (kF n)) (Mt n) n (aa Tryz.f161) 0:=⟨trivial,⟨⟨trivial,⟨uW n,⟨⟨trivial,⟨trivial,trivial⟩⟩,⟨⟨trivial,⟨⟨trivial,trivial⟩,trivial⟩⟩,trivial⟩⟩⟩⟩,⟨trivial,trivial⟩⟩⟩
theorem R4 (n:Nat):Enters Tryz.prog 161:=enters_of (c:=aa Tryz.f161) Tryz.func161 (by kernel_rfl) (by kernel_rfl)
def jU (n:Nat):Entry:=⟨161,pcT (.pair .str .unit) (.one .bool) (fun xs=>aC n xs.1),none,none⟩
theorem H7 (n:Nat):EntryOk Tryz.prog gl (jU n):=wa (R4 n) fun xs y h=>ja tys_ok (yQ n) mixed (hint:=Mt n) (n:=n) Tryz.func161 (Ea (tZ n)) (ma (φ:=(fun y=>some (Out.ret (Uc (.one .bool) y)))) (by kernel_rfl) (gbb n xs.1 _) h)
def Hv (n:Nat):List Entry:=jU n::kF n
theorem II (n:Nat):AllOk Tryz.prog gl (Hv n):=.cons (H7 n) (yQ n)
def Lp (n:Nat) {R:Type} (s1:BA) (from0 i:Int) (l:(Sq BA)) (kn:BA→Int→Int→(Sq BA)→Option R) (ko:U11→Option R) (kr:(Bool×(Sq BA))→Option R) (kp:Int→Option R):Option R:=if (decide (i<(s1.size:Int)))=true then if 0≤i∧i<(s1.size:Int) then if ((bt s1 i) !=(10:Int))=false then if (i==from0)=false then if 0≤(IntKind.wrap .i64 (i - (1:Int)))∧(IntKind.wrap .i64 (i - (1:Int)))<(s1.size:Int) then if ((bt s1 (IntKind.wrap .i64 (i - (1:Int)))) !=(13:Int))=true then kn s1 from0 (IntKind.wrap .i64 (i+(1:Int))) l else if 0≤(IntKind.wrap .i64 (i - (1:Int)))∧(IntKind.wrap .i64 (i - (1:Int)))≤(s1.size:Int) then if 0≤from0∧from0≤(IntKind.wrap .i64 (i - (1:Int))) then (aC n (s1.extract (Int.toNat from0) (Int.toNat (IntKind.wrap .i64 (i - (1:Int)))))).bind fun v=>if (!v)=true then kr (false,(⟨0,fun _=>Ba .str⟩:Sq BA)) else if 0≤(IntKind.wrap .i64 (i - (1:Int)))∧(IntKind.wrap .i64 (i - (1:Int)))≤(s1.size:Int) then if 0≤from0∧from0≤(IntKind.wrap .i64 (i - (1:Int))) then if Rb (l.n+1) 16=true then kn s1 (IntKind.wrap .i64 (i+(1:Int))) (IntKind.wrap .i64 (i+(1:Int))) (⟨(l.n+1),fun q=>if q<l.n then l.at' q else (fun q=>List.getD (α:=BA) [(s1.extract (Int.toNat from0) (Int.toNat (IntKind.wrap .i64 (i - (1:Int)))))] q (Ba .str)) (q - l.n)⟩:Sq BA)
 else none else none else none else none else none else none else kn s1 from0 (IntKind.wrap .i64 (i+(1:Int))) l else kn s1 from0 (IntKind.wrap .i64 (i+(1:Int))) l else none else ko (s1,from0,l)
def Ec (n:Nat):Nat→BA→Int→Int→(Sq BA)→Option (Lx U11 (Bool×(Sq BA)))
 | 0,_,_,_,_=>none
 | m+1,s1,from0,i,l=>Lp n s1 from0 i l (Ec n m) (fun a=>some (.out a)) (fun a=>some (.ret a)) (fun p=>some (.pan p))
theorem S4 (n m:Nat) {S:Type}:∀ s1 from0 i l (φ:_→Option S),(Ec n (m+1) s1 from0 i l).bind φ=Lp n s1 from0 i l (fun s1 from0 i l=>(Ec n m s1 from0 i l).bind φ) (fun a=>φ (.out a)) (fun a=>φ (.ret a)) (fun p=>φ (.pan p)):=by
  intros;first | (simp only [Ec,Lp,fa,ba,iB,bB,oL,oX,nB,Option.bind_some]) | rfl
def dC:List Sl:=.dat .str::.top::.top::.top::.row 0::.dat (.int .i64)::.dat (.int .i64)::tp 47 []
def cC:List RS:=[.row 9 1 .str true false]
def kP:List Sl:=.dat .str::.top::.top::.top::.row 0::.dat (.int .i64)::tp 48 []
def jP:List RS:=[.row 9 1 .str true false]
def mP:List Sl:=.top::.top::.row 0::.dat .bool::tp 50 []
def lP:List RS:=[.row 9 1 .str true false]
def xk (K:XE→List AV→ia→Option Out):Lx U11 (Bool×(Sq BA))→Option Out:=fun x=>onL x (fun a=>Ye kP jP (a.1,(a.2.1,())) (a.2.2,()) (K (.exit 0))) (fun a=>Ye mP lP (a.1,()) (a.2,()) (K .ret)) (fun _=>none)
def HM (n:Nat) {R:Type} (s:BA) (k:((Sq BA)×Bool×Unit)→Option R):Option R:=if (decide ((s.size:Int)>(8192:Int)))=true then k ((⟨0,fun _=>Ba .str⟩:Sq BA),(false,())) else (Ec n n s (0:Int) (0:Int) (⟨0,fun _=>Ba .str⟩:Sq BA)).bind fun x_1=>onL x_1 (fun a_2=>k (a_2.2.2,((a_2.2.1==(a_2.1.size:Int)),()))) (fun a_3=>k (a_3.2,(a_3.1,()))) (fun _=>none)
def bC (n:Nat) (s:BA):Option ((Sq BA)×Bool×Unit):=HM n s some
theorem sdb (n:Nat) {S:Type}:∀ s (φ:_→Option S),(bC n s).bind φ=HM n s φ:=by
  intros;unfold bC HM;first | (simp only [fa,ba,iB,bB,oL,oX,nB,Option.bind_some]) | rfl
def yx (n:Nat):Hint Out:={ live:=fun c=>(cond (Nat.beq c 0) [(0,none),(4,some (.sl .str)),(5,none),(6,none)] []),run:=fun c=>(cond (Nat.beq c 0) (some (Zl dC cC fun σ ρ K=>(Ec n n σ.1 σ.2.1 σ.2.2.1 ρ.1).bind (xk K))) none),xm:=fun c q=>(cond (Nat.beq c 0&&Nat.beq (q.getD 1000000) 0&&q.isSome) (some [(0,none),(4,some (.sl .str)),(5,none)]) (cond (Nat.beq c 1&&q.isNone) (some [(2,some (.sl .str)),(3,none)]) none)) }
def xx (n:Nat) (K:XE→List AV→ia→Option Out) (m:Nat) (s1:BA) (from0:Int) (i:Int) (l:(Sq BA)):Option Out:=rd tys (da Out (Hv n)) (yx n) n (ta [1,1,1,1,0,1,0,0] (aa Tryz.f110)) 0 dC cC K m (s1,(from0,(i,()))) (l,())
theorem uQ (n:Nat) (K:XE→List AV→ia→Option Out):∀ (m:Nat) s1 from0 i l,xx n K m s1 from0 i l=(Ec n m s1 from0 i l).bind (xk K)
  | 0,_,_,_,_=>by kernel_rfl
  | m+1,s1,from0,i,l=>by
    have h1:xx n K (m+1) s1 from0 i l=Lp n s1 from0 i l (xx n K m) (fun a=>xk K (.out a)) (fun a=>xk K (.ret a)) (fun p=>xk K (.pan p)):=by kernel_rfl
    have h2:xx n K m=fun s1 from0 i l=>(Ec n m s1 from0 i l).bind (xk K):=by
      repeat (refine funext fun _=>?_)
      exact uQ n K m _ _ _ _
    rw [h1,h2];exact (S4 n m _ _ _ _ (xk K)).symm
theorem uZ (n:Nat):Vc tys (da Out (Hv n)) (yx n) n (ta [1,1,1,1,0,1,0,0] (aa Tryz.f110)) 0:=Ca (sp:=dC) (rp:=cC) (by kernel_rfl) fun K σ ρ=>uQ n K n σ.1 σ.2.1 σ.2.2.1 ρ.1
theorem V4 (n:Nat):qa tys (da Out (Hv n)) (yx n) n (aa Tryz.f110) 0:=⟨trivial,⟨⟨trivial,⟨⟨trivial,trivial⟩,trivial⟩⟩,⟨trivial,⟨trivial,⟨⟨trivial,⟨uZ n,⟨⟨trivial,⟨trivial,trivial⟩⟩,⟨⟨⟨trivial,⟨trivial,trivial⟩⟩,⟨⟨trivial,⟨⟨trivial,trivial⟩,trivial⟩⟩,⟨trivial,trivial⟩⟩⟩,trivial⟩⟩⟩⟩,⟨trivial,trivial⟩⟩⟩⟩⟩⟩
theorem I7 (n:Nat):Enters Tryz.prog 110:=enters_of (c:=aa Tryz.f110) Tryz.func110 (by kernel_rfl) (by kernel_rfl)
def LX (n:Nat):Entry:=⟨110,pcT (.pair .str .unit) (.many (.pair (.sl .str) (.pair .bool .unit))) (fun xs=>bC n xs.1),none,none⟩
theorem hbb (n:Nat):EntryOk Tryz.prog gl (LX n):=wa (I7 n) fun xs y h=>ja tys_ok (II n) mixed (hint:=yx n) (n:=n) Tryz.func110 (Ea (V4 n)) (ma (φ:=(fun y=>some (Out.ret (Uc (.many (.pair (.sl .str) (.pair .bool .unit))) y)))) (by kernel_rfl) (sdb n xs.1 _) h)
def Mp (n:Nat):List Entry:=LX n::Hv n
theorem IM (n:Nat):AllOk Tryz.prog gl (Mp n):=.cons (hbb n) (II n)
def Ie (n:Nat) {R:Type} (i1 k0 m011 m012:Int) (m013:Bool) (m014 m015:BA) (m016:(Sq T0)) (m017:BA) (m018:Int) (m019 m020:Bool) (r r1:BA) (r2 r3 r4 r5:Int) (kn:Int→Int→Int→Int→Bool→BA→BA→(Sq T0)→BA→Int→Bool→Bool→BA→BA→Int→Int→Int→Int→Option R) (ko:U7→Option R) (kr:(Bool)→Option R) (kp:Int→Option R):Option R:=if (decide (k0<i1))=true then if 0≤k0∧k0<(m016.n:Int) then if ((((((m016.at' (Int.toNat k0))).1).1).toList==r.toList)&&(((((((m016.at' (Int.toNat k0))).1).2).1).toList==r1.toList)&&true))=true then kr false else kn i1 (IntKind.wrap .i64 (k0+(1:Int))) m011 m012 m013 m014 m015 m016 m017 m018 m019 m020 r r1 r2 r3 r4 r5 else none else ko (i1,m011,m012,m013,m014,m015,m016,m017,m018,m019,m020)
def ub (n:Nat):Nat→Int→Int→Int→Int→Bool→BA→BA→(Sq T0)→BA→Int→Bool→Bool→BA→BA→Int→Int→Int→Int→Option (Lx U7 (Bool))
 | 0,_,_,_,_,_,_,_,_,_,_,_,_,_,_,_,_,_,_=>none
 | m+1,i1,k0,m011,m012,m013,m014,m015,m016,m017,m018,m019,m020,r,r1,r2,r3,r4,r5=>Ie n i1 k0 m011 m012 m013 m014 m015 m016 m017 m018 m019 m020 r r1 r2 r3 r4 r5 (ub n m) (fun a=>some (.out a)) (fun a=>some (.ret a)) (fun p=>some (.pan p))
theorem nH (n m:Nat) {S:Type}:∀ i1 k0 m011 m012 m013 m014 m015 m016 m017 m018 m019 m020 r r1 r2 r3 r4 r5 (φ:_→Option S),(ub n (m+1) i1 k0 m011 m012 m013 m014 m015 m016 m017 m018 m019 m020 r r1 r2 r3 r4 r5).bind φ=Ie n i1 k0 m011 m012 m013 m014 m015 m016 m017 m018 m019 m020 r r1 r2 r3 r4 r5 (fun i1 k0 m011 m012 m013 m014 m015 m016 m017 m018 m019 m020 r r1 r2 r3 r4 r5=>(ub n m i1 k0 m011 m012 m013 m014 m015 m016 m017 m018 m019 m020 r r1 r2 r3 r4 r5).bind φ) (fun a=>φ (.out a)) (fun a=>φ (.ret a)) (fun p=>φ (.pan p)):=by
  intros;first | (simp only [ub,Ie,fa,ba,iB,bB,oL,oX,nB,Option.bind_some]) | rfl
def ak:List Sl:=.top::.ptr 0 0 0::.top::.dat (.int .i64)::.ptr 1 0 0::.dat (.int .i64)::tp 118 []
def Zj:List RS:=[.box 59 10 true [.dat (.int .i64),.dat (.int .i64),.dat .bool,.dat .str,.dat .str,.dat (.sl K0),.dat .str,.dat (.int .i64),.dat .bool,.dat .bool],.box 62 6 true [.dat .str,.dat .str,.dat (.int .i64),.dat (.int .i64),.dat (.int .i64),.dat (.int .i64)]]
def Zy:List Sl:=.top::.ptr 0 0 0::.top::.dat (.int .i64)::tp 120 []
def Yy:List RS:=[.box 59 10 true [.dat (.int .i64),.dat (.int .i64),.dat .bool,.dat .str,.dat .str,.dat (.sl K0),.dat .str,.dat (.int .i64),.dat .bool,.dat .bool]]
def bz:List Sl:=.top::.top::.dat .bool::tp 121 []
def az:List RS:=[]
def Jc (K:XE→List AV→ia→Option Out):Lx U7 (Bool)→Option Out:=fun x=>onL x (fun a=>Ye Zy Yy (a.1,()) ((a.2.1,(a.2.2.1,(a.2.2.2.1,(a.2.2.2.2.1,(a.2.2.2.2.2.1,(a.2.2.2.2.2.2.1,(a.2.2.2.2.2.2.2.1,(a.2.2.2.2.2.2.2.2.1,(a.2.2.2.2.2.2.2.2.2.1,(a.2.2.2.2.2.2.2.2.2.2,())))))))))),()) (K (.exit 2))) (fun a=>Ye bz az (a,()) () (K .ret)) (fun _=>none)
def He (n:Nat) {R:Type} (i m01 m02:Int) (m03:Bool) (m04 m05:BA) (m06:(Sq T0)) (m07:BA) (m08:Int) (m09 m010:Bool) (kn:Int→Int→Int→Bool→BA→BA→(Sq T0)→BA→Int→Bool→Bool→Option R) (ko:U8→Option R) (kr:(Bool)→Option R) (kp:Int→Option R):Option R:=if (decide (i<(m06.n:Int)))=true then if 0≤i∧i<(m06.n:Int) then (xQ n ((((m06.at' (Int.toNat i))).1).1,(((((m06.at' (Int.toNat i))).1).2).1,()))).bind fun v3=>if (!v3)=false then if (decide (((((m06.at' (Int.toNat i))).2).1)<(0:Int)))=false then if (decide (((((m06.at' (Int.toNat i))).2).1)>(4:Int)))=false then (km n (((((m06.at' (Int.toNat i))).2).2).1) (1048576:Int)).bind fun v4=>if (!v4)=false then (km n ((((((m06.at' (Int.toNat i))).2).2).2).1) (2199023255552:Int)).bind fun v5=>if (!v5)=false then (km n (((((((m06.at' (Int.toNat i))).2).2).2).2).1) (599:Int)).bind fun v6=>if (!v6)=true then kr false else (ub n n i (0:Int) m01 m02 m03 m04 m05 m06 m07 m08 m09 m010 ((((m06.at' (Int.toNat i))).1).1) (((((m06.at' (Int.toNat i))).1).2).1) ((((m06.at' (Int.toNat i))).2).1) (((((m06.at' (Int.toNat i))).2).2).1) ((((((m06.at' (Int.toNat i))).2).2).2).1) (((((((m06.at' (Int.toNat i))).2).2).2).2).1)).bind fun x_1=>onL x_1 (fun a_2=>kn (IntKind.wrap .i64 (a_2.1+(1:Int))) a_2.2.1 a_2.2.2.1 a_2.2.2.2.1 a_2.2.2.2.2.1 a_2.2.2.2.2.2.1 a_2.2.2.2.2.2.2.1 a_2.2.2.2.2.2.2.2.1 a_2.2.2.2.2.2.2.2.2.1 a_2.2.2.2.2.2.2.2.2.2.1 a_2.2.2.2.2.2.2.2.2.2.2)
 (fun a_3=>kr a_3) (fun _=>none) else kr false else kr false else kr false else kr false else kr false else none else ko (m01,m02,m03,m04,m05,m06,m07,m08,m09,m010)
def Pa (n:Nat):Nat→Int→Int→Int→Bool→BA→BA→(Sq T0)→BA→Int→Bool→Bool→Option (Lx U8 (Bool))
 | 0,_,_,_,_,_,_,_,_,_,_,_=>none
 | m+1,i,m01,m02,m03,m04,m05,m06,m07,m08,m09,m010=>He n i m01 m02 m03 m04 m05 m06 m07 m08 m09 m010 (Pa n m) (fun a=>some (.out a)) (fun a=>some (.ret a)) (fun p=>some (.pan p))
theorem mH (n m:Nat) {S:Type}:∀ i m01 m02 m03 m04 m05 m06 m07 m08 m09 m010 (φ:_→Option S),(Pa n (m+1) i m01 m02 m03 m04 m05 m06 m07 m08 m09 m010).bind φ=He n i m01 m02 m03 m04 m05 m06 m07 m08 m09 m010 (fun i m01 m02 m03 m04 m05 m06 m07 m08 m09 m010=>(Pa n m i m01 m02 m03 m04 m05 m06 m07 m08 m09 m010).bind φ) (fun a=>φ (.out a)) (fun a=>φ (.ret a)) (fun p=>φ (.pan p)):=by
  intros;first | (simp only [Pa,He,fa,ba,iB,bB,oL,oX,nB,Option.bind_some]) | rfl
def Yj:List Sl:=.top::.ptr 0 0 0::.top::.dat (.int .i64)::tp 120 []
def Xj:List RS:=[.box 59 10 true [.dat (.int .i64),.dat (.int .i64),.dat .bool,.dat .str,.dat .str,.dat (.sl K0),.dat .str,.dat (.int .i64),.dat .bool,.dat .bool]]
def Vy:List Sl:=.top::.ptr 0 0 0::tp 122 []
def Uy:List RS:=[.box 59 10 true [.dat (.int .i64),.dat (.int .i64),.dat .bool,.dat .str,.dat .str,.dat (.sl K0),.dat .str,.dat (.int .i64),.dat .bool,.dat .bool]]
def Xy:List Sl:=.top::.top::.dat .bool::tp 121 []
def Wy:List RS:=[]
def Ic (K:XE→List AV→ia→Option Out):Lx U8 (Bool)→Option Out:=fun x=>onL x (fun a=>Ye Vy Uy () ((a.1,(a.2.1,(a.2.2.1,(a.2.2.2.1,(a.2.2.2.2.1,(a.2.2.2.2.2.1,(a.2.2.2.2.2.2.1,(a.2.2.2.2.2.2.2.1,(a.2.2.2.2.2.2.2.2.1,(a.2.2.2.2.2.2.2.2.2,())))))))))),()) (K (.exit 0))) (fun a=>Ye Xy Wy (a,()) () (K .ret)) (fun _=>none)
def Yk (n:Nat) {R:Type} (m0:T1) (k:Bool→Option R):Option R:=if (decide (m0.1<(1:Int)))=false then if (decide (m0.1>(1099511627776:Int)))=false then (km n m0.2.1 (3:Int)).bind fun v=>if (!v)=false then if (decide ((m0.2.2.2.2.1.n:Int)<(1:Int)))=false then if (decide ((m0.2.2.2.2.1.n:Int)>(8:Int)))=false then (km n m0.2.2.2.2.2.2.1 (1099511627776:Int)).bind fun v1=>if (!v1)=true then k false else if m0.2.2.1=true then if (!((m0.2.2.2.1.1.toList==(⟨#[]⟩:BA).toList)&&((m0.2.2.2.1.2.1.toList==(⟨#[]⟩:BA).toList)&&true)))=false then if (!m0.2.2.1)=true then (xQ n (m0.2.2.2.1.1,(m0.2.2.2.1.2.1,()))).bind fun v2=>if (!v2)=true then k false else (Pa n n (0:Int) m0.1 m0.2.1 m0.2.2.1 m0.2.2.2.1.1 m0.2.2.2.1.2.1 m0.2.2.2.2.1 m0.2.2.2.2.2.1 m0.2.2.2.2.2.2.1 m0.2.2.2.2.2.2.2.1 m0.2.2.2.2.2.2.2.2.1).bind fun x_1=>onL x_1 (fun a_2=>(bC n a_2.2.2.2.2.2.2.1).bind fun v7=>k v7.2.1) (fun a_3=>k a_3) (fun _=>none) else (Pa n n (0:Int) m0.1 m0.2.1 m0.2.2.1 m0.2.2.2.1.1 m0.2.2.2.1.2.1 m0.2.2.2.2.1 m0.2.2.2.2.2.1 m0.2.2.2.2.2.2.1 m0.2.2.2.2.2.2.2.1 m0.2.2.2.2.2.2.2.2.1).bind fun x_4=>onL x_4 (fun a_5=>(bC n a_5.2.2.2.2.2.2.1).bind fun v8=>k v8.2.1) (fun a_6=>k a_6) (fun _=>none) else k false else if (!m0.2.2.1)=true then (xQ n (m0.2.2.2.1.1,(m0.2.2.2.1.2.1,()))).bind fun v9=>
 if (!v9)=true then k false else (Pa n n (0:Int) m0.1 m0.2.1 m0.2.2.1 m0.2.2.2.1.1 m0.2.2.2.1.2.1 m0.2.2.2.2.1 m0.2.2.2.2.2.1 m0.2.2.2.2.2.2.1 m0.2.2.2.2.2.2.2.1 m0.2.2.2.2.2.2.2.2.1).bind fun x_7=>onL x_7 (fun a_8=>(bC n a_8.2.2.2.2.2.2.1).bind fun v10=>k v10.2.1) (fun a_9=>k a_9) (fun _=>none) else (Pa n n (0:Int) m0.1 m0.2.1 m0.2.2.1 m0.2.2.2.1.1 m0.2.2.2.1.2.1 m0.2.2.2.2.1 m0.2.2.2.2.2.1 m0.2.2.2.2.2.2.1 m0.2.2.2.2.2.2.2.1 m0.2.2.2.2.2.2.2.2.1).bind fun x_10=>onL x_10 (fun a_11=>(bC n a_11.2.2.2.2.2.2.1).bind fun v11=>k v11.2.1) (fun a_12=>k a_12) (fun _=>none) else k false else k false else k false else k false else k false
def th (n:Nat) (m0:T1):Option Bool:=Yk n m0 some
theorem OO (n:Nat) {S:Type}:∀ m0 (φ:_→Option S),(th n m0).bind φ=Yk n m0 φ:=by
  intros;unfold th Yk;first | (simp only [fa,ba,iB,bB,oL,oX,nB,Option.bind_some]) | rfl
def Sd (n:Nat):Hint Out:={ live:=fun c=>(cond (Nat.beq c 0) [(1,none),(3,none)] (cond (Nat.beq c 2) (lv [1,3,4,5]) [])),run:=fun c=>(cond (Nat.beq c 0) (some (Zl Yj Xj fun σ ρ K=>(Pa n n σ.1 ρ.1.1 ρ.1.2.1 ρ.1.2.2.1 ρ.1.2.2.2.1 ρ.1.2.2.2.2.1 ρ.1.2.2.2.2.2.1 ρ.1.2.2.2.2.2.2.1 ρ.1.2.2.2.2.2.2.2.1 ρ.1.2.2.2.2.2.2.2.2.1 ρ.1.2.2.2.2.2.2.2.2.2.1).bind (Ic K))) (cond (Nat.beq c 2) (some (Zl ak Zj fun σ ρ K=>(ub n n σ.1 σ.2.1 ρ.1.1 ρ.1.2.1 ρ.1.2.2.1 ρ.1.2.2.2.1 ρ.1.2.2.2.2.1 ρ.1.2.2.2.2.2.1 ρ.1.2.2.2.2.2.2.1 ρ.1.2.2.2.2.2.2.2.1 ρ.1.2.2.2.2.2.2.2.2.1 ρ.1.2.2.2.2.2.2.2.2.2.1 ρ.2.1.1 ρ.2.1.2.1 ρ.2.1.2.2.1 ρ.2.1.2.2.2.1 ρ.2.1.2.2.2.2.1 ρ.2.1.2.2.2.2.2.1).bind (Jc K))) none)),xm:=fun c q=>(cond (Nat.beq c 0&&Nat.beq (q.getD 1000000) 0&&q.isSome) (some [(1,none)]) (cond (Nat.beq c 2&&Nat.beq (q.getD 1000000) 2&&q.isSome) (some [(1,none),(3,none)]) (cond (Nat.beq c 3&&q.isNone) (some [(2,none)]) (cond (Nat.beq c 1&&q.isNone) (some [(2,none)]) none)))) }
def Vg (n:Nat) (K:XE→List AV→ia→Option Out) (m:Nat) (i1:Int) (k0:Int) (m011:Int) (m012:Int) (m013:Bool) (m014:BA) (m015:BA) (m016:(Sq T0)) (m017:BA) (m018:Int) (m019:Bool) (m020:Bool) (r:BA) (r1:BA) (r2:Int) (r3:Int) (r4:Int) (r5:Int):Option Out:=rd tys (da Out (Mp n)) (Sd n) n (ta [1,1,1,0,1,0,0,1,0,0,1,1,1,0,0] (aa Tryz.f66)) 2 ak Zj K m (i1,(k0,())) ((m011,(m012,(m013,(m014,(m015,(m016,(m017,(m018,(m019,(m020,())))))))))),((r,(r1,(r2,(r3,(r4,(r5,())))))),()))
theorem Ds (n:Nat) (K:XE→List AV→ia→Option Out):∀ (m:Nat) i1 k0 m011 m012 m013 m014 m015 m016 m017 m018 m019 m020 r r1 r2 r3 r4 r5,Vg n K m i1 k0 m011 m012 m013 m014 m015 m016 m017 m018 m019 m020 r r1 r2 r3 r4 r5=(ub n m i1 k0 m011 m012 m013 m014 m015 m016 m017 m018 m019 m020 r r1 r2 r3 r4 r5).bind (Jc K)
  | 0,_,_,_,_,_,_,_,_,_,_,_,_,_,_,_,_,_,_=>by kernel_rfl
  | m+1,i1,k0,m011,m012,m013,m014,m015,m016,m017,m018,m019,m020,r,r1,r2,r3,r4,r5=>by
    have h1:Vg n K (m+1) i1 k0 m011 m012 m013 m014 m015 m016 m017 m018 m019 m020 r r1 r2 r3 r4 r5=Ie n i1 k0 m011 m012 m013 m014 m015 m016 m017 m018 m019 m020 r r1 r2 r3 r4 r5 (Vg n K m) (fun a=>Jc K (.out a)) (fun a=>Jc K (.ret a)) (fun p=>Jc K (.pan p)):=by kernel_rfl
    have h2:Vg n K m=fun i1 k0 m011 m012 m013 m014 m015 m016 m017 m018 m019 m020 r r1 r2 r3 r4 r5=>(ub n m i1 k0 m011 m012 m013 m014 m015 m016 m017 m018 m019 m020 r r1 r2 r3 r4 r5).bind (Jc K):=by
      repeat (refine funext fun _=>?_)
      exact Ds n K m _ _ _ _ _ _ _ _ _ _ _ _ _ _ _ _ _ _
    rw [h1,h2];exact (nH n m _ _ _ _ _ _ _ _ _ _ _ _ _ _ _ _ _ _ (Jc K)).symm
theorem JE (n:Nat):Vc tys (da Out (Mp n)) (Sd n) n (ta [1,1,1,0,1,0,0,1,0,0,1,1,1,0,0] (aa Tryz.f66)) 2:=Ca (sp:=ak) (rp:=Zj) (by kernel_rfl) fun K σ ρ=>Ds n K n σ.1 σ.2.1 ρ.1.1 ρ.1.2.1 ρ.1.2.2.1 ρ.1.2.2.2.1 ρ.1.2.2.2.2.1 ρ.1.2.2.2.2.2.1 ρ.1.2.2.2.2.2.2.1 ρ.1.2.2.2.2.2.2.2.1 ρ.1.2.2.2.2.2.2.2.2.1 ρ.1.2.2.2.2.2.2.2.2.2.1 ρ.2.1.1 ρ.2.1.2.1 ρ.2.1.2.2.1 ρ.2.1.2.2.2.1 ρ.2.1.2.2.2.2.1 ρ.2.1.2.2.2.2.2.1
def Ug (n:Nat) (K:XE→List AV→ia→Option Out) (m:Nat) (i:Int) (m01:Int) (m02:Int) (m03:Bool) (m04:BA) (m05:BA) (m06:(Sq T0)) (m07:BA) (m08:Int) (m09:Bool) (m010:Bool):Option Out:=rd tys (da Out (Mp n)) (Sd n) n (ta [1,1,1,0,1,0,0] (aa Tryz.f66)) 0 Yj Xj K m (i,()) ((m01,(m02,(m03,(m04,(m05,(m06,(m07,(m08,(m09,(m010,())))))))))),())
theorem Cs (n:Nat) (K:XE→List AV→ia→Option Out):∀ (m:Nat) i m01 m02 m03 m04 m05 m06 m07 m08 m09 m010,Ug n K m i m01 m02 m03 m04 m05 m06 m07 m08 m09 m010=(Pa n m i m01 m02 m03 m04 m05 m06 m07 m08 m09 m010).bind (Ic K)
  | 0,_,_,_,_,_,_,_,_,_,_,_=>by kernel_rfl
  | m+1,i,m01,m02,m03,m04,m05,m06,m07,m08,m09,m010=>by
    have h1:Ug n K (m+1) i m01 m02 m03 m04 m05 m06 m07 m08 m09 m010=He n i m01 m02 m03 m04 m05 m06 m07 m08 m09 m010 (Ug n K m) (fun a=>Ic K (.out a)) (fun a=>Ic K (.ret a)) (fun p=>Ic K (.pan p)):=by kernel_rfl
    have h2:Ug n K m=fun i m01 m02 m03 m04 m05 m06 m07 m08 m09 m010=>(Pa n m i m01 m02 m03 m04 m05 m06 m07 m08 m09 m010).bind (Ic K):=by
      repeat (refine funext fun _=>?_)
      exact Cs n K m _ _ _ _ _ _ _ _ _ _ _
    rw [h1,h2];exact (mH n m _ _ _ _ _ _ _ _ _ _ _ (Ic K)).symm
theorem IE (n:Nat):Vc tys (da Out (Mp n)) (Sd n) n (ta [1,1,1,0,1,0,0] (aa Tryz.f66)) 0:=Ca (sp:=Yj) (rp:=Xj) (by kernel_rfl) fun K σ ρ=>Cs n K n σ.1 ρ.1.1 ρ.1.2.1 ρ.1.2.2.1 ρ.1.2.2.2.1 ρ.1.2.2.2.2.1 ρ.1.2.2.2.2.2.1 ρ.1.2.2.2.2.2.2.1 ρ.1.2.2.2.2.2.2.2.1 ρ.1.2.2.2.2.2.2.2.2.1 ρ.1.2.2.2.2.2.2.2.2.2.1
theorem oH (n:Nat):qa tys (da Out (Mp n)) (Sd n) n (aa Tryz.f66) 0:=⟨trivial,⟨⟨trivial,⟨⟨trivial,trivial⟩,trivial⟩⟩,⟨⟨trivial,⟨⟨trivial,trivial⟩,trivial⟩⟩,⟨⟨trivial,⟨IE n,⟨⟨trivial,⟨trivial,trivial⟩⟩,⟨⟨trivial,⟨⟨trivial,⟨⟨trivial,trivial⟩,trivial⟩⟩,⟨trivial,⟨JE n,⟨⟨trivial,⟨trivial,trivial⟩⟩,⟨⟨trivial,⟨⟨trivial,trivial⟩,trivial⟩⟩,trivial⟩⟩⟩⟩⟩⟩,trivial⟩⟩⟩⟩,⟨trivial,⟨trivial,trivial⟩⟩⟩⟩⟩⟩
theorem FJ (n:Nat):Enters Tryz.prog 66:=enters_of (c:=aa Tryz.f66) Tryz.func66 (by kernel_rfl) (by kernel_rfl)
def Zw (n:Nat):Entry:=⟨66,pcT K2 (.one .bool) (fun xs=>th n xs.1),none,none⟩
theorem WL (n:Nat):EntryOk Tryz.prog gl (Zw n):=wa (FJ n) fun xs y h=>ja tys_ok (IM n) mixed (hint:=Sd n) (n:=n) Tryz.func66 (Ea (oH n)) (ma (φ:=(fun y=>some (Out.ret (Uc (.one .bool) y)))) (by kernel_rfl) (OO n xs.1 _) h)
def xg (n:Nat):List Entry:=Zw n::Mp n
theorem Xq (n:Nat):AllOk Tryz.prog gl (xg n):=.cons (WL n) (IM n)
def uf (n:Nat) {R:Type} (n0 i s1:Int) (s2:(Sq T1)) (kn:Int→Int→Int→(Sq T1)→Option R) (ko:(Int)→Option R) (kr:(Bool)→Option R) (kp:Int→Option R):Option R:=if (decide (i<(s2.n:Int)))=true then if 0≤i∧i<(s2.n:Int) then (th n (((s2.at' (Int.toNat i))).1,((((s2.at' (Int.toNat i))).2).1,(((((s2.at' (Int.toNat i))).2).2).1,((((((((s2.at' (Int.toNat i))).2).2).2).1).1,((((((((s2.at' (Int.toNat i))).2).2).2).1).2).1,())),((((((((s2.at' (Int.toNat i))).2).2).2).2).1),((((((((s2.at' (Int.toNat i))).2).2).2).2).2).1,(((((((((s2.at' (Int.toNat i))).2).2).2).2).2).2).1,((((((((((s2.at' (Int.toNat i))).2).2).2).2).2).2).2).1,(((((((((((s2.at' (Int.toNat i))).2).2).2).2).2).2).2).2).1,())))))))))).bind fun v=>if (!v)=false then if (decide ((((s2.at' (Int.toNat i))).1)≥s1))=false then if (decide (i>(0:Int)))=true then if 0≤(IntKind.wrap .i64 (i - (1:Int)))∧(IntKind.wrap .i64 (i - (1:Int)))<(s2.n:Int) then if (decide ((((s2.at' (Int.toNat (IntKind.wrap .i64 (i - (1:Int)))))).1)≥(((s2.at' (Int.toNat i))).1)))=true then kr false else if (!(((((s2.at' (Int.toNat i))).2).2).1))=true then kn (IntKind.wrap .i64 (n0+(1:Int))) (IntKind.wrap .i64 (i+(1:Int))) s1 s2 else kn n0 (IntKind.wrap .i64 (i+(1:Int))) s1 s2 else none else if (!(((((s2.at' (Int.toNat i))).2).2).1))=true then kn (IntKind.wrap .i64 (n0+(1:Int))) (IntKind.wrap .i64 (i+(1:Int))) s1 s2 else kn n0 (IntKind.wrap .i64 (i+(1:Int))) s1 s2
 else kr false else kr false else none else ko n0
def db (n:Nat):Nat→Int→Int→Int→(Sq T1)→Option (Lx (Int) (Bool))
 | 0,_,_,_,_=>none
 | m+1,n0,i,s1,s2=>uf n n0 i s1 s2 (db n m) (fun a=>some (.out a)) (fun a=>some (.ret a)) (fun p=>some (.pan p))
theorem JJ (n m:Nat) {S:Type}:∀ n0 i s1 s2 (φ:_→Option S),(db n (m+1) n0 i s1 s2).bind φ=uf n n0 i s1 s2 (fun n0 i s1 s2=>(db n m n0 i s1 s2).bind φ) (fun a=>φ (.out a)) (fun a=>φ (.ret a)) (fun p=>φ (.pan p)):=by
  intros;first | (simp only [db,uf,fa,ba,iB,bB,oL,oX,nB,Option.bind_some]) | rfl
def Ul:List Sl:=.top::.ptr 0 0 0::.top::.dat (.int .i64)::.dat (.int .i64)::tp 60 []
def Tl:List RS:=[.box 24 2 true [.dat (.int .i64),.dat (.sl K1)]]
def GA:List Sl:=.top::.top::.top::.dat (.int .i64)::tp 61 []
def FA:List RS:=[]
def IA:List Sl:=.top::.top::.dat .bool::tp 62 []
def HA:List RS:=[]
def Zc (K:XE→List AV→ia→Option Out):Lx (Int) (Bool)→Option Out:=fun x=>onL x (fun a=>Ye GA FA (a,()) () (K (.exit 0))) (fun a=>Ye IA HA (a,()) () (K .ret)) (fun _=>none)
def tm (n:Nat) {R:Type} (s:U1) (k:Bool→Option R):Option R:=if (decide (s.1<(1:Int)))=false then if (decide (s.1>(1099511627776:Int)))=false then if (decide ((s.2.1.n:Int)>(128:Int)))=true then k false else (db n n (0:Int) (0:Int) s.1 s.2.1).bind fun x_1=>onL x_1 (fun a_2=>k (decide (a_2≤(64:Int)))) (fun a_3=>k a_3) (fun _=>none) else k false else k false
def lj (n:Nat) (s:U1):Option Bool:=tm n s some
theorem kR (n:Nat) {S:Type}:∀ s (φ:_→Option S),(lj n s).bind φ=tm n s φ:=by
  intros;unfold lj tm;first | (simp only [fa,ba,iB,bB,oL,oX,nB,Option.bind_some]) | rfl
def ui (n:Nat):Hint Out:={ live:=fun c=>(cond (Nat.beq c 0) (lv [1,3,4]) []),run:=fun c=>(cond (Nat.beq c 0) (some (Zl Ul Tl fun σ ρ K=>(db n n σ.1 σ.2.1 ρ.1.1 ρ.1.2.1).bind (Zc K))) none),xm:=fun c q=>(cond (Nat.beq c 0&&Nat.beq (q.getD 1000000) 0&&q.isSome) (some [(3,none)]) (cond (Nat.beq c 1&&q.isNone) (some [(2,none)]) none)) }
def ti (n:Nat) (K:XE→List AV→ia→Option Out) (m:Nat) (n0:Int) (i:Int) (s1:Int) (s2:(Sq T1)):Option Out:=rd tys (da Out (xg n)) (ui n) n (ta [1,1,1,0,1,0,0] (aa Tryz.f20)) 0 Ul Tl K m (n0,(i,())) ((s1,(s2,())),())
theorem uv (n:Nat) (K:XE→List AV→ia→Option Out):∀ (m:Nat) n0 i s1 s2,ti n K m n0 i s1 s2=(db n m n0 i s1 s2).bind (Zc K)
  | 0,_,_,_,_=>by kernel_rfl
  | m+1,n0,i,s1,s2=>by
    have h1:ti n K (m+1) n0 i s1 s2=uf n n0 i s1 s2 (ti n K m) (fun a=>Zc K (.out a)) (fun a=>Zc K (.ret a)) (fun p=>Zc K (.pan p)):=by kernel_rfl
    have h2:ti n K m=fun n0 i s1 s2=>(db n m n0 i s1 s2).bind (Zc K):=by
      repeat (refine funext fun _=>?_)
      exact uv n K m _ _ _ _
    rw [h1,h2];exact (JJ n m _ _ _ _ (Zc K)).symm
theorem vH (n:Nat):Vc tys (da Out (xg n)) (ui n) n (ta [1,1,1,0,1,0,0] (aa Tryz.f20)) 0:=Ca (sp:=Ul) (rp:=Tl) (by kernel_rfl) fun K σ ρ=>uv n K n σ.1 σ.2.1 ρ.1.1 ρ.1.2.1
theorem KJ (n:Nat):qa tys (da Out (xg n)) (ui n) n (aa Tryz.f20) 0:=⟨trivial,⟨⟨trivial,⟨⟨trivial,trivial⟩,trivial⟩⟩,⟨trivial,⟨⟨trivial,⟨vH n,⟨⟨trivial,⟨trivial,trivial⟩⟩,⟨⟨trivial,⟨⟨trivial,⟨⟨trivial,trivial⟩,trivial⟩⟩,⟨trivial,⟨trivial,trivial⟩⟩⟩⟩,trivial⟩⟩⟩⟩,⟨trivial,trivial⟩⟩⟩⟩⟩
theorem aM (n:Nat):Enters Tryz.prog 20:=enters_of (c:=aa Tryz.f20) Tryz.func20 (by kernel_rfl) (by kernel_rfl)
def JA (n:Nat):Entry:=⟨20,pcT K4 (.one .bool) (fun xs=>lj n xs.1),none,none⟩
theorem SO (n:Nat):EntryOk Tryz.prog gl (JA n):=wa (aM n) fun xs y h=>ja tys_ok (Xq n) mixed (hint:=ui n) (n:=n) Tryz.func20 (Ea (KJ n)) (ma (φ:=(fun y=>some (Out.ret (Uc (.one .bool) y)))) (by kernel_rfl) (kR n xs.1 _) h)
def xh (n:Nat):List Entry:=JA n::xg n
theorem Hs (n:Nat):AllOk Tryz.prog gl (xh n):=.cons (SO n) (Xq n)
def Ah (n:Nat) {R:Type} (l1:(Sq T0)) (i:Int) (m0:(Sq T0)) (kn:(Sq T0)→Int→(Sq T0)→Option R) (ko:((Sq T0))→Option R) (kr:Unit→Option R) (kp:Int→Option R):Option R:=if (decide (i<(l1.n:Int)))=true then if 0≤i∧i<(l1.n:Int) then if Rb (m0.n+1) 64=true then kn l1 (IntKind.wrap .i64 (i+(1:Int))) (⟨(m0.n+1),fun q=>if q<m0.n then m0.at' q else (fun q=>List.getD (α:=T0) [(((((l1.at' (Int.toNat i))).1).1,(((((l1.at' (Int.toNat i))).1).2).1,())),((((l1.at' (Int.toNat i))).2).1,(((((l1.at' (Int.toNat i))).2).2).1,((((((l1.at' (Int.toNat i))).2).2).2).1,(((((((l1.at' (Int.toNat i))).2).2).2).2).1,())))))] q (Ba K0)) (q - m0.n)⟩:Sq T0) else none else none else ko m0
def wc (n:Nat):Nat→(Sq T0)→Int→(Sq T0)→Option (Lx ((Sq T0)) Unit)
 | 0,_,_,_=>none
 | m+1,l1,i,m0=>Ah n l1 i m0 (wc n m) (fun a=>some (.out a)) (fun a=>some (.ret a)) (fun p=>some (.pan p))
theorem ZO (n m:Nat) {S:Type}:∀ l1 i m0 (φ:_→Option S),(wc n (m+1) l1 i m0).bind φ=Ah n l1 i m0 (fun l1 i m0=>(wc n m l1 i m0).bind φ) (fun a=>φ (.out a)) (fun a=>φ (.ret a)) (fun p=>φ (.pan p)):=by
  intros;first | (simp only [wc,Ah,fa,ba,iB,bB,oL,oX,nB,Option.bind_some]) | rfl
def eo:List Sl:=.dat (.sl K0)::.top::.top::.row 0::.dat (.int .i64)::tp 14 []
def co:List RS:=[.row 62 6 K0 true false]
def DD:List Sl:=.top::.top::.top::.row 0::tp 15 []
def CD:List RS:=[.row 62 6 K0 true false]
def de (K:XE→List AV→ia→Option Out):Lx ((Sq T0)) Unit→Option Out:=fun x=>onL x (fun a=>Ye DD CD () (a,()) (K (.exit 0))) (fun _=>none) (fun _=>none)
def lq (n:Nat) {R:Type} (l:(Sq T0)) (k:(Sq T0)→Option R):Option R:=(wc n n l (0:Int) (⟨0,fun _=>Ba K0⟩:Sq T0)).bind fun x_1=>onL x_1 (fun a_2=>k a_2) (fun _=>none) (fun _=>none)
def Vm (n:Nat) (l:(Sq T0)):Option (Sq T0):=lq n l some
theorem iW (n:Nat) {S:Type}:∀ l (φ:_→Option S),(Vm n l).bind φ=lq n l φ:=by
  intros;unfold Vm lq;first | (simp only [fa,ba,iB,bB,oL,oX,nB,Option.bind_some]) | rfl
def nl (n:Nat):Hint Out:={ live:=fun c=>(cond (Nat.beq c 0) [(0,some (.sl K0)),(3,some (.sl K0)),(4,none)] []),run:=fun c=>(cond (Nat.beq c 0) (some (Zl eo co fun σ ρ K=>(wc n n σ.1 σ.2.1 ρ.1).bind (de K))) none),xm:=fun c q=>(cond (Nat.beq c 0&&Nat.beq (q.getD 1000000) 0&&q.isSome) (some [(3,some (.sl K0))]) none) }
def ml (n:Nat) (K:XE→List AV→ia→Option Out) (m:Nat) (l1:(Sq T0)) (i:Int) (m0:(Sq T0)):Option Out:=rd tys (da Out (xh n)) (nl n) n (ta [1,1,0,1,0,0] (aa Tryz.f79)) 0 eo co K m (l1,(i,())) (m0,())
theorem QA (n:Nat) (K:XE→List AV→ia→Option Out):∀ (m:Nat) l1 i m0,ml n K m l1 i m0=(wc n m l1 i m0).bind (de K)
  | 0,_,_,_=>by kernel_rfl
  | m+1,l1,i,m0=>by
    have h1:ml n K (m+1) l1 i m0=Ah n l1 i m0 (ml n K m) (fun a=>de K (.out a)) (fun a=>de K (.ret a)) (fun p=>de K (.pan p)):=by kernel_rfl
    have h2:ml n K m=fun l1 i m0=>(wc n m l1 i m0).bind (de K):=by
      repeat (refine funext fun _=>?_)
      exact QA n K m _ _ _
    rw [h1,h2];exact (ZO n m _ _ _ (de K)).symm
theorem jM (n:Nat):Vc tys (da Out (xh n)) (nl n) n (ta [1,1,0,1,0,0] (aa Tryz.f79)) 0:=Ca (sp:=eo) (rp:=co) (by kernel_rfl) fun K σ ρ=>QA n K n σ.1 σ.2.1 ρ.1
theorem aP (n:Nat):qa tys (da Out (xh n)) (nl n) n (aa Tryz.f79) 0:=⟨trivial,⟨trivial,⟨⟨trivial,⟨jM n,⟨⟨trivial,⟨trivial,trivial⟩⟩,⟨trivial,trivial⟩⟩⟩⟩,⟨trivial,trivial⟩⟩⟩⟩
theorem pR (n:Nat):Enters Tryz.prog 79:=enters_of (c:=aa Tryz.f79) Tryz.func79 (by kernel_rfl) (by kernel_rfl)
def UE (n:Nat):Entry:=⟨79,pcT K15 (.one (.sl K0)) (fun xs=>Vm n xs.1),none,none⟩
theorem UT (n:Nat):EntryOk Tryz.prog gl (UE n):=wa (pR n) fun xs y h=>ja tys_ok (Hs n) mixed (hint:=nl n) (n:=n) Tryz.func79 (Ea (aP n)) (ma (φ:=(fun y=>some (Out.ret (Uc (.one (.sl K0)) y)))) (by kernel_rfl) (iW n xs.1 _) h)
def Dv (n:Nat):List Entry:=UE n::xh n
theorem nx (n:Nat):AllOk Tryz.prog gl (Dv n):=.cons (UT n) (Hs n)
def Ft (n:Nat) {R:Type} (a:T1) (k:T1→Option R):Option R:=(Vm n a.2.2.2.2.1).bind fun v=>k (a.1,(a.2.1,(a.2.2.1,((a.2.2.2.1.1,(a.2.2.2.1.2.1,())),(v,(a.2.2.2.2.2.1,(a.2.2.2.2.2.2.1,(a.2.2.2.2.2.2.2.1,(a.2.2.2.2.2.2.2.2.1,())))))))))
def Hm (n:Nat) (a:T1):Option T1:=Ft n a some
theorem hZ (n:Nat) {S:Type}:∀ a (φ:_→Option S),(Hm n a).bind φ=Ft n a φ:=by
  intros;unfold Hm Ft;first | (simp only [fa,ba,iB,bB,oL,oX,nB,Option.bind_some]) | rfl
def YC (n:Nat):Hint Out:={ live:=fun c=>[],run:=fun c=>none,xm:=fun c q=>none }
theorem mR (n:Nat):qa tys (da Out (Dv n)) (YC n) n (aa Tryz.f33) 0:=oa (fun _=>rfl) _ _ (by kernel_rfl)
theorem ST (n:Nat):Enters Tryz.prog 33:=enters_of (c:=aa Tryz.f33) Tryz.func33 (by kernel_rfl) (by kernel_rfl)
def DI (n:Nat):Entry:=⟨33,pcT K2 (.one K1) (fun xs=>Hm n xs.1),none,none⟩
theorem fW (n:Nat):EntryOk Tryz.prog gl (DI n):=wa (ST n) fun xs y h=>ja tys_ok (nx n) mixed (hint:=YC n) (n:=n) Tryz.func33 (Ea (mR n)) (ma (φ:=(fun y=>some (Out.ret (Uc (.one K1) y)))) (by kernel_rfl) (hZ n xs.1 _) h)
def im (n:Nat):List Entry:=DI n::Dv n
theorem LA (n:Nat):AllOk Tryz.prog gl (im n):=.cons (fW n) (nx n)
def zh (n:Nat) {R:Type} (a1:(Sq T1)) (i:Int) (l:(Sq T1)) (kn:(Sq T1)→Int→(Sq T1)→Option R) (ko:((Sq T1))→Option R) (kr:Unit→Option R) (kp:Int→Option R):Option R:=if (decide (i<(a1.n:Int)))=true then if 0≤i∧i<(a1.n:Int) then (Hm n (((a1.at' (Int.toNat i))).1,((((a1.at' (Int.toNat i))).2).1,(((((a1.at' (Int.toNat i))).2).2).1,((((((((a1.at' (Int.toNat i))).2).2).2).1).1,((((((((a1.at' (Int.toNat i))).2).2).2).1).2).1,())),((((((((a1.at' (Int.toNat i))).2).2).2).2).1),((((((((a1.at' (Int.toNat i))).2).2).2).2).2).1,(((((((((a1.at' (Int.toNat i))).2).2).2).2).2).2).1,((((((((((a1.at' (Int.toNat i))).2).2).2).2).2).2).2).1,(((((((((((a1.at' (Int.toNat i))).2).2).2).2).2).2).2).2).1,())))))))))).bind fun v=>if Rb (l.n+1) 112=true then kn a1 (IntKind.wrap .i64 (i+(1:Int))) (⟨(l.n+1),fun q=>if q<l.n then l.at' q else (fun q=>List.getD (α:=T1) [(v.1,(v.2.1,(v.2.2.1,((v.2.2.2.1.1,(v.2.2.2.1.2.1,())),(v.2.2.2.2.1,(v.2.2.2.2.2.1,(v.2.2.2.2.2.2.1,(v.2.2.2.2.2.2.2.1,(v.2.2.2.2.2.2.2.2.1,())))))))))] q (Ba K1)) (q - l.n)⟩:Sq T1) else none else none else ko l
def vc (n:Nat):Nat→(Sq T1)→Int→(Sq T1)→Option (Lx ((Sq T1)) Unit)
 | 0,_,_,_=>none
 | m+1,a1,i,l=>zh n a1 i l (vc n m) (fun a=>some (.out a)) (fun a=>some (.ret a)) (fun p=>some (.pan p))
theorem WO (n m:Nat) {S:Type}:∀ a1 i l (φ:_→Option S),(vc n (m+1) a1 i l).bind φ=zh n a1 i l (fun a1 i l=>(vc n m a1 i l).bind φ) (fun a=>φ (.out a)) (fun a=>φ (.ret a)) (fun p=>φ (.pan p)):=by
  intros;first | (simp only [vc,zh,fa,ba,iB,bB,oL,oX,nB,Option.bind_some]) | rfl
def bo:List Sl:=.dat (.sl K1)::.top::.top::.row 0::.dat (.int .i64)::tp 15 []
def ao:List RS:=[.row 59 10 K1 true false]
def BD:List Sl:=.top::.top::.top::.row 0::tp 16 []
def AD:List RS:=[.row 59 10 K1 true false]
def ce (K:XE→List AV→ia→Option Out):Lx ((Sq T1)) Unit→Option Out:=fun x=>onL x (fun a=>Ye BD AD () (a,()) (K (.exit 0))) (fun _=>none) (fun _=>none)
def kq (n:Nat) {R:Type} (a:(Sq T1)) (k:(Sq T1)→Option R):Option R:=(vc n n a (0:Int) (⟨0,fun _=>Ba K1⟩:Sq T1)).bind fun x_1=>onL x_1 (fun a_2=>k a_2) (fun _=>none) (fun _=>none)
def gr (n:Nat) (a:(Sq T1)):Option (Sq T1):=kq n a some
theorem gW (n:Nat) {S:Type}:∀ a (φ:_→Option S),(gr n a).bind φ=kq n a φ:=by
  intros;unfold gr kq;first | (simp only [fa,ba,iB,bB,oL,oX,nB,Option.bind_some]) | rfl
def ll (n:Nat):Hint Out:={ live:=fun c=>(cond (Nat.beq c 0) [(0,some (.sl K1)),(3,some (.sl K1)),(4,none)] []),run:=fun c=>(cond (Nat.beq c 0) (some (Zl bo ao fun σ ρ K=>(vc n n σ.1 σ.2.1 ρ.1).bind (ce K))) none),xm:=fun c q=>(cond (Nat.beq c 0&&Nat.beq (q.getD 1000000) 0&&q.isSome) (some [(3,some (.sl K1))]) none) }
def il (n:Nat) (K:XE→List AV→ia→Option Out) (m:Nat) (a1:(Sq T1)) (i:Int) (l:(Sq T1)):Option Out:=rd tys (da Out (im n)) (ll n) n (ta [1,1,0,1,0,0] (aa Tryz.f60)) 0 bo ao K m (a1,(i,())) (l,())
theorem MA (n:Nat) (K:XE→List AV→ia→Option Out):∀ (m:Nat) a1 i l,il n K m a1 i l=(vc n m a1 i l).bind (ce K)
  | 0,_,_,_=>by kernel_rfl
  | m+1,a1,i,l=>by
    have h1:il n K (m+1) a1 i l=zh n a1 i l (il n K m) (fun a=>ce K (.out a)) (fun a=>ce K (.ret a)) (fun p=>ce K (.pan p)):=by kernel_rfl
    have h2:il n K m=fun a1 i l=>(vc n m a1 i l).bind (ce K):=by
      repeat (refine funext fun _=>?_)
      exact MA n K m _ _ _
    rw [h1,h2];exact (WO n m _ _ _ (ce K)).symm
theorem gM (n:Nat):Vc tys (da Out (im n)) (ll n) n (ta [1,1,0,1,0,0] (aa Tryz.f60)) 0:=Ca (sp:=bo) (rp:=ao) (by kernel_rfl) fun K σ ρ=>MA n K n σ.1 σ.2.1 ρ.1
theorem XO (n:Nat):qa tys (da Out (im n)) (ll n) n (aa Tryz.f60) 0:=⟨trivial,⟨trivial,⟨⟨trivial,⟨gM n,⟨⟨trivial,⟨trivial,trivial⟩⟩,⟨trivial,trivial⟩⟩⟩⟩,⟨trivial,trivial⟩⟩⟩⟩
theorem nR (n:Nat):Enters Tryz.prog 60:=enters_of (c:=aa Tryz.f60) Tryz.func60 (by kernel_rfl) (by kernel_rfl)
def TE (n:Nat):Entry:=⟨60,pcT K21 (.one (.sl K1)) (fun xs=>gr n xs.1),none,none⟩
theorem TT (n:Nat):EntryOk Tryz.prog gl (TE n):=wa (nR n) fun xs y h=>ja tys_ok (LA n) mixed (hint:=ll n) (n:=n) Tryz.func60 (Ea (XO n)) (ma (φ:=(fun y=>some (Out.ret (Uc (.one (.sl K1)) y)))) (by kernel_rfl) (gW n xs.1 _) h)
def Bv (n:Nat):List Entry:=TE n::im n
theorem lx (n:Nat):AllOk Tryz.prog gl (Bv n):=.cons (TT n) (LA n)
def mq (n:Nat) {R:Type} (a:U1) (k:U1→Option R):Option R:=(gr n a.2.1).bind fun v=>k (a.1,(v,()))
def Th (n:Nat) (a:U1):Option U1:=mq n a some
theorem jW (n:Nat) {S:Type}:∀ a (φ:_→Option S),(Th n a).bind φ=mq n a φ:=by
  intros;unfold Th mq;first | (simp only [fa,ba,iB,bB,oL,oX,nB,Option.bind_some]) | rfl
def RA (n:Nat):Hint Out:={ live:=fun c=>[],run:=fun c=>none,xm:=fun c q=>none }
theorem cP (n:Nat):qa tys (da Out (Bv n)) (RA n) n (aa Tryz.f16) 0:=oa (fun _=>rfl) _ _ (by kernel_rfl)
theorem qR (n:Nat):Enters Tryz.prog 16:=enters_of (c:=aa Tryz.f16) Tryz.func16 (by kernel_rfl) (by kernel_rfl)
def VE (n:Nat):Entry:=⟨16,pcT K4 (.one K3) (fun xs=>Th n xs.1),none,none⟩
theorem VT (n:Nat):EntryOk Tryz.prog gl (VE n):=wa (qR n) fun xs y h=>ja tys_ok (lx n) mixed (hint:=RA n) (n:=n) Tryz.func16 (Ea (cP n)) (ma (φ:=(fun y=>some (Out.ret (Uc (.one K3) y)))) (by kernel_rfl) (jW n xs.1 _) h)
def uk (n:Nat):List Entry:=VE n::Bv n
theorem ox (n:Nat):AllOk Tryz.prog gl (uk n):=.cons (VT n) (lx n)
def zf (n:Nat) {R:Type} (l1:(Sq T2)) (i:Int) (m0:(Sq T2)) (kn:(Sq T2)→Int→(Sq T2)→Option R) (ko:((Sq T2))→Option R) (kr:Unit→Option R) (kp:Int→Option R):Option R:=if (decide (i<(l1.n:Int)))=true then if 0≤i∧i<(l1.n:Int) then if Rb (m0.n+1) 88=true then kn l1 (IntKind.wrap .i64 (i+(1:Int))) (⟨(m0.n+1),fun q=>if q<m0.n then m0.at' q else (fun q=>List.getD (α:=T2) [(((l1.at' (Int.toNat i))).1,((((l1.at' (Int.toNat i))).2).1,(((((l1.at' (Int.toNat i))).2).2).1,((((((l1.at' (Int.toNat i))).2).2).2).1,(((((((((l1.at' (Int.toNat i))).2).2).2).2).1).1,(((((((((l1.at' (Int.toNat i))).2).2).2).2).1).2).1,((((((((((l1.at' (Int.toNat i))).2).2).2).2).1).2).2).1,(((((((((((l1.at' (Int.toNat i))).2).2).2).2).1).2).2).2).1,((((((((((((l1.at' (Int.toNat i))).2).2).2).2).1).2).2).2).2).1,()))))),((((((((l1.at' (Int.toNat i))).2).2).2).2).2).1,()))))))] q (Ba K6)) (q - m0.n)⟩:Sq T2) else none else none else ko m0
def Kb (n:Nat):Nat→(Sq T2)→Int→(Sq T2)→Option (Lx ((Sq T2)) Unit)
 | 0,_,_,_=>none
 | m+1,l1,i,m0=>zf n l1 i m0 (Kb n m) (fun a=>some (.out a)) (fun a=>some (.ret a)) (fun p=>some (.pan p))
theorem SJ (n m:Nat) {S:Type}:∀ l1 i m0 (φ:_→Option S),(Kb n (m+1) l1 i m0).bind φ=zf n l1 i m0 (fun l1 i m0=>(Kb n m l1 i m0).bind φ) (fun a=>φ (.out a)) (fun a=>φ (.ret a)) (fun p=>φ (.pan p)):=by
  intros;first | (simp only [Kb,zf,fa,ba,iB,bB,oL,oX,nB,Option.bind_some]) | rfl
def Yl:List Sl:=.dat (.sl K6)::.top::.top::.row 0::.dat (.int .i64)::tp 14 []
def Xl:List RS:=[.row 89 10 K6 true false]
def TA:List Sl:=.top::.top::.top::.row 0::tp 15 []
def SA:List RS:=[.row 89 10 K6 true false]
def ed (K:XE→List AV→ia→Option Out):Lx ((Sq T2)) Unit→Option Out:=fun x=>onL x (fun a=>Ye TA SA () (a,()) (K (.exit 0))) (fun _=>none) (fun _=>none)
def vm (n:Nat) {R:Type} (l:(Sq T2)) (k:(Sq T2)→Option R):Option R:=(Kb n n l (0:Int) (⟨0,fun _=>Ba K6⟩:Sq T2)).bind fun x_1=>onL x_1 (fun a_2=>k a_2) (fun _=>none) (fun _=>none)
def nj (n:Nat) (l:(Sq T2)):Option (Sq T2):=vm n l some
theorem rR (n:Nat) {S:Type}:∀ l (φ:_→Option S),(nj n l).bind φ=vm n l φ:=by
  intros;unfold nj vm;first | (simp only [fa,ba,iB,bB,oL,oX,nB,Option.bind_some]) | rfl
def Bi (n:Nat):Hint Out:={ live:=fun c=>(cond (Nat.beq c 0) [(0,some (.sl K6)),(3,some (.sl K6)),(4,none)] []),run:=fun c=>(cond (Nat.beq c 0) (some (Zl Yl Xl fun σ ρ K=>(Kb n n σ.1 σ.2.1 ρ.1).bind (ed K))) none),xm:=fun c q=>(cond (Nat.beq c 0&&Nat.beq (q.getD 1000000) 0&&q.isSome) (some [(3,some (.sl K6))]) none) }
def Ai (n:Nat) (K:XE→List AV→ia→Option Out) (m:Nat) (l1:(Sq T2)) (i:Int) (m0:(Sq T2)):Option Out:=rd tys (da Out (uk n)) (Bi n) n (ta [1,1,0,1,0,0] (aa Tryz.f176)) 0 Yl Xl K m (l1,(i,())) (m0,())
theorem Ev (n:Nat) (K:XE→List AV→ia→Option Out):∀ (m:Nat) l1 i m0,Ai n K m l1 i m0=(Kb n m l1 i m0).bind (ed K)
  | 0,_,_,_=>by kernel_rfl
  | m+1,l1,i,m0=>by
    have h1:Ai n K (m+1) l1 i m0=zf n l1 i m0 (Ai n K m) (fun a=>ed K (.out a)) (fun a=>ed K (.ret a)) (fun p=>ed K (.pan p)):=by kernel_rfl
    have h2:Ai n K m=fun l1 i m0=>(Kb n m l1 i m0).bind (ed K):=by
      repeat (refine funext fun _=>?_)
      exact Ev n K m _ _ _
    rw [h1,h2];exact (SJ n m _ _ _ (ed K)).symm
theorem DH (n:Nat):Vc tys (da Out (uk n)) (Bi n) n (ta [1,1,0,1,0,0] (aa Tryz.f176)) 0:=Ca (sp:=Yl) (rp:=Xl) (by kernel_rfl) fun K σ ρ=>Ev n K n σ.1 σ.2.1 ρ.1
theorem TJ (n:Nat):qa tys (da Out (uk n)) (Bi n) n (aa Tryz.f176) 0:=⟨trivial,⟨trivial,⟨⟨trivial,⟨DH n,⟨⟨trivial,⟨trivial,trivial⟩⟩,⟨trivial,trivial⟩⟩⟩⟩,⟨trivial,trivial⟩⟩⟩⟩
theorem kM (n:Nat):Enters Tryz.prog 176:=enters_of (c:=aa Tryz.f176) Tryz.func176 (by kernel_rfl) (by kernel_rfl)
def UA (n:Nat):Entry:=⟨176,pcT K22 (.one (.sl K6)) (fun xs=>nj n xs.1),none,none⟩
theorem dP (n:Nat):EntryOk Tryz.prog gl (UA n):=wa (kM n) fun xs y h=>ja tys_ok (ox n) mixed (hint:=Bi n) (n:=n) Tryz.func176 (Ea (TJ n)) (ma (φ:=(fun y=>some (Out.ret (Uc (.one (.sl K6)) y)))) (by kernel_rfl) (rR n xs.1 _) h)
def Bh (n:Nat):List Entry:=UA n::uk n
theorem Ms (n:Nat):AllOk Tryz.prog gl (Bh n):=.cons (dP n) (ox n)
def xf (n:Nat) {R:Type} (l1:(Sq Int)) (i:Int) (m0:(Sq Int)) (kn:(Sq Int)→Int→(Sq Int)→Option R) (ko:((Sq Int))→Option R) (kr:Unit→Option R) (kp:Int→Option R):Option R:=if (decide (i<(l1.n:Int)))=true then if 0≤i∧i<(l1.n:Int) then if Rb (m0.n+1) 8=true then kn l1 (IntKind.wrap .i64 (i+(1:Int))) (⟨(m0.n+1),fun q=>if q<m0.n then m0.at' q else (fun q=>List.getD (α:=Int) [(l1.at' (Int.toNat i))] q (Ba (.int .i64))) (q - m0.n)⟩:Sq Int) else none else none else ko m0
def Jb (n:Nat):Nat→(Sq Int)→Int→(Sq Int)→Option (Lx ((Sq Int)) Unit)
 | 0,_,_,_=>none
 | m+1,l1,i,m0=>xf n l1 i m0 (Jb n m) (fun a=>some (.out a)) (fun a=>some (.ret a)) (fun p=>some (.pan p))
theorem QJ (n m:Nat) {S:Type}:∀ l1 i m0 (φ:_→Option S),(Jb n (m+1) l1 i m0).bind φ=xf n l1 i m0 (fun l1 i m0=>(Jb n m l1 i m0).bind φ) (fun a=>φ (.out a)) (fun a=>φ (.ret a)) (fun p=>φ (.pan p)):=by
  intros;first | (simp only [Jb,xf,fa,ba,iB,bB,oL,oX,nB,Option.bind_some]) | rfl
def Wl:List Sl:=.dat (.sl (.int .i64))::.top::.top::.row 0::.dat (.int .i64)::tp 14 []
def Vl:List RS:=[.row 3 1 (.int .i64) true false]
def OA:List Sl:=.top::.top::.top::.row 0::tp 15 []
def NA:List RS:=[.row 3 1 (.int .i64) true false]
def cd (K:XE→List AV→ia→Option Out):Lx ((Sq Int)) Unit→Option Out:=fun x=>onL x (fun a=>Ye OA NA () (a,()) (K (.exit 0))) (fun _=>none) (fun _=>none)
def um (n:Nat) {R:Type} (l:(Sq Int)) (k:(Sq Int)→Option R):Option R:=(Jb n n l (0:Int) (⟨0,fun _=>Ba (.int .i64)⟩:Sq Int)).bind fun x_1=>onL x_1 (fun a_2=>k a_2) (fun _=>none) (fun _=>none)
def mj (n:Nat) (l:(Sq Int)):Option (Sq Int):=um n l some
theorem oR (n:Nat) {S:Type}:∀ l (φ:_→Option S),(mj n l).bind φ=um n l φ:=by
  intros;unfold mj um;first | (simp only [fa,ba,iB,bB,oL,oX,nB,Option.bind_some]) | rfl
def zi (n:Nat):Hint Out:={ live:=fun c=>(cond (Nat.beq c 0) [(0,some (.sl (.int .i64))),(3,some (.sl (.int .i64))),(4,none)] []),run:=fun c=>(cond (Nat.beq c 0) (some (Zl Wl Vl fun σ ρ K=>(Jb n n σ.1 σ.2.1 ρ.1).bind (cd K))) none),xm:=fun c q=>(cond (Nat.beq c 0&&Nat.beq (q.getD 1000000) 0&&q.isSome) (some [(3,some (.sl (.int .i64)))]) none) }
def yi (n:Nat) (K:XE→List AV→ia→Option Out) (m:Nat) (l1:(Sq Int)) (i:Int) (m0:(Sq Int)):Option Out:=rd tys (da Out (Bh n)) (zi n) n (ta [1,1,0,1,0,0] (aa Tryz.f177)) 0 Wl Vl K m (l1,(i,())) (m0,())
theorem Cv (n:Nat) (K:XE→List AV→ia→Option Out):∀ (m:Nat) l1 i m0,yi n K m l1 i m0=(Jb n m l1 i m0).bind (cd K)
  | 0,_,_,_=>by kernel_rfl
  | m+1,l1,i,m0=>by
    have h1:yi n K (m+1) l1 i m0=xf n l1 i m0 (yi n K m) (fun a=>cd K (.out a)) (fun a=>cd K (.ret a)) (fun p=>cd K (.pan p)):=by kernel_rfl
    have h2:yi n K m=fun l1 i m0=>(Jb n m l1 i m0).bind (cd K):=by
      repeat (refine funext fun _=>?_)
      exact Cv n K m _ _ _
    rw [h1,h2];exact (QJ n m _ _ _ (cd K)).symm
theorem CH (n:Nat):Vc tys (da Out (Bh n)) (zi n) n (ta [1,1,0,1,0,0] (aa Tryz.f177)) 0:=Ca (sp:=Wl) (rp:=Vl) (by kernel_rfl) fun K σ ρ=>Cv n K n σ.1 σ.2.1 ρ.1
theorem RJ (n:Nat):qa tys (da Out (Bh n)) (zi n) n (aa Tryz.f177) 0:=⟨trivial,⟨trivial,⟨⟨trivial,⟨CH n,⟨⟨trivial,⟨trivial,trivial⟩⟩,⟨trivial,trivial⟩⟩⟩⟩,⟨trivial,trivial⟩⟩⟩⟩
theorem iM (n:Nat):Enters Tryz.prog 177:=enters_of (c:=aa Tryz.f177) Tryz.func177 (by kernel_rfl) (by kernel_rfl)
def PA (n:Nat):Entry:=⟨177,pcT (.pair (.sl (.int .i64)) .unit) (.one (.sl (.int .i64))) (fun xs=>mj n xs.1),none,none⟩
theorem YO (n:Nat):EntryOk Tryz.prog gl (PA n):=wa (iM n) fun xs y h=>ja tys_ok (Ms n) mixed (hint:=zi n) (n:=n) Tryz.func177 (Ea (RJ n)) (ma (φ:=(fun y=>some (Out.ret (Uc (.one (.sl (.int .i64))) y)))) (by kernel_rfl) (oR n xs.1 _) h)
def Ip (n:Nat):List Entry:=PA n::Bh n
theorem Ls (n:Nat):AllOk Tryz.prog gl (Ip n):=.cons (YO n) (Ms n)
def Zn (n:Nat) {R:Type} (a:T3) (k:T3→Option R):Option R:=(nj n a.1).bind fun v=>(mj n a.2.2.2.2.1).bind fun v1=>k (v,(a.2.1,(a.2.2.1,(a.2.2.2.1,(v1,(a.2.2.2.2.2.1,(a.2.2.2.2.2.2.1,(a.2.2.2.2.2.2.2.1,()))))))))
def ef (n:Nat) (a:T3):Option T3:=Zn n a some
theorem QT (n:Nat) {S:Type}:∀ a (φ:_→Option S),(ef n a).bind φ=Zn n a φ:=by
  intros;unfold ef Zn;first | (simp only [fa,ba,iB,bB,oL,oX,nB,Option.bind_some]) | rfl
def kx (n:Nat):Hint Out:={ live:=fun c=>[],run:=fun c=>none,xm:=fun c q=>none }
theorem fM (n:Nat):qa tys (da Out (Ip n)) (kx n) n (aa Tryz.f132) 0:=oa (fun _=>rfl) _ _ (by kernel_rfl)
theorem VO (n:Nat):Enters Tryz.prog 132:=enters_of (c:=aa Tryz.f132) Tryz.func132 (by kernel_rfl) (by kernel_rfl)
def XC (n:Nat):Entry:=⟨132,pcT K8 (.one K7) (fun xs=>ef n xs.1),none,none⟩
theorem lR (n:Nat):EntryOk Tryz.prog gl (XC n):=wa (VO n) fun xs y h=>ja tys_ok (Ls n) mixed (hint:=kx n) (n:=n) Tryz.func132 (Ea (fM n)) (ma (φ:=(fun y=>some (Out.ret (Uc (.one K7) y)))) (by kernel_rfl) (QT n xs.1 _) h)
def aj (n:Nat):List Entry:=XC n::Ip n
theorem Av (n:Nat):AllOk Tryz.prog gl (aj n):=.cons (lR n) (Ls n)
def Je (n:Nat) {R:Type} (i m01 m02:Int) (m03:Bool) (m04 m05:BA) (m06:(Sq T0)) (m07:BA) (m08:Int) (m09 m010:Bool) (kn:Int→Int→Int→Bool→BA→BA→(Sq T0)→BA→Int→Bool→Bool→Option R) (ko:(Unit)→Option R) (kr:(Bool)→Option R) (kp:Int→Option R):Option R:=if (decide (i<(m06.n:Int)))=true then if 0≤i∧i<(m06.n:Int) then if (((((m06.at' (Int.toNat i))).2).1)==(0:Int))=false then if 0≤i∧i<(m06.n:Int) then if (((((m06.at' (Int.toNat i))).2).1)==(1:Int))=true then kr false else kn (IntKind.wrap .i64 (i+(1:Int))) m01 m02 m03 m04 m05 m06 m07 m08 m09 m010 else none else kr false else none else ko ()
def wb (n:Nat):Nat→Int→Int→Int→Bool→BA→BA→(Sq T0)→BA→Int→Bool→Bool→Option (Lx (Unit) (Bool))
 | 0,_,_,_,_,_,_,_,_,_,_,_=>none
 | m+1,i,m01,m02,m03,m04,m05,m06,m07,m08,m09,m010=>Je n i m01 m02 m03 m04 m05 m06 m07 m08 m09 m010 (wb n m) (fun a=>some (.out a)) (fun a=>some (.ret a)) (fun p=>some (.pan p))
theorem pH (n m:Nat) {S:Type}:∀ i m01 m02 m03 m04 m05 m06 m07 m08 m09 m010 (φ:_→Option S),(wb n (m+1) i m01 m02 m03 m04 m05 m06 m07 m08 m09 m010).bind φ=Je n i m01 m02 m03 m04 m05 m06 m07 m08 m09 m010 (fun i m01 m02 m03 m04 m05 m06 m07 m08 m09 m010=>(wb n m i m01 m02 m03 m04 m05 m06 m07 m08 m09 m010).bind φ) (fun a=>φ (.out a)) (fun a=>φ (.ret a)) (fun p=>φ (.pan p)):=by
  intros;first | (simp only [wb,Je,fa,ba,iB,bB,oL,oX,nB,Option.bind_some]) | rfl
def dk:List Sl:=.top::.ptr 0 0 0::.top::.dat (.int .i64)::tp 23 []
def ck:List RS:=[.box 59 10 true [.dat (.int .i64),.dat (.int .i64),.dat .bool,.dat .str,.dat .str,.dat (.sl K0),.dat .str,.dat (.int .i64),.dat .bool,.dat .bool]]
def dz:List Sl:=tp 27 []
def cz:List RS:=[]
def gz:List Sl:=.top::.top::.dat .bool::tp 24 []
def ez:List RS:=[]
def Kc (K:XE→List AV→ia→Option Out):Lx (Unit) (Bool)→Option Out:=fun x=>onL x (fun a=>Ye dz cz () () (K (.exit 0))) (fun a=>Ye gz ez (a,()) () (K .ret)) (fun _=>none)
def Zk (n:Nat) {R:Type} (m0:T1) (k:Bool→Option R):Option R:=(wb n n (0:Int) m0.1 m0.2.1 m0.2.2.1 m0.2.2.2.1.1 m0.2.2.2.1.2.1 m0.2.2.2.2.1 m0.2.2.2.2.2.1 m0.2.2.2.2.2.2.1 m0.2.2.2.2.2.2.2.1 m0.2.2.2.2.2.2.2.2.1).bind fun x_1=>onL x_1 (fun a_2=>k true) (fun a_3=>k a_3) (fun _=>none)
def uh (n:Nat) (m0:T1):Option Bool:=Zk n m0 some
theorem PO (n:Nat) {S:Type}:∀ m0 (φ:_→Option S),(uh n m0).bind φ=Zk n m0 φ:=by
  intros;unfold uh Zk;first | (simp only [fa,ba,iB,bB,oL,oX,nB,Option.bind_some]) | rfl
def Xg (n:Nat):Hint Out:={ live:=fun c=>(cond (Nat.beq c 0) [(1,none),(3,none)] []),run:=fun c=>(cond (Nat.beq c 0) (some (Zl dk ck fun σ ρ K=>(wb n n σ.1 ρ.1.1 ρ.1.2.1 ρ.1.2.2.1 ρ.1.2.2.2.1 ρ.1.2.2.2.2.1 ρ.1.2.2.2.2.2.1 ρ.1.2.2.2.2.2.2.1 ρ.1.2.2.2.2.2.2.2.1 ρ.1.2.2.2.2.2.2.2.2.1 ρ.1.2.2.2.2.2.2.2.2.2.1).bind (Kc K))) none),xm:=fun c q=>(cond (Nat.beq c 0&&Nat.beq (q.getD 1000000) 0&&q.isSome) (some []) (cond (Nat.beq c 1&&q.isNone) (some [(2,none)]) none)) }
def Wg (n:Nat) (K:XE→List AV→ia→Option Out) (m:Nat) (i:Int) (m01:Int) (m02:Int) (m03:Bool) (m04:BA) (m05:BA) (m06:(Sq T0)) (m07:BA) (m08:Int) (m09:Bool) (m010:Bool):Option Out:=rd tys (da Out (aj n)) (Xg n) n (ta [1,0,1,0,0] (aa Tryz.f178)) 0 dk ck K m (i,()) ((m01,(m02,(m03,(m04,(m05,(m06,(m07,(m08,(m09,(m010,())))))))))),())
theorem Es (n:Nat) (K:XE→List AV→ia→Option Out):∀ (m:Nat) i m01 m02 m03 m04 m05 m06 m07 m08 m09 m010,Wg n K m i m01 m02 m03 m04 m05 m06 m07 m08 m09 m010=(wb n m i m01 m02 m03 m04 m05 m06 m07 m08 m09 m010).bind (Kc K)
  | 0,_,_,_,_,_,_,_,_,_,_,_=>by kernel_rfl
  | m+1,i,m01,m02,m03,m04,m05,m06,m07,m08,m09,m010=>by
    have h1:Wg n K (m+1) i m01 m02 m03 m04 m05 m06 m07 m08 m09 m010=Je n i m01 m02 m03 m04 m05 m06 m07 m08 m09 m010 (Wg n K m) (fun a=>Kc K (.out a)) (fun a=>Kc K (.ret a)) (fun p=>Kc K (.pan p)):=by kernel_rfl
    have h2:Wg n K m=fun i m01 m02 m03 m04 m05 m06 m07 m08 m09 m010=>(wb n m i m01 m02 m03 m04 m05 m06 m07 m08 m09 m010).bind (Kc K):=by
      repeat (refine funext fun _=>?_)
      exact Es n K m _ _ _ _ _ _ _ _ _ _ _
    rw [h1,h2];exact (pH n m _ _ _ _ _ _ _ _ _ _ _ (Kc K)).symm
theorem KE (n:Nat):Vc tys (da Out (aj n)) (Xg n) n (ta [1,0,1,0,0] (aa Tryz.f178)) 0:=Ca (sp:=dk) (rp:=ck) (by kernel_rfl) fun K σ ρ=>Es n K n σ.1 ρ.1.1 ρ.1.2.1 ρ.1.2.2.1 ρ.1.2.2.2.1 ρ.1.2.2.2.2.1 ρ.1.2.2.2.2.2.1 ρ.1.2.2.2.2.2.2.1 ρ.1.2.2.2.2.2.2.2.1 ρ.1.2.2.2.2.2.2.2.2.1 ρ.1.2.2.2.2.2.2.2.2.2.1
theorem qH (n:Nat):qa tys (da Out (aj n)) (Xg n) n (aa Tryz.f178) 0:=⟨trivial,⟨⟨trivial,⟨KE n,⟨⟨trivial,⟨trivial,trivial⟩⟩,⟨⟨trivial,⟨⟨trivial,trivial⟩,trivial⟩⟩,trivial⟩⟩⟩⟩,⟨trivial,trivial⟩⟩⟩
theorem GJ (n:Nat):Enters Tryz.prog 178:=enters_of (c:=aa Tryz.f178) Tryz.func178 (by kernel_rfl) (by kernel_rfl)
def cx (n:Nat):Entry:=⟨178,pcT K2 (.one .bool) (fun xs=>uh n xs.1),none,none⟩
theorem XL (n:Nat):EntryOk Tryz.prog gl (cx n):=wa (GJ n) fun xs y h=>ja tys_ok (Av n) mixed (hint:=Xg n) (n:=n) Tryz.func178 (Ea (qH n)) (ma (φ:=(fun y=>some (Out.ret (Uc (.one .bool) y)))) (by kernel_rfl) (PO n xs.1 _) h)
def Vn (n:Nat):List Entry:=cx n::aj n
theorem Yq (n:Nat):AllOk Tryz.prog gl (Vn n):=.cons (XL n) (Av n)
def Xk (n:Nat) {R:Type} (m0:T1) (k:Int→Option R):Option R:=k (IntKind.wrap .i64 ((m0.2.2.2.2.2.1.size:Int)+(1000:Int)))
def Wj (n:Nat) (m0:T1):Option Int:=Xk n m0 some
theorem NO (n:Nat) {S:Type}:∀ m0 (φ:_→Option S),(Wj n m0).bind φ=Xk n m0 φ:=by
  intros;unfold Wj Xk;first | (simp only [fa,ba,iB,bB,oL,oX,nB,Option.bind_some]) | rfl
def Bs (n:Nat):Hint Out:={ live:=fun c=>[],run:=fun c=>none,xm:=fun c q=>none }
theorem lH (n:Nat):qa tys (da Out (Vn n)) (Bs n) n (aa Tryz.f50) 0:=oa (fun _=>rfl) _ _ (by kernel_rfl)
theorem EJ (n:Nat):Enters Tryz.prog 50:=enters_of (c:=aa Tryz.f50) Tryz.func50 (by kernel_rfl) (by kernel_rfl)
def Yw (n:Nat):Entry:=⟨50,pcT K2 (.one (.int .i64)) (fun xs=>Wj n xs.1),none,none⟩
theorem VL (n:Nat):EntryOk Tryz.prog gl (Yw n):=wa (EJ n) fun xs y h=>ja tys_ok (Yq n) mixed (hint:=Bs n) (n:=n) Tryz.func50 (Ea (lH n)) (ma (φ:=(fun y=>some (Out.ret (Uc (.one (.int .i64)) y)))) (by kernel_rfl) (NO n xs.1 _) h)
def wg (n:Nat):List Entry:=Yw n::Vn n
theorem Wq (n:Nat):AllOk Tryz.prog gl (wg n):=.cons (VL n) (Yq n)
def Ne (n:Nat) {R:Type} (tenant1 n0 b i s1:Int) (s2:(Sq T1)) (kn:Int→Int→Int→Int→Int→(Sq T1)→Option R) (ko:(Int×Int)→Option R) (kr:Unit→Option R) (kp:Int→Option R):Option R:=if (decide (i<(s2.n:Int)))=true then if 0≤i∧i<(s2.n:Int) then if (((((s2.at' (Int.toNat i))).2).1)==tenant1)=true then if 0≤i∧i<(s2.n:Int) then (uh n (((s2.at' (Int.toNat i))).1,((((s2.at' (Int.toNat i))).2).1,(((((s2.at' (Int.toNat i))).2).2).1,((((((((s2.at' (Int.toNat i))).2).2).2).1).1,((((((((s2.at' (Int.toNat i))).2).2).2).1).2).1,())),((((((((s2.at' (Int.toNat i))).2).2).2).2).1),((((((((s2.at' (Int.toNat i))).2).2).2).2).2).1,(((((((((s2.at' (Int.toNat i))).2).2).2).2).2).2).1,((((((((((s2.at' (Int.toNat i))).2).2).2).2).2).2).2).1,(((((((((((s2.at' (Int.toNat i))).2).2).2).2).2).2).2).2).1,())))))))))).bind fun v=>if (!v)=true then if 0≤i∧i<(s2.n:Int) then (Wj n (((s2.at' (Int.toNat i))).1,((((s2.at' (Int.toNat i))).2).1,(((((s2.at' (Int.toNat i))).2).2).1,((((((((s2.at' (Int.toNat i))).2).2).2).1).1,((((((((s2.at' (Int.toNat i))).2).2).2).1).2).1,())),((((((((s2.at' (Int.toNat i))).2).2).2).2).1),((((((((s2.at' (Int.toNat i))).2).2).2).2).2).1,(((((((((s2.at' (Int.toNat i))).2).2).2).2).2).2).1,((((((((((s2.at' (Int.toNat i))).2).2).2).2).2).2).2).1,(((((((((((s2.at' (Int.toNat i))).2).2).2).2).2).2).2).2).1,())))))))))).bind fun v1=>kn tenant1 (IntKind.wrap .i64 (n0+(1:Int))) (IntKind.wrap .i64 (b+v1)) (IntKind.wrap .i64 (i+(1:Int))) s1 s2
 else none else kn tenant1 n0 b (IntKind.wrap .i64 (i+(1:Int))) s1 s2 else none else kn tenant1 n0 b (IntKind.wrap .i64 (i+(1:Int))) s1 s2 else none else ko (n0,b)
def Bb (n:Nat):Nat→Int→Int→Int→Int→Int→(Sq T1)→Option (Lx (Int×Int) Unit)
 | 0,_,_,_,_,_,_=>none
 | m+1,tenant1,n0,b,i,s1,s2=>Ne n tenant1 n0 b i s1 s2 (Bb n m) (fun a=>some (.out a)) (fun a=>some (.ret a)) (fun p=>some (.pan p))
theorem yH (n m:Nat) {S:Type}:∀ tenant1 n0 b i s1 s2 (φ:_→Option S),(Bb n (m+1) tenant1 n0 b i s1 s2).bind φ=Ne n tenant1 n0 b i s1 s2 (fun tenant1 n0 b i s1 s2=>(Bb n m tenant1 n0 b i s1 s2).bind φ) (fun a=>φ (.out a)) (fun a=>φ (.ret a)) (fun p=>φ (.pan p)):=by
  intros;first | (simp only [Bb,Ne,fa,ba,iB,bB,oL,oX,nB,Option.bind_some]) | rfl
def sk:List Sl:=.top::.dat (.int .i64)::.ptr 0 0 0::.top::.top::.top::.dat (.int .i64)::.dat (.int .i64)::.dat (.int .i64)::tp 36 []
def rk:List RS:=[.box 24 2 true [.dat (.int .i64),.dat (.sl K1)]]
def vz:List Sl:=tp 6 (.dat (.int .i64)::.dat (.int .i64)::tp 37 [])
def uz:List RS:=[]
def Oc (K:XE→List AV→ia→Option Out):Lx (Int×Int) Unit→Option Out:=fun x=>onL x (fun a=>Ye vz uz (a.1,(a.2,())) () (K (.exit 0))) (fun _=>none) (fun _=>none)
def el (n:Nat) {R:Type} (s:U1) (tenant:Int) (k:(Int×Int×Unit)→Option R):Option R:=(Bb n n tenant (0:Int) (0:Int) (0:Int) s.1 s.2.1).bind fun x_1=>onL x_1 (fun a_2=>k (a_2.1,(a_2.2,()))) (fun _=>none) (fun _=>none)
def Lf (n:Nat) (s:U1) (tenant:Int):Option (Int×Int×Unit):=el n s tenant some
theorem UO (n:Nat) {S:Type}:∀ s tenant (φ:_→Option S),(Lf n s tenant).bind φ=el n s tenant φ:=by
  intros;unfold Lf el;first | (simp only [fa,ba,iB,bB,oL,oX,nB,Option.bind_some]) | rfl
def fh (n:Nat):Hint Out:={ live:=fun c=>(cond (Nat.beq c 0) (lv [1,2,6,7,8]) []),run:=fun c=>(cond (Nat.beq c 0) (some (Zl sk rk fun σ ρ K=>(Bb n n σ.1 σ.2.1 σ.2.2.1 σ.2.2.2.1 ρ.1.1 ρ.1.2.1).bind (Oc K))) none),xm:=fun c q=>(cond (Nat.beq c 0&&Nat.beq (q.getD 1000000) 0&&q.isSome) (some [(6,none),(7,none)]) none) }
def eh (n:Nat) (K:XE→List AV→ia→Option Out) (m:Nat) (tenant1:Int) (n0:Int) (b:Int) (i:Int) (s1:Int) (s2:(Sq T1)):Option Out:=rd tys (da Out (wg n)) (fh n) n (ta [1,1,0,1,0,0] (aa Tryz.f133)) 0 sk rk K m (tenant1,(n0,(b,(i,())))) ((s1,(s2,())),())
theorem Js (n:Nat) (K:XE→List AV→ia→Option Out):∀ (m:Nat) tenant1 n0 b i s1 s2,eh n K m tenant1 n0 b i s1 s2=(Bb n m tenant1 n0 b i s1 s2).bind (Oc K)
  | 0,_,_,_,_,_,_=>by kernel_rfl
  | m+1,tenant1,n0,b,i,s1,s2=>by
    have h1:eh n K (m+1) tenant1 n0 b i s1 s2=Ne n tenant1 n0 b i s1 s2 (eh n K m) (fun a=>Oc K (.out a)) (fun a=>Oc K (.ret a)) (fun p=>Oc K (.pan p)):=by kernel_rfl
    have h2:eh n K m=fun tenant1 n0 b i s1 s2=>(Bb n m tenant1 n0 b i s1 s2).bind (Oc K):=by
      repeat (refine funext fun _=>?_)
      exact Js n K m _ _ _ _ _ _
    rw [h1,h2];exact (yH n m _ _ _ _ _ _ (Oc K)).symm
theorem PE (n:Nat):Vc tys (da Out (wg n)) (fh n) n (ta [1,1,0,1,0,0] (aa Tryz.f133)) 0:=Ca (sp:=sk) (rp:=rk) (by kernel_rfl) fun K σ ρ=>Js n K n σ.1 σ.2.1 σ.2.2.1 σ.2.2.2.1 ρ.1.1 ρ.1.2.1
theorem zH (n:Nat):qa tys (da Out (wg n)) (fh n) n (aa Tryz.f133) 0:=⟨trivial,⟨trivial,⟨⟨trivial,⟨PE n,⟨⟨trivial,⟨trivial,trivial⟩⟩,⟨⟨trivial,⟨⟨trivial,trivial⟩,trivial⟩⟩,trivial⟩⟩⟩⟩,⟨trivial,trivial⟩⟩⟩⟩
theorem MJ (n:Nat):Enters Tryz.prog 133:=enters_of (c:=aa Tryz.f133) Tryz.func133 (by kernel_rfl) (by kernel_rfl)
def jx (n:Nat):Entry:=⟨133,pcT K18 (.many (.pair (.int .i64) (.pair (.int .i64) .unit))) (fun xs=>Lf n xs.1 xs.2.1),none,none⟩
theorem cM (n:Nat):EntryOk Tryz.prog gl (jx n):=wa (MJ n) fun xs y h=>ja tys_ok (Wq n) mixed (hint:=fh n) (n:=n) Tryz.func133 (Ea (zH n)) (ma (φ:=(fun y=>some (Out.ret (Uc (.many (.pair (.int .i64) (.pair (.int .i64) .unit))) y)))) (by kernel_rfl) (UO n xs.1 xs.2.1 _) h)
def zg (n:Nat):List Entry:=jx n::wg n
theorem dr (n:Nat):AllOk Tryz.prog gl (zg n):=.cons (cM n) (Wq n)
def Me (n:Nat) {R:Type} (n01 k0 b all i s1:Int) (s2:(Sq T1)) (t:BA) (t1 t2 t3 t4 t5 t6 t7 t8:Int) (t9:Bool) (kn:Int→Int→Int→Int→Int→Int→(Sq T1)→BA→Int→Int→Int→Int→Int→Int→Int→Int→Bool→Option R) (ko:U4→Option R) (kr:Unit→Option R) (kp:Int→Option R):Option R:=if (decide (i<(s2.n:Int)))=true then if 0≤i∧i<(s2.n:Int) then if (!(((((s2.at' (Int.toNat i))).2).2).1))=true then kn n01 k0 b (IntKind.wrap .i64 (all+(1:Int))) (IntKind.wrap .i64 (i+(1:Int))) s1 s2 t t1 t2 t3 t4 t5 t6 t7 t8 t9 else kn n01 k0 b all (IntKind.wrap .i64 (i+(1:Int))) s1 s2 t t1 t2 t3 t4 t5 t6 t7 t8 t9 else none else ko (n01,k0,b,all,t,t1,t2,t3,t4,t5,t6,t7,t8,t9)
def Ab (n:Nat):Nat→Int→Int→Int→Int→Int→Int→(Sq T1)→BA→Int→Int→Int→Int→Int→Int→Int→Int→Bool→Option (Lx U4 Unit)
 | 0,_,_,_,_,_,_,_,_,_,_,_,_,_,_,_,_,_=>none
 | m+1,n01,k0,b,all,i,s1,s2,t,t1,t2,t3,t4,t5,t6,t7,t8,t9=>Me n n01 k0 b all i s1 s2 t t1 t2 t3 t4 t5 t6 t7 t8 t9 (Ab n m) (fun a=>some (.out a)) (fun a=>some (.ret a)) (fun p=>some (.pan p))
theorem wH (n m:Nat) {S:Type}:∀ n01 k0 b all i s1 s2 t t1 t2 t3 t4 t5 t6 t7 t8 t9 (φ:_→Option S),(Ab n (m+1) n01 k0 b all i s1 s2 t t1 t2 t3 t4 t5 t6 t7 t8 t9).bind φ=Me n n01 k0 b all i s1 s2 t t1 t2 t3 t4 t5 t6 t7 t8 t9 (fun n01 k0 b all i s1 s2 t t1 t2 t3 t4 t5 t6 t7 t8 t9=>(Ab n m n01 k0 b all i s1 s2 t t1 t2 t3 t4 t5 t6 t7 t8 t9).bind φ) (fun a=>φ (.out a)) (fun a=>φ (.ret a)) (fun p=>φ (.pan p)):=by
  intros;first | (simp only [Ab,Me,fa,ba,iB,bB,oL,oX,nB,Option.bind_some]) | rfl
def qk:List Sl:=.top::.top::.top::.dat (.int .i64)::.ptr 0 0 0::tp 4 (.dat (.int .i64)::.dat (.int .i64)::.ptr 1 0 0::.dat (.int .i64)::.dat (.int .i64)::tp 47 [])
def nk:List RS:=[.box 24 2 true [.dat (.int .i64),.dat (.sl K1)],.box 89 10 true [.dat .str,.dat (.int .i64),.dat (.int .i64),.dat (.int .i64),.dat (.int .i64),.dat (.int .i64),.dat (.int .i64),.dat (.int .i64),.dat (.int .i64),.dat .bool]]
def tz:List Sl:=.top::.top::.top::.dat (.int .i64)::tp 5 (.dat (.int .i64)::.dat (.int .i64)::.ptr 0 0 0::.dat (.int .i64)::tp 48 [])
def rz:List RS:=[.box 89 10 true [.dat .str,.dat (.int .i64),.dat (.int .i64),.dat (.int .i64),.dat (.int .i64),.dat (.int .i64),.dat (.int .i64),.dat (.int .i64),.dat (.int .i64),.dat .bool]]
def Nc (K:XE→List AV→ia→Option Out):Lx U4 Unit→Option Out:=fun x=>onL x (fun a=>Ye tz rz (a.1,(a.2.1,(a.2.2.1,(a.2.2.2.1,())))) ((a.2.2.2.2.1,(a.2.2.2.2.2.1,(a.2.2.2.2.2.2.1,(a.2.2.2.2.2.2.2.1,(a.2.2.2.2.2.2.2.2.1,(a.2.2.2.2.2.2.2.2.2.1,(a.2.2.2.2.2.2.2.2.2.2.1,(a.2.2.2.2.2.2.2.2.2.2.2.1,(a.2.2.2.2.2.2.2.2.2.2.2.2.1,(a.2.2.2.2.2.2.2.2.2.2.2.2.2,())))))))))),()) (K (.exit 0))) (fun _=>none) (fun _=>none)
def dl (n:Nat) {R:Type} (s:U1) (c:T3) (tenant n0:Int) (k:Int→Option R):Option R:=if (decide (n0>(8192:Int)))=true then k (2:Int) else (Lf n (s.1,(s.2.1,())) tenant).bind fun v=>if 0≤tenant∧tenant<(c.1.n:Int) then (Ab n n n0 v.1 v.2.1 (0:Int) (0:Int) s.1 s.2.1 (((c.1.at' (Int.toNat tenant))).1) ((((c.1.at' (Int.toNat tenant))).2).1) (((((c.1.at' (Int.toNat tenant))).2).2).1) ((((((c.1.at' (Int.toNat tenant))).2).2).2).1) ((((((((c.1.at' (Int.toNat tenant))).2).2).2).2).1).1) (((((((((c.1.at' (Int.toNat tenant))).2).2).2).2).1).2).1) ((((((((((c.1.at' (Int.toNat tenant))).2).2).2).2).1).2).2).1) (((((((((((c.1.at' (Int.toNat tenant))).2).2).2).2).1).2).2).2).1) ((((((((((((c.1.at' (Int.toNat tenant))).2).2).2).2).1).2).2).2).2).1) ((((((((c.1.at' (Int.toNat tenant))).2).2).2).2).2).1)).bind fun x_1=>onL x_1 (fun a_2=>if (decide ((IntKind.wrap .i64 (a_2.2.1+(1:Int)))>a_2.2.2.2.2.2.2.1))=false then if (decide ((IntKind.wrap .i64 ((IntKind.wrap .i64 (a_2.2.2.1+a_2.1))+(1000:Int)))>a_2.2.2.2.2.2.1))=false then if (decide (a_2.2.2.2.1≥(64:Int)))=true then k (5:Int) else k (0:Int) else k (5:Int) else k (5:Int)) (fun _=>none) (fun _=>none) else none
def yh (n:Nat) (s:U1) (c:T3) (tenant n0:Int):Option Int:=dl n s c tenant n0 some
theorem TO (n:Nat) {S:Type}:∀ s c tenant n0 (φ:_→Option S),(yh n s c tenant n0).bind φ=dl n s c tenant n0 φ:=by
  intros;unfold yh dl;first | (simp only [fa,ba,iB,bB,oL,oX,nB,Option.bind_some]) | rfl
def dh (n:Nat):Hint Out:={ live:=fun c=>(cond (Nat.beq c 0) (lv [3,4,9,10,11,12,13]) []),run:=fun c=>(cond (Nat.beq c 0) (some (Zl qk nk fun σ ρ K=>(Ab n n σ.1 σ.2.1 σ.2.2.1 σ.2.2.2.1 σ.2.2.2.2.1 ρ.1.1 ρ.1.2.1 ρ.2.1.1 ρ.2.1.2.1 ρ.2.1.2.2.1 ρ.2.1.2.2.2.1 ρ.2.1.2.2.2.2.1 ρ.2.1.2.2.2.2.2.1 ρ.2.1.2.2.2.2.2.2.1 ρ.2.1.2.2.2.2.2.2.2.1 ρ.2.1.2.2.2.2.2.2.2.2.1 ρ.2.1.2.2.2.2.2.2.2.2.2.1).bind (Nc K))) none),xm:=fun c q=>(cond (Nat.beq c 0&&Nat.beq (q.getD 1000000) 0&&q.isSome) (some (lv [3,9,10,11,12])) none) }
def ch (n:Nat) (K:XE→List AV→ia→Option Out) (m:Nat) (n01:Int) (k0:Int) (b:Int) (all:Int) (i:Int) (s1:Int) (s2:(Sq T1)) (t:BA) (t1:Int) (t2:Int) (t3:Int) (t4:Int) (t5:Int) (t6:Int) (t7:Int) (t8:Int) (t9:Bool):Option Out:=rd tys (da Out (zg n)) (dh n) n (ta [1,1,1,1,1,0,1,0,0] (aa Tryz.f134)) 0 qk nk K m (n01,(k0,(b,(all,(i,()))))) ((s1,(s2,())),((t,(t1,(t2,(t3,(t4,(t5,(t6,(t7,(t8,(t9,())))))))))),()))
theorem Is (n:Nat) (K:XE→List AV→ia→Option Out):∀ (m:Nat) n01 k0 b all i s1 s2 t t1 t2 t3 t4 t5 t6 t7 t8 t9,ch n K m n01 k0 b all i s1 s2 t t1 t2 t3 t4 t5 t6 t7 t8 t9=(Ab n m n01 k0 b all i s1 s2 t t1 t2 t3 t4 t5 t6 t7 t8 t9).bind (Nc K)
  | 0,_,_,_,_,_,_,_,_,_,_,_,_,_,_,_,_,_=>by kernel_rfl
  | m+1,n01,k0,b,all,i,s1,s2,t,t1,t2,t3,t4,t5,t6,t7,t8,t9=>by
    have h1:ch n K (m+1) n01 k0 b all i s1 s2 t t1 t2 t3 t4 t5 t6 t7 t8 t9=Me n n01 k0 b all i s1 s2 t t1 t2 t3 t4 t5 t6 t7 t8 t9 (ch n K m) (fun a=>Nc K (.out a)) (fun a=>Nc K (.ret a)) (fun p=>Nc K (.pan p)):=by kernel_rfl
    have h2:ch n K m=fun n01 k0 b all i s1 s2 t t1 t2 t3 t4 t5 t6 t7 t8 t9=>(Ab n m n01 k0 b all i s1 s2 t t1 t2 t3 t4 t5 t6 t7 t8 t9).bind (Nc K):=by
      repeat (refine funext fun _=>?_)
      exact Is n K m _ _ _ _ _ _ _ _ _ _ _ _ _ _ _ _ _
    rw [h1,h2];exact (wH n m _ _ _ _ _ _ _ _ _ _ _ _ _ _ _ _ _ (Nc K)).symm
theorem OE (n:Nat):Vc tys (da Out (zg n)) (dh n) n (ta [1,1,1,1,1,0,1,0,0] (aa Tryz.f134)) 0:=Ca (sp:=qk) (rp:=nk) (by kernel_rfl) fun K σ ρ=>Is n K n σ.1 σ.2.1 σ.2.2.1 σ.2.2.2.1 σ.2.2.2.2.1 ρ.1.1 ρ.1.2.1 ρ.2.1.1 ρ.2.1.2.1 ρ.2.1.2.2.1 ρ.2.1.2.2.2.1 ρ.2.1.2.2.2.2.1 ρ.2.1.2.2.2.2.2.1 ρ.2.1.2.2.2.2.2.2.1 ρ.2.1.2.2.2.2.2.2.2.1 ρ.2.1.2.2.2.2.2.2.2.2.1 ρ.2.1.2.2.2.2.2.2.2.2.2.1
theorem xH (n:Nat):qa tys (da Out (zg n)) (dh n) n (aa Tryz.f134) 0:=⟨trivial,⟨⟨trivial,⟨⟨trivial,trivial⟩,trivial⟩⟩,⟨trivial,⟨trivial,⟨trivial,⟨⟨trivial,⟨OE n,⟨⟨trivial,⟨trivial,trivial⟩⟩,⟨⟨trivial,⟨trivial,trivial⟩⟩,trivial⟩⟩⟩⟩,⟨⟨trivial,⟨⟨trivial,trivial⟩,trivial⟩⟩,⟨trivial,trivial⟩⟩⟩⟩⟩⟩⟩⟩
theorem LJ (n:Nat):Enters Tryz.prog 134:=enters_of (c:=aa Tryz.f134) Tryz.func134 (by kernel_rfl) (by kernel_rfl)
def gx (n:Nat):Entry:=⟨134,pcT K19 (.one (.int .i64)) (fun xs=>yh n xs.1 xs.2.1 xs.2.2.1 xs.2.2.2.1),none,none⟩
theorem bM (n:Nat):EntryOk Tryz.prog gl (gx n):=wa (LJ n) fun xs y h=>ja tys_ok (dr n) mixed (hint:=dh n) (n:=n) Tryz.func134 (Ea (xH n)) (ma (φ:=(fun y=>some (Out.ret (Uc (.one (.int .i64)) y)))) (by kernel_rfl) (TO n xs.1 xs.2.1 xs.2.2.1 xs.2.2.2.1 _) h)
def Xn (n:Nat):List Entry:=gx n::zg n
theorem br (n:Nat):AllOk Tryz.prog gl (Xn n):=.cons (bM n) (dr n)
def Bn (n:Nat) {R:Type} (x:Int) (k:Bool→Option R):Option R:=k (x !=x)
def Ok (n:Nat) (x:Int):Option Bool:=Bn n x some
theorem TS (n:Nat) {S:Type}:∀ x (φ:_→Option S),(Ok n x).bind φ=Bn n x φ:=by
  intros;unfold Ok Bn;first | (simp only [fa,ba,iB,bB,oL,oX,nB,Option.bind_some]) | rfl
def Gw (n:Nat):Hint Out:={ live:=fun c=>[],run:=fun c=>none,xm:=fun c q=>none }
theorem kL (n:Nat):qa tys (da Out (Xn n)) (Gw n) n (aa Tryz.f170) 0:=oa (fun _=>rfl) _ _ (by kernel_rfl)
theorem eO (n:Nat):Enters Tryz.prog 170:=enters_of (c:=aa Tryz.f170) Tryz.func170 (by kernel_rfl) (by kernel_rfl)
def IC (n:Nat):Entry:=⟨170,pcT (.pair (.int .i64) .unit) (.one .bool) (fun xs=>Ok n xs.1),none,none⟩
theorem NQ (n:Nat):EntryOk Tryz.prog gl (IC n):=wa (eO n) fun xs y h=>ja tys_ok (br n) mixed (hint:=Gw n) (n:=n) Tryz.func170 (Ea (kL n)) (ma (φ:=(fun y=>some (Out.ret (Uc (.one .bool) y)))) (by kernel_rfl) (TS n xs.1 _) h)
def Dr (n:Nat):List Entry:=IC n::Xn n
theorem wu (n:Nat):AllOk Tryz.prog gl (Dr n):=.cons (NQ n) (br n)
def Nk (n:Nat) {R:Type} (x y:Int) (k:Int→Option R):Option R:=(Ok n x).bind fun v=>(Ok n y).bind fun v1=>if v=true then if v1=true then k (0:Int) else k (-1:Int) else if v1=true then k (1:Int) else if (decide (x<y))=true then k (-1:Int) else if (decide (x>y))=true then k (1:Int) else k (0:Int)
def oh (n:Nat) (x y:Int):Option Int:=Nk n x y some
theorem dO (n:Nat) {S:Type}:∀ x y (φ:_→Option S),(oh n x y).bind φ=Nk n x y φ:=by
  intros;unfold oh Nk;first | (simp only [fa,ba,iB,bB,oL,oX,nB,Option.bind_some]) | rfl
def Zr (n:Nat):Hint Out:={ live:=fun c=>[],run:=fun c=>none,xm:=fun c q=>none }
theorem RG (n:Nat):qa tys (da Out (Dr n)) (Zr n) n (aa Tryz.f125) 0:=oa (fun _=>rfl) _ _ (by kernel_rfl)
theorem mJ (n:Nat):Enters Tryz.prog 125:=enters_of (c:=aa Tryz.f125) Tryz.func125 (by kernel_rfl) (by kernel_rfl)
def Fw (n:Nat):Entry:=⟨125,pcT (.pair (.int .i64) (.pair (.int .i64) .unit)) (.one (.int .i64)) (fun xs=>oh n xs.1 xs.2.1),none,none⟩
theorem jL (n:Nat):EntryOk Tryz.prog gl (Fw n):=wa (mJ n) fun xs y h=>ja tys_ok (wu n) mixed (hint:=Zr n) (n:=n) Tryz.func125 (Ea (RG n)) (ma (φ:=(fun y=>some (Out.ret (Uc (.one (.int .i64)) y)))) (by kernel_rfl) (dO n xs.1 xs.2.1 _) h)
def An (n:Nat):List Entry:=Fw n::Dr n
theorem Fq (n:Nat):AllOk Tryz.prog gl (An n):=.cons (jL n) (wu n)
def xr (n:Nat) {R:Type} (m0:T1) (id:Int) (k:Int→Option R):Option R:=(oh n m0.1 id).bind fun v=>k v
def Yp (n:Nat) (m0:T1) (id:Int):Option Int:=xr n m0 id some
theorem C5 (n:Nat) {S:Type}:∀ m0 id (φ:_→Option S),(Yp n m0 id).bind φ=xr n m0 id φ:=by
  intros;unfold Yp xr;first | (simp only [fa,ba,iB,bB,oL,oX,nB,Option.bind_some]) | rfl
def zF (n:Nat):Hint Out:={ live:=fun c=>[],run:=fun c=>none,xm:=fun c q=>none }
theorem EU (n:Nat):qa tys (da Out (An n)) (zF n) n (aa Tryz.f124) 0:=oa (fun _=>rfl) _ _ (by kernel_rfl)
theorem KW (n:Nat):Enters Tryz.prog 124:=enters_of (c:=aa Tryz.f124) Tryz.func124 (by kernel_rfl) (by kernel_rfl)
def rN (n:Nat):Entry:=⟨124,pcT K23 (.one (.int .i64)) (fun xs=>Yp n xs.1 xs.2.1),none,none⟩
theorem SZ (n:Nat):EntryOk Tryz.prog gl (rN n):=wa (KW n) fun xs y h=>ja tys_ok (Fq n) mixed (hint:=zF n) (n:=n) Tryz.func124 (Ea (EU n)) (ma (φ:=(fun y=>some (Out.ret (Uc (.one (.int .i64)) y)))) (by kernel_rfl) (C5 n xs.1 xs.2.1 _) h)
def Ko (n:Nat):List Entry:=rN n::An n
theorem fD (n:Nat):AllOk Tryz.prog gl (Ko n):=.cons (SZ n) (Fq n)
def ya (n:Nat) {R:Type} (x1:(Sq T1)) (target1 n0 i j:Int) (kn:(Sq T1)→Int→Int→Int→Int→Option R) (ko:((Sq T1)×Int×Int×Int)→Option R) (kr:Unit→Option R) (kp:Int→Option R):Option R:=if (decide (i<j))=true then if 0≤(IntKind.wrap .i64 (Int.fdiv (IntKind.wrap .u64 (IntKind.wrap .i64 (i+j))) (2^(min (Int.toNat (1:Int)) (IntKind.bits .u64)))))∧(IntKind.wrap .i64 (Int.fdiv (IntKind.wrap .u64 (IntKind.wrap .i64 (i+j))) (2^(min (Int.toNat (1:Int)) (IntKind.bits .u64)))))<(x1.n:Int) then (Yp n (((x1.at' (Int.toNat (IntKind.wrap .i64 (Int.fdiv (IntKind.wrap .u64 (IntKind.wrap .i64 (i+j))) (2^(min (Int.toNat (1:Int)) (IntKind.bits .u64)))))))).1,((((x1.at' (Int.toNat (IntKind.wrap .i64 (Int.fdiv (IntKind.wrap .u64 (IntKind.wrap .i64 (i+j))) (2^(min (Int.toNat (1:Int)) (IntKind.bits .u64)))))))).2).1,(((((x1.at' (Int.toNat (IntKind.wrap .i64 (Int.fdiv (IntKind.wrap .u64 (IntKind.wrap .i64 (i+j))) (2^(min (Int.toNat (1:Int)) (IntKind.bits .u64)))))))).2).2).1,((((((((x1.at' (Int.toNat (IntKind.wrap .i64 (Int.fdiv (IntKind.wrap .u64 (IntKind.wrap .i64 (i+j))) (2^(min (Int.toNat (1:Int)) (IntKind.bits .u64)))))))).2).2).2).1).1,((((((((x1.at' (Int.toNat (IntKind.wrap .i64 (Int.fdiv (IntKind.wrap .u64 (IntKind.wrap .i64 (i+j))) (2^(min (Int.toNat (1:Int)) (IntKind.bits .u64)))))))).2).2).2).1).2).1,())),((((((((x1.at' (Int.toNat (IntKind.wrap .i64 (Int.fdiv (IntKind.wrap .u64 (IntKind.wrap .i64 (i+j))) (2^(min (Int.toNat (1:Int)) (IntKind.bits .u64)))))))).2).2).2).2).1),((((((((x1.at' (Int.toNat (IntKind.wrap .i64 (Int.fdiv (IntKind.wrap .u64 (IntKind.wrap .i64 (i+j))) (2^(min (Int.toNat (1:Int)) (IntKind.bits .u64)))))))).2).2).2).2).2).1,(((((((((x1.at' (Int.toNat (IntKind.wrap .i64 (Int.fdiv (IntKind.wrap .u64 (IntKind.wrap .i64 (i+j))) (2^(min (Int.toNat (1:Int)) (IntKind.bits .u64)))))))).2).2).2).2).2).2).1,((((((((((x1.at' (Int.toNat (IntKind.wrap .i64 (Int.fdiv (IntKind.wrap .u64 (IntKind.wrap .i64 (i+j))) (2^(min (Int.toNat (1:Int)) (IntKind.bits .u64)))))))).2).2).2).2).2).2).2).1,(((((((((((x1.at' (Int.toNat (IntKind.wrap .i64 (Int.fdiv (IntKind.wrap .u64 (IntKind.wrap .i64 (i+j))) (2^(min (Int.toNat (1:Int)) (IntKind.bits .u64)))))))).2).2).2).2).2).2).2).2).1,()))))))))) target1).bind fun v=>
 if (decide (v<(0:Int)))=true then kn x1 target1 n0 (IntKind.wrap .i64 ((IntKind.wrap .i64 (Int.fdiv (IntKind.wrap .u64 (IntKind.wrap .i64 (i+j))) (2^(min (Int.toNat (1:Int)) (IntKind.bits .u64)))))+(1:Int))) j else kn x1 target1 n0 i (IntKind.wrap .i64 (Int.fdiv (IntKind.wrap .u64 (IntKind.wrap .i64 (i+j))) (2^(min (Int.toNat (1:Int)) (IntKind.bits .u64))))) else none else ko (x1,target1,n0,i)
def pa (n:Nat):Nat→(Sq T1)→Int→Int→Int→Int→Option (Lx ((Sq T1)×Int×Int×Int) Unit)
 | 0,_,_,_,_,_=>none
 | m+1,x1,target1,n0,i,j=>ya n x1 target1 n0 i j (pa n m) (fun a=>some (.out a)) (fun a=>some (.ret a)) (fun p=>some (.pan p))
theorem ff (n m:Nat) {S:Type}:∀ x1 target1 n0 i j (φ:_→Option S),(pa n (m+1) x1 target1 n0 i j).bind φ=ya n x1 target1 n0 i j (fun x1 target1 n0 i j=>(pa n m x1 target1 n0 i j).bind φ) (fun a=>φ (.out a)) (fun a=>φ (.ret a)) (fun p=>φ (.pan p)):=by
  intros;first | (simp only [pa,ya,fa,ba,iB,bB,oL,oX,nB,Option.bind_some]) | rfl
def Ya:List Sl:=.dat (.sl K1)::.dat (.int .i64)::.fnc 124::tp 5 (.dat (.int .i64)::.dat (.int .i64)::.dat (.int .i64)::tp 38 [])
def Xa:List RS:=[.ghost [.top,.top,.top]]
def ve:List Sl:=.dat (.sl K1)::.dat (.int .i64)::.fnc 124::tp 5 (.dat (.int .i64)::.dat (.int .i64)::tp 39 [])
def ue:List RS:=[.ghost [.top,.top,.top]]
def ua (K:XE→List AV→ia→Option OutS):Lx ((Sq T1)×Int×Int×Int) Unit→Option OutS:=fun x=>onL x (fun a=>Ye ve ue (a.1,(a.2.1,(a.2.2.1,(a.2.2.2,())))) ((),()) (K (.exit 0))) (fun _=>none) (fun _=>none)
def Na (n:Nat) {R:Type} (x:(Sq T1)) (target:Int) (k:U10→Option R):Option R:=(pa n n x target (x.n:Int) (0:Int) (x.n:Int)).bind fun x_1=>onL x_1 (fun a_2=>if (decide (a_2.2.2.2<a_2.2.2.1))=true then if 0≤a_2.2.2.2∧a_2.2.2.2<(a_2.1.n:Int) then (Yp n (((a_2.1.at' (Int.toNat a_2.2.2.2))).1,((((a_2.1.at' (Int.toNat a_2.2.2.2))).2).1,(((((a_2.1.at' (Int.toNat a_2.2.2.2))).2).2).1,((((((((a_2.1.at' (Int.toNat a_2.2.2.2))).2).2).2).1).1,((((((((a_2.1.at' (Int.toNat a_2.2.2.2))).2).2).2).1).2).1,())),((((((((a_2.1.at' (Int.toNat a_2.2.2.2))).2).2).2).2).1),((((((((a_2.1.at' (Int.toNat a_2.2.2.2))).2).2).2).2).2).1,(((((((((a_2.1.at' (Int.toNat a_2.2.2.2))).2).2).2).2).2).2).1,((((((((((a_2.1.at' (Int.toNat a_2.2.2.2))).2).2).2).2).2).2).2).1,(((((((((((a_2.1.at' (Int.toNat a_2.2.2.2))).2).2).2).2).2).2).2).2).1,()))))))))) a_2.2.1).bind fun v1=>k (a_2.2.2.2,((v1==(0:Int)),())) else none else k (a_2.2.2.2,(false,()))) (fun _=>none) (fun _=>none)
def za (n:Nat) (x:(Sq T1)) (target:Int):Option U10:=Na n x target some
theorem gg (n:Nat) {S:Type}:∀ x target (φ:_→Option S),(za n x target).bind φ=Na n x target φ:=by
  intros;unfold za Na;first | (simp only [fa,ba,iB,bB,oL,oX,nB,Option.bind_some]) | rfl
def Ka (n:Nat):Hint OutS:={ live:=fun c=>(cond (Nat.beq c 0) [(0,some (.sl K1)),(1,none),(2,none),(8,none),(9,none),(10,none)] []),run:=fun c=>(cond (Nat.beq c 0) (some (Zl Ya Xa fun σ ρ K=>(pa n n σ.1 σ.2.1 σ.2.2.1 σ.2.2.2.1 σ.2.2.2.2.1).bind (ua K))) none),xm:=fun c q=>(cond (Nat.beq c 0&&Nat.beq (q.getD 1000000) 0&&q.isSome) (some [(0,some (.sl K1)),(1,none),(2,none),(8,none),(9,none)]) none) }
def Ja (n:Nat) (K:XE→List AV→ia→Option OutS) (m:Nat) (x1:(Sq T1)) (target1:Int) (n0:Int) (i:Int) (j:Int):Option OutS:=rd tys (da OutS (Ko n)) (Ka n) n (ta [1,1,1,0,0,0] (aa Tryz.f123)) 0 Ya Xa K m (x1,(target1,(n0,(i,(j,()))))) ((),())
theorem mc (n:Nat) (K:XE→List AV→ia→Option OutS):∀ (m:Nat) x1 target1 n0 i j,Ja n K m x1 target1 n0 i j=(pa n m x1 target1 n0 i j).bind (ua K)
  | 0,_,_,_,_,_=>by kernel_rfl
  | m+1,x1,target1,n0,i,j=>by
    have h1:Ja n K (m+1) x1 target1 n0 i j=ya n x1 target1 n0 i j (Ja n K m) (fun a=>ua K (.out a)) (fun a=>ua K (.ret a)) (fun p=>ua K (.pan p)):=by kernel_rfl
    have h2:Ja n K m=fun x1 target1 n0 i j=>(pa n m x1 target1 n0 i j).bind (ua K):=by
      repeat (refine funext fun _=>?_)
      exact mc n K m _ _ _ _ _
    rw [h1,h2];exact (ff n m _ _ _ _ _ (ua K)).symm
theorem Ve (n:Nat):Vc tys (da OutS (Ko n)) (Ka n) n (ta [1,1,1,0,0,0] (aa Tryz.f123)) 0:=Ca (sp:=Ya) (rp:=Xa) (by kernel_rfl) fun K σ ρ=>mc n K n σ.1 σ.2.1 σ.2.2.1 σ.2.2.2.1 σ.2.2.2.2.1
theorem gf (n:Nat):qa tys (da OutS (Ko n)) (Ka n) n (aa Tryz.f123) 0:=⟨trivial,⟨trivial,⟨trivial,⟨⟨Ve n,⟨⟨trivial,⟨trivial,trivial⟩⟩,⟨trivial,⟨trivial,⟨trivial,trivial⟩⟩⟩⟩⟩,⟨trivial,trivial⟩⟩⟩⟩⟩
theorem Af (n:Nat):Enters Tryz.prog 123:=enters_of (c:=aa Tryz.f123) Tryz.func123 (by kernel_rfl) (by kernel_rfl)
def Bc:List RSp:=[.one (.dat (.sl K1)),.one (.dat (.int .i64)),.one (.fnc 124)]
def Ac:List RS:=[]
def Bf:List Sl:=[.top,.top,.top]
def Cf:List RSp:=[.one (.dat (.int .i64)),.one (.dat .bool)]
def La:List RS:=[]
def tb (y:U10):OutS:=⟨false,yB (sm La ()) Bf (),UX (OV (sm La ()) Cf ((y.1,()),((y.2.1,()),()))),pJ (sm La ()) La ()⟩
theorem Tf (n:Nat):EntryOk Tryz.prog gl ⟨123,Ct,none,some (csT Bc Ac (fun σ ρ=>za n σ.1.1 σ.2.1.1) tb)⟩:=Cu (Af n) fun σ ρ y h=>nh tys_ok (fD n) mixed (hint:=Ka n) (n:=n) Tryz.func123 (Ea (gf n)) (ma (φ:=fun y=>some (tb y)) (by kernel_rfl) (gg n σ.1.1 σ.2.1.1 _) h)
def qb (n:Nat):List Entry:=⟨123,Ct,none,some (csT Bc Ac (fun σ ρ=>za n σ.1.1 σ.2.1.1) tb)⟩::Ko n
theorem dc (n:Nat):AllOk Tryz.prog gl (qb n):=.cons (Tf n) (fD n)
def GG (n:Nat) {R:Type} (s:U1) (id:Int) (k:U10→Option R):Option R:=(za n s.2.1 id).bind fun v=>k (v.1,(v.2.1,()))
def EG (n:Nat) (s:U1) (id:Int):Option U10:=GG n s id some
theorem wbb (n:Nat) {S:Type}:∀ s id (φ:_→Option S),(EG n s id).bind φ=GG n s id φ:=by
  intros;unfold EG GG;first | (simp only [fa,ba,iB,bB,oL,oX,nB,Option.bind_some]) | rfl
def sN (n:Nat):Hint Out:={ live:=fun c=>[],run:=fun c=>none,xm:=fun c q=>none }
theorem TZ (n:Nat):qa tys (da Out (qb n)) (sN n) n (aa Tryz.f89) 0:=oa (fun _=>rfl) _ _ (by kernel_rfl)
theorem D5 (n:Nat):Enters Tryz.prog 89:=enters_of (c:=aa Tryz.f89) Tryz.func89 (by kernel_rfl) (by kernel_rfl)
def FU (n:Nat):Entry:=⟨89,pcT K18 (.many (.pair (.int .i64) (.pair .bool .unit))) (fun xs=>EG n xs.1 xs.2.1),none,none⟩
theorem e8 (n:Nat):EntryOk Tryz.prog gl (FU n):=wa (D5 n) fun xs y h=>ja tys_ok (dc n) mixed (hint:=sN n) (n:=n) Tryz.func89 (Ea (TZ n)) (ma (φ:=(fun y=>some (Out.ret (Uc (.many (.pair (.int .i64) (.pair .bool .unit))) y)))) (by kernel_rfl) (wbb n xs.1 xs.2.1 _) h)
def sK (n:Nat):List Entry:=FU n::qb n
theorem UI (n:Nat):AllOk Tryz.prog gl (sK n):=.cons (e8 n) (dc n)
def At (n:Nat) {R:Type} (m0:T1) (k:U6→Option R):Option R:=(eE 64 m0.2.2.2.2.1).bind fun v=>k (m0.1,(m0.2.1,(m0.2.2.1,(m0.2.2.2.1.1,(m0.2.2.2.1.2.1,(m0.2.2.2.2.2.1,(m0.2.2.2.2.2.2.1,(m0.2.2.2.2.2.2.2.1,(m0.2.2.2.2.2.2.2.2.1,(v.1,()))))))))))
def Gp (n:Nat) (m0:T1):Option U6:=At n m0 some
theorem TY (n:Nat) {S:Type}:∀ m0 (φ:_→Option S),(Gp n m0).bind φ=At n m0 φ:=by
  intros;unfold Gp At;first | (simp only [fa,ba,iB,bB,oL,oX,nB,Option.bind_some]) | rfl
def TC (n:Nat):Hint OutS:={ live:=fun c=>[],run:=fun c=>none,xm:=fun c q=>none,pr:=[(0,5,62)] }
theorem cR (n:Nat):qa tys (da OutS (sK n)).keep (TC n) n (aa Tryz.f90) 0:=oa (fun _=>rfl) _ _ (by kernel_rfl)
theorem yT (n:Nat):Enters Tryz.prog 90:=enters_of (c:=aa Tryz.f90) Tryz.func90 (by kernel_rfl) (by kernel_rfl)
def zI:List RSp:=[.one (.dat K1)]
def yI:List RS:=[]
def zT:List Sl:=[.top]
def BT:List RSp:=[.agg [.dat (.int .i64),.dat (.int .i64),.dat .bool,.dat .str,.dat .str,.row 0,.dat .str,.dat (.int .i64),.dat .bool,.dat .bool]]
def Nn:List RS:=[.row 62 6 K0 true true]
def JB (y:U6):OutS:=⟨false,yB (sm Nn (y.2.2.2.2.2.2.2.2.2.1,())) zT (),UX (OV (sm Nn (y.2.2.2.2.2.2.2.2.2.1,())) BT ((y.1,(y.2.1,(y.2.2.1,(y.2.2.2.1,(y.2.2.2.2.1,(y.2.2.2.2.2.1,(y.2.2.2.2.2.2.1,(y.2.2.2.2.2.2.2.1,(y.2.2.2.2.2.2.2.2.1,()))))))))),())),pJ (sm Nn (y.2.2.2.2.2.2.2.2.2.1,())) Nn (y.2.2.2.2.2.2.2.2.2.1,())⟩
theorem WV (n:Nat):EntryOk Tryz.prog gl ⟨90,Ct,none,some (csT zI yI (fun σ ρ=>Gp n σ.1.1) JB)⟩:=Cu (yT n) fun σ ρ y h=>kJ tys_ok (UI n) mixed (hint:=TC n) (n:=n) Tryz.func90 (Ea (cR n)) (ma (φ:=fun y=>some (JB y)) (by kernel_rfl) (TY n σ.1.1 _) h)
def By (n:Nat):List Entry:=⟨90,Ct,none,some (csT zI yI (fun σ ρ=>Gp n σ.1.1) JB)⟩::sK n
theorem rA (n:Nat):AllOk Tryz.prog gl (By n):=.cons (WV n) (UI n)
def uq (n:Nat) {R:Type} (s:U1) (id:Int) (k:U5→Option R):Option R:=(mm n (s.1,(s.2.1,()))).bind fun v=>if (!v)=true then k ((0:Int),((0:Int),(false,((⟨#[]⟩:BA),((⟨#[]⟩:BA),((⟨#[]⟩:BA),((0:Int),(false,(false,((1:Int),((⟨0,fun _=>Ba K0⟩:Sq T0),()))))))))))) else (EG n (s.1,(s.2.1,())) id).bind fun v1=>if (!v1.2.1)=true then k ((0:Int),((0:Int),(false,((⟨#[]⟩:BA),((⟨#[]⟩:BA),((⟨#[]⟩:BA),((0:Int),(false,(false,((3:Int),((⟨0,fun _=>Ba K0⟩:Sq T0),()))))))))))) else if 0≤v1.1∧v1.1<(s.2.1.n:Int) then (Gp n (((s.2.1.at' (Int.toNat v1.1))).1,((((s.2.1.at' (Int.toNat v1.1))).2).1,(((((s.2.1.at' (Int.toNat v1.1))).2).2).1,((((((((s.2.1.at' (Int.toNat v1.1))).2).2).2).1).1,((((((((s.2.1.at' (Int.toNat v1.1))).2).2).2).1).2).1,())),((((((((s.2.1.at' (Int.toNat v1.1))).2).2).2).2).1),((((((((s.2.1.at' (Int.toNat v1.1))).2).2).2).2).2).1,(((((((((s.2.1.at' (Int.toNat v1.1))).2).2).2).2).2).2).1,((((((((((s.2.1.at' (Int.toNat v1.1))).2).2).2).2).2).2).2).1,(((((((((((s.2.1.at' (Int.toNat v1.1))).2).2).2).2).2).2).2).2).1,())))))))))).bind fun v2=>k (v2.1,(v2.2.1,(v2.2.2.1,(v2.2.2.2.1,(v2.2.2.2.2.1,(v2.2.2.2.2.2.1,(v2.2.2.2.2.2.2.1,(v2.2.2.2.2.2.2.2.1,(v2.2.2.2.2.2.2.2.2.1,((0:Int),(v2.2.2.2.2.2.2.2.2.2.1,())))))))))))
 else none
def Vh (n:Nat) (s:U1) (id:Int):Option U5:=uq n s id some
theorem MW (n:Nat) {S:Type}:∀ s id (φ:_→Option S),(Vh n s id).bind φ=uq n s id φ:=by
  intros;unfold Vh uq;first | (simp only [fa,ba,iB,bB,oL,oX,nB,Option.bind_some]) | rfl
def mB (n:Nat):Hint OutS:={ live:=fun c=>[],run:=fun c=>none,xm:=fun c q=>none,pr:=[(0,5,62)] }
theorem GP (n:Nat):qa tys (da OutS (By n)).keep (mB n) n (aa Tryz.f45) 0:=oa (fun _=>rfl) _ _ (by kernel_rfl)
theorem FR (n:Nat):Enters Tryz.prog 45:=enters_of (c:=aa Tryz.f45) Tryz.func45 (by kernel_rfl) (by kernel_rfl)
def CF:List RSp:=[.one (.dat K3),.one (.dat (.int .i64))]
def BF:List RS:=[]
def GR:List Sl:=[.top,.top]
def HR:List RSp:=[.agg [.dat (.int .i64),.dat (.int .i64),.dat .bool,.dat .str,.dat .str,.row 0,.dat .str,.dat (.int .i64),.dat .bool,.dat .bool],.one (.dat (.int .i64))]
def zm:List RS:=[.row 62 6 K0 true true]
def Pz (y:U5):OutS:=⟨false,yB (sm zm (y.2.2.2.2.2.2.2.2.2.2.1,())) GR (),UX (OV (sm zm (y.2.2.2.2.2.2.2.2.2.2.1,())) HR ((y.1,(y.2.1,(y.2.2.1,(y.2.2.2.1,(y.2.2.2.2.1,(y.2.2.2.2.2.1,(y.2.2.2.2.2.2.1,(y.2.2.2.2.2.2.2.1,(y.2.2.2.2.2.2.2.2.1,()))))))))),((y.2.2.2.2.2.2.2.2.2.1,()),()))),pJ (sm zm (y.2.2.2.2.2.2.2.2.2.2.1,())) zm (y.2.2.2.2.2.2.2.2.2.2.1,())⟩
theorem HU (n:Nat):EntryOk Tryz.prog gl ⟨45,Ct,none,some (csT CF BF (fun σ ρ=>Vh n σ.1.1 σ.2.1.1) Pz)⟩:=Cu (FR n) fun σ ρ y h=>kJ tys_ok (rA n) mixed (hint:=mB n) (n:=n) Tryz.func45 (Ea (GP n)) (ma (φ:=fun y=>some (Pz y)) (by kernel_rfl) (MW n σ.1.1 σ.2.1.1 _) h)
def Gk (n:Nat):List Entry:=⟨45,Ct,none,some (csT CF BF (fun σ ρ=>Vh n σ.1.1 σ.2.1.1) Pz)⟩::By n
theorem Rx (n:Nat):AllOk Tryz.prog gl (Gk n):=.cons (HU n) (rA n)
def Le (n:Nat) {R:Type} (id1 i s1:Int) (s2:(Sq T1)) (kn:Int→Int→Int→(Sq T1)→Option R) (ko:(Unit)→Option R) (kr:(Int)→Option R) (kp:Int→Option R):Option R:=if (decide (i<(s2.n:Int)))=true then if 0≤i∧i<(s2.n:Int) then if ((((s2.at' (Int.toNat i))).1)==id1)=true then kr i else kn id1 (IntKind.wrap .i64 (i+(1:Int))) s1 s2 else none else ko ()
def zb (n:Nat):Nat→Int→Int→Int→(Sq T1)→Option (Lx (Unit) (Int))
 | 0,_,_,_,_=>none
 | m+1,id1,i,s1,s2=>Le n id1 i s1 s2 (zb n m) (fun a=>some (.out a)) (fun a=>some (.ret a)) (fun p=>some (.pan p))
theorem tH (n m:Nat) {S:Type}:∀ id1 i s1 s2 (φ:_→Option S),(zb n (m+1) id1 i s1 s2).bind φ=Le n id1 i s1 s2 (fun id1 i s1 s2=>(zb n m id1 i s1 s2).bind φ) (fun a=>φ (.out a)) (fun a=>φ (.ret a)) (fun p=>φ (.pan p)):=by
  intros;first | (simp only [zb,Le,fa,ba,iB,bB,oL,oX,nB,Option.bind_some]) | rfl
def jk:List Sl:=.top::.dat (.int .i64)::.ptr 0 0 0::.top::.top::.dat (.int .i64)::tp 16 []
def ik:List RS:=[.box 24 2 true [.dat (.int .i64),.dat (.sl K1)]]
def oz:List Sl:=tp 22 []
def mz:List RS:=[]
def qz:List Sl:=tp 4 (.dat (.int .i64)::tp 17 [])
def pz:List RS:=[]
def Mc (K:XE→List AV→ia→Option Out):Lx (Unit) (Int)→Option Out:=fun x=>onL x (fun a=>Ye oz mz () () (K (.exit 0))) (fun a=>Ye qz pz (a,()) () (K .ret)) (fun _=>none)
def cl (n:Nat) {R:Type} (s:U1) (id:Int) (k:Int→Option R):Option R:=(zb n n id (0:Int) s.1 s.2.1).bind fun x_1=>onL x_1 (fun a_2=>k (-1:Int)) (fun a_3=>k a_3) (fun _=>none)
def wh (n:Nat) (s:U1) (id:Int):Option Int:=cl n s id some
theorem RO (n:Nat) {S:Type}:∀ s id (φ:_→Option S),(wh n s id).bind φ=cl n s id φ:=by
  intros;unfold wh cl;first | (simp only [fa,ba,iB,bB,oL,oX,nB,Option.bind_some]) | rfl
def bh (n:Nat):Hint Out:={ live:=fun c=>(cond (Nat.beq c 0) (lv [1,2,5]) []),run:=fun c=>(cond (Nat.beq c 0) (some (Zl jk ik fun σ ρ K=>(zb n n σ.1 σ.2.1 ρ.1.1 ρ.1.2.1).bind (Mc K))) none),xm:=fun c q=>(cond (Nat.beq c 0&&Nat.beq (q.getD 1000000) 0&&q.isSome) (some []) (cond (Nat.beq c 1&&q.isNone) (some [(4,none)]) none)) }
def ah (n:Nat) (K:XE→List AV→ia→Option Out) (m:Nat) (id1:Int) (i:Int) (s1:Int) (s2:(Sq T1)):Option Out:=rd tys (da Out (Gk n)) (bh n) n (ta [1,0,1,0,0] (aa Tryz.f49)) 0 jk ik K m (id1,(i,())) ((s1,(s2,())),())
theorem Gs (n:Nat) (K:XE→List AV→ia→Option Out):∀ (m:Nat) id1 i s1 s2,ah n K m id1 i s1 s2=(zb n m id1 i s1 s2).bind (Mc K)
  | 0,_,_,_,_=>by kernel_rfl
  | m+1,id1,i,s1,s2=>by
    have h1:ah n K (m+1) id1 i s1 s2=Le n id1 i s1 s2 (ah n K m) (fun a=>Mc K (.out a)) (fun a=>Mc K (.ret a)) (fun p=>Mc K (.pan p)):=by kernel_rfl
    have h2:ah n K m=fun id1 i s1 s2=>(zb n m id1 i s1 s2).bind (Mc K):=by
      repeat (refine funext fun _=>?_)
      exact Gs n K m _ _ _ _
    rw [h1,h2];exact (tH n m _ _ _ _ (Mc K)).symm
theorem NE (n:Nat):Vc tys (da Out (Gk n)) (bh n) n (ta [1,0,1,0,0] (aa Tryz.f49)) 0:=Ca (sp:=jk) (rp:=ik) (by kernel_rfl) fun K σ ρ=>Gs n K n σ.1 σ.2.1 ρ.1.1 ρ.1.2.1
theorem uH (n:Nat):qa tys (da Out (Gk n)) (bh n) n (aa Tryz.f49) 0:=⟨trivial,⟨⟨trivial,⟨NE n,⟨⟨trivial,⟨trivial,trivial⟩⟩,⟨⟨trivial,⟨⟨trivial,trivial⟩,trivial⟩⟩,trivial⟩⟩⟩⟩,⟨trivial,trivial⟩⟩⟩
theorem IJ (n:Nat):Enters Tryz.prog 49:=enters_of (c:=aa Tryz.f49) Tryz.func49 (by kernel_rfl) (by kernel_rfl)
def fx (n:Nat):Entry:=⟨49,pcT K18 (.one (.int .i64)) (fun xs=>wh n xs.1 xs.2.1),none,none⟩
theorem ZL (n:Nat):EntryOk Tryz.prog gl (fx n):=wa (IJ n) fun xs y h=>ja tys_ok (Rx n) mixed (hint:=bh n) (n:=n) Tryz.func49 (Ea (uH n)) (ma (φ:=(fun y=>some (Out.ret (Uc (.one (.int .i64)) y)))) (by kernel_rfl) (RO n xs.1 xs.2.1 _) h)
def yg (n:Nat):List Entry:=fx n::Gk n
theorem ar (n:Nat):AllOk Tryz.prog gl (yg n):=.cons (ZL n) (Rx n)
def ul (n:Nat) {R:Type} (a1 b1:(Sq T0)) (i:Int) (kn:(Sq T0)→(Sq T0)→Int→Option R) (ko:(Unit)→Option R) (kr:(Bool)→Option R) (kp:Int→Option R):Option R:=if (decide (i<(a1.n:Int)))=true then if 0≤i∧i<(a1.n:Int) then if 0≤i∧i<(b1.n:Int) then if (!(((((((a1.at' (Int.toNat i))).1).1).toList==((((b1.at' (Int.toNat i))).1).1).toList)&&(((((((a1.at' (Int.toNat i))).1).2).1).toList==(((((b1.at' (Int.toNat i))).1).2).1).toList)&&true))&&((((((a1.at' (Int.toNat i))).2).1)==((((b1.at' (Int.toNat i))).2).1))&&(((((((a1.at' (Int.toNat i))).2).2).1)==(((((b1.at' (Int.toNat i))).2).2).1))&&((((((((a1.at' (Int.toNat i))).2).2).2).1)==((((((b1.at' (Int.toNat i))).2).2).2).1))&&(((((((((a1.at' (Int.toNat i))).2).2).2).2).1)==(((((((b1.at' (Int.toNat i))).2).2).2).2).1))&&true))))))=true then kr false else kn a1 b1 (IntKind.wrap .i64 (i+(1:Int))) else none else none else ko ()
def Cd (n:Nat):Nat→(Sq T0)→(Sq T0)→Int→Option (Lx (Unit) (Bool))
 | 0,_,_,_=>none
 | m+1,a1,b1,i=>ul n a1 b1 i (Cd n m) (fun a=>some (.out a)) (fun a=>some (.ret a)) (fun p=>some (.pan p))
theorem bU (n m:Nat) {S:Type}:∀ a1 b1 i (φ:_→Option S),(Cd n (m+1) a1 b1 i).bind φ=ul n a1 b1 i (fun a1 b1 i=>(Cd n m a1 b1 i).bind φ) (fun a=>φ (.out a)) (fun a=>φ (.ret a)) (fun p=>φ (.pan p)):=by
  intros;first | (simp only [Cd,ul,fa,ba,iB,bB,oL,oX,nB,Option.bind_some]) | rfl
def Pr:List Sl:=.dat (.sl K0)::.dat (.sl K0)::.top::.top::.top::.dat (.int .i64)::tp 20 []
def Nr:List RS:=[]
def JH:List Sl:=tp 26 []
def IH:List RS:=[]
def LH:List Sl:=tp 4 (.dat .bool::tp 21 [])
def KH:List RS:=[]
def Nf (K:XE→List AV→ia→Option Out):Lx (Unit) (Bool)→Option Out:=fun x=>onL x (fun a=>Ye JH IH () () (K (.exit 0))) (fun a=>Ye LH KH (a,()) () (K .ret)) (fun _=>none)
def rx (n:Nat) {R:Type} (a b:(Sq T0)) (k:Bool→Option R):Option R:=if ((a.n:Int) !=(b.n:Int))=true then k false else (Cd n n a b (0:Int)).bind fun x_1=>onL x_1 (fun a_2=>k true) (fun a_3=>k a_3) (fun _=>none)
def lu (n:Nat) (a b:(Sq T0)):Option Bool:=rx n a b some
theorem M4 (n:Nat) {S:Type}:∀ a b (φ:_→Option S),(lu n a b).bind φ=rx n a b φ:=by
  intros;unfold lu rx;first | (simp only [fa,ba,iB,bB,oL,oX,nB,Option.bind_some]) | rfl
def qo (n:Nat):Hint Out:={ live:=fun c=>(cond (Nat.beq c 0) [(0,some (.sl K0)),(1,some (.sl K0)),(5,none)] []),run:=fun c=>(cond (Nat.beq c 0) (some (Zl Pr Nr fun σ ρ K=>(Cd n n σ.1 σ.2.1 σ.2.2.1).bind (Nf K))) none),xm:=fun c q=>(cond (Nat.beq c 0&&Nat.beq (q.getD 1000000) 0&&q.isSome) (some []) (cond (Nat.beq c 1&&q.isNone) (some [(4,none)]) none)) }
def po (n:Nat) (K:XE→List AV→ia→Option Out) (m:Nat) (a1:(Sq T0)) (b1:(Sq T0)) (i:Int):Option Out:=rd tys (da Out (yg n)) (qo n) n (ta [1,1,0,1,0,0] (aa Tryz.f164)) 0 Pr Nr K m (a1,(b1,(i,()))) ()
theorem cF (n:Nat) (K:XE→List AV→ia→Option Out):∀ (m:Nat) a1 b1 i,po n K m a1 b1 i=(Cd n m a1 b1 i).bind (Nf K)
  | 0,_,_,_=>by kernel_rfl
  | m+1,a1,b1,i=>by
    have h1:po n K (m+1) a1 b1 i=ul n a1 b1 i (po n K m) (fun a=>Nf K (.out a)) (fun a=>Nf K (.ret a)) (fun p=>Nf K (.pan p)):=by kernel_rfl
    have h2:po n K m=fun a1 b1 i=>(Cd n m a1 b1 i).bind (Nf K):=by
      repeat (refine funext fun _=>?_)
      exact cF n K m _ _ _
    rw [h1,h2];exact (bU n m _ _ _ (Nf K)).symm
theorem vR (n:Nat):Vc tys (da Out (yg n)) (qo n) n (ta [1,1,0,1,0,0] (aa Tryz.f164)) 0:=Ca (sp:=Pr) (rp:=Nr) (by kernel_rfl) fun K σ ρ=>cF n K n σ.1 σ.2.1 σ.2.2.1
theorem cU (n:Nat):qa tys (da Out (yg n)) (qo n) n (aa Tryz.f164) 0:=⟨trivial,⟨⟨trivial,⟨⟨trivial,trivial⟩,trivial⟩⟩,⟨⟨trivial,⟨vR n,⟨⟨trivial,⟨trivial,trivial⟩⟩,⟨⟨trivial,⟨⟨trivial,trivial⟩,trivial⟩⟩,trivial⟩⟩⟩⟩,⟨trivial,trivial⟩⟩⟩⟩
theorem pW (n:Nat):Enters Tryz.prog 164:=enters_of (c:=aa Tryz.f164) Tryz.func164 (by kernel_rfl) (by kernel_rfl)
def pM (n:Nat):Entry:=⟨164,pcT K24 (.one .bool) (fun xs=>lu n xs.1 xs.2.1),none,none⟩
theorem mZ (n:Nat):EntryOk Tryz.prog gl (pM n):=wa (pW n) fun xs y h=>ja tys_ok (ar n) mixed (hint:=qo n) (n:=n) Tryz.func164 (Ea (cU n)) (ma (φ:=(fun y=>some (Out.ret (Uc (.one .bool) y)))) (by kernel_rfl) (M4 n xs.1 xs.2.1 _) h)
def ZB (n:Nat):List Entry:=pM n::yg n
theorem cD (n:Nat):AllOk Tryz.prog gl (ZB n):=.cons (mZ n) (ar n)
def XB (n:Nat) {R:Type} (a b:T1) (k:Bool→Option R):Option R:=if (a.1==b.1)=true then if (a.2.1==b.2.1)=true then if (a.2.2.1==b.2.2.1)=true then if ((a.2.2.2.1.1.toList==b.2.2.2.1.1.toList)&&((a.2.2.2.1.2.1.toList==b.2.2.2.1.2.1.toList)&&true))=true then (lu n a.2.2.2.2.1 b.2.2.2.2.1).bind fun v=>if v=true then if (a.2.2.2.2.2.1.toList==b.2.2.2.2.2.1.toList)=true then if (a.2.2.2.2.2.2.1==b.2.2.2.2.2.2.1)=true then if (a.2.2.2.2.2.2.2.1==b.2.2.2.2.2.2.2.1)=true then k (a.2.2.2.2.2.2.2.2.1==b.2.2.2.2.2.2.2.2.1) else k false else k false else k false else k false else k false else k false else k false else k false
def bj (n:Nat) (a b:T1):Option Bool:=XB n a b some
theorem D7 (n:Nat) {S:Type}:∀ a b (φ:_→Option S),(bj n a b).bind φ=XB n a b φ:=by
  intros;unfold bj XB;first | (simp only [fa,ba,iB,bB,oL,oX,nB,Option.bind_some]) | rfl
def FI (n:Nat):Hint Out:={ live:=fun c=>[],run:=fun c=>none,xm:=fun c q=>none }
theorem mW (n:Nat):qa tys (da Out (ZB n)) (FI n) n (aa Tryz.f115) 0:=oa (fun _=>rfl) _ _ (by kernel_rfl)
theorem kZ (n:Nat):Enters Tryz.prog 115:=enters_of (c:=aa Tryz.f115) Tryz.func115 (by kernel_rfl) (by kernel_rfl)
def sQ (n:Nat):Entry:=⟨115,pcT K25 (.one .bool) (fun xs=>bj n xs.1 xs.2.1),none,none⟩
theorem J4 (n:Nat):EntryOk Tryz.prog gl (sQ n):=wa (kZ n) fun xs y h=>ja tys_ok (cD n) mixed (hint:=FI n) (n:=n) Tryz.func115 (Ea (mW n)) (ma (φ:=(fun y=>some (Out.ret (Uc (.one .bool) y)))) (by kernel_rfl) (D7 n xs.1 xs.2.1 _) h)
def ir (n:Nat):List Entry:=sQ n::ZB n
theorem YE (n:Nat):AllOk Tryz.prog gl (ir n):=.cons (J4 n) (cD n)
def Il (n:Nat) {R:Type} (i m09 m010:Int) (m011:Bool) (m012 m013 m014:BA) (m015:Int) (m016 m017:Bool) (r1:(Sq T0)) (kn:Int→Int→Int→Bool→BA→BA→BA→Int→Bool→Bool→(Sq T0)→Option R) (ko:(Unit)→Option R) (kr:Unit→Option R) (kp:Int→Option R):Option R:=if (decide (i<(r1.n:Int)))=true then if 0≤i∧i<(r1.n:Int) then kn (IntKind.wrap .i64 (i+(1:Int))) m09 m010 m011 m012 m013 m014 m015 m016 m017 (⟨r1.n,fun q=>if q=(Int.toNat i)∧q<r1.n then (((⟨#[]⟩:BA),((⟨#[]⟩:BA),())),((-9:Int),((0:Int),((0:Int),((0:Int),()))))) else r1.at' q⟩:Sq T0) else none else ko ()
def Nd (n:Nat):Nat→Int→Int→Int→Bool→BA→BA→BA→Int→Bool→Bool→(Sq T0)→Option (Lx (Unit) Unit)
 | 0,_,_,_,_,_,_,_,_,_,_,_=>none
 | m+1,i,m09,m010,m011,m012,m013,m014,m015,m016,m017,r1=>Il n i m09 m010 m011 m012 m013 m014 m015 m016 m017 r1 (Nd n m) (fun a=>some (.out a)) (fun a=>some (.ret a)) (fun p=>some (.pan p))
theorem gV (n m:Nat) {S:Type}:∀ i m09 m010 m011 m012 m013 m014 m015 m016 m017 r1 (φ:_→Option S),(Nd n (m+1) i m09 m010 m011 m012 m013 m014 m015 m016 m017 r1).bind φ=Il n i m09 m010 m011 m012 m013 m014 m015 m016 m017 r1 (fun i m09 m010 m011 m012 m013 m014 m015 m016 m017 r1=>(Nd n m i m09 m010 m011 m012 m013 m014 m015 m016 m017 r1).bind φ) (fun a=>φ (.out a)) (fun a=>φ (.ret a)) (fun p=>φ (.pan p)):=by
  intros;first | (simp only [Nd,Il,fa,ba,iB,bB,oL,oX,nB,Option.bind_some]) | rfl
def Yr:List Sl:=.top::.ptr 0 0 0::.dat (.int .i64)::tp 12 []
def Xr:List RS:=[.box 59 10 false [.dat (.int .i64),.dat (.int .i64),.dat .bool,.dat .str,.dat .str,.row 1,.dat .str,.dat (.int .i64),.dat .bool,.dat .bool],.row 62 6 K0 true true,.ghost [.top]]
def bI:List Sl:=tp 15 []
def aI:List RS:=[.ghost [.top]]
def Vf (K:XE→List AV→ia→Option OutS):Lx (Unit) Unit→Option OutS:=fun x=>onL x (fun a=>Ye bI aI () ((),()) (K (.exit 0))) (fun _=>none) (fun _=>none)
def ey (n:Nat) {R:Type} (m0 m01:Int) (m02:Bool) (m03 m04 m05:BA) (m06:Int) (m07 m08:Bool) (r0:(Sq T0)) (k:Unit→Option R):Option R:=(Nd n n (0:Int) m0 m01 m02 m03 m04 m05 m06 m07 m08 r0).bind fun x_1=>onL x_1 (fun a_2=>k ()) (fun _=>none) (fun _=>none)
def rj (n:Nat) (m0 m01:Int) (m02:Bool) (m03 m04 m05:BA) (m06:Int) (m07 m08:Bool) (r0:(Sq T0)):Option Unit:=ey n m0 m01 m02 m03 m04 m05 m06 m07 m08 r0 some
theorem b6 (n:Nat) {S:Type}:∀ m0 m01 m02 m03 m04 m05 m06 m07 m08 r0 (φ:_→Option S),(rj n m0 m01 m02 m03 m04 m05 m06 m07 m08 r0).bind φ=ey n m0 m01 m02 m03 m04 m05 m06 m07 m08 r0 φ:=by
  intros;unfold rj ey;first | (simp only [fa,ba,iB,bB,oL,oX,nB,Option.bind_some]) | rfl
def Uo (n:Nat):Hint OutS:={ live:=fun c=>(cond (Nat.beq c 0) [(1,none),(2,none)] []),run:=fun c=>(cond (Nat.beq c 0) (some (Zl Yr Xr fun σ ρ K=>(Nd n n σ.1 ρ.1.1 ρ.1.2.1 ρ.1.2.2.1 ρ.1.2.2.2.1 ρ.1.2.2.2.2.1 ρ.1.2.2.2.2.2.1 ρ.1.2.2.2.2.2.2.1 ρ.1.2.2.2.2.2.2.2.1 ρ.1.2.2.2.2.2.2.2.2.1 ρ.2.1).bind (Vf K))) none),xm:=fun c q=>(cond (Nat.beq c 0&&Nat.beq (q.getD 1000000) 0&&q.isSome) (some []) none) }
def So (n:Nat) (K:XE→List AV→ia→Option OutS) (m:Nat) (i:Int) (m09:Int) (m010:Int) (m011:Bool) (m012:BA) (m013:BA) (m014:BA) (m015:Int) (m016:Bool) (m017:Bool) (r1:(Sq T0)):Option OutS:=rd tys (da OutS (ir n)) (Uo n) n (ta [1,1,0,0] (aa Tryz.f136)) 0 Yr Xr K m (i,()) ((m09,(m010,(m011,(m012,(m013,(m014,(m015,(m016,(m017,()))))))))),(r1,((),())))
theorem WF (n:Nat) (K:XE→List AV→ia→Option OutS):∀ (m:Nat) i m09 m010 m011 m012 m013 m014 m015 m016 m017 r1,So n K m i m09 m010 m011 m012 m013 m014 m015 m016 m017 r1=(Nd n m i m09 m010 m011 m012 m013 m014 m015 m016 m017 r1).bind (Vf K)
  | 0,_,_,_,_,_,_,_,_,_,_,_=>by kernel_rfl
  | m+1,i,m09,m010,m011,m012,m013,m014,m015,m016,m017,r1=>by
    have h1:So n K (m+1) i m09 m010 m011 m012 m013 m014 m015 m016 m017 r1=Il n i m09 m010 m011 m012 m013 m014 m015 m016 m017 r1 (So n K m) (fun a=>Vf K (.out a)) (fun a=>Vf K (.ret a)) (fun p=>Vf K (.pan p)):=by kernel_rfl
    have h2:So n K m=fun i m09 m010 m011 m012 m013 m014 m015 m016 m017 r1=>(Nd n m i m09 m010 m011 m012 m013 m014 m015 m016 m017 r1).bind (Vf K):=by
      repeat (refine funext fun _=>?_)
      exact WF n K m _ _ _ _ _ _ _ _ _ _ _
    rw [h1,h2];exact (gV n m _ _ _ _ _ _ _ _ _ _ _ (Vf K)).symm
theorem YR (n:Nat):Vc tys (da OutS (ir n)) (Uo n) n (ta [1,1,0,0] (aa Tryz.f136)) 0:=Ca (sp:=Yr) (rp:=Xr) (by kernel_rfl) fun K σ ρ=>WF n K n σ.1 ρ.1.1 ρ.1.2.1 ρ.1.2.2.1 ρ.1.2.2.2.1 ρ.1.2.2.2.2.1 ρ.1.2.2.2.2.2.1 ρ.1.2.2.2.2.2.2.1 ρ.1.2.2.2.2.2.2.2.1 ρ.1.2.2.2.2.2.2.2.2.1 ρ.2.1
theorem iV (n:Nat):qa tys (da OutS (ir n)) (Uo n) n (aa Tryz.f136) 0:=⟨trivial,⟨trivial,⟨YR n,⟨⟨trivial,⟨trivial,trivial⟩⟩,⟨trivial,trivial⟩⟩⟩⟩⟩
theorem aX (n:Nat):Enters Tryz.prog 136:=enters_of (c:=aa Tryz.f136) Tryz.func136 (by kernel_rfl) (by kernel_rfl)
def TN:List RSp:=[.agg [.dat (.int .i64),.dat (.int .i64),.dat .bool,.dat .str,.dat .str,.row 0,.dat .str,.dat (.int .i64),.dat .bool,.dat .bool]]
def SN:List RS:=[.row 62 6 K0 true true]
def bX:List Sl:=[.top]
def cX:List RSp:=[]
def Bq:List RS:=[]
def XF (y:Unit):OutS:=⟨false,yB (sm Bq ()) bX (),UX (OV (sm Bq ()) cX ()),pJ (sm Bq ()) Bq ()⟩
theorem H0 (n:Nat):EntryOk Tryz.prog gl ⟨136,Ct,none,some (csT TN SN (fun σ ρ=>rj n σ.1.1 σ.1.2.1 σ.1.2.2.1 σ.1.2.2.2.1 σ.1.2.2.2.2.1 σ.1.2.2.2.2.2.1 σ.1.2.2.2.2.2.2.1 σ.1.2.2.2.2.2.2.2.1 σ.1.2.2.2.2.2.2.2.2.1 ρ.1) XF)⟩:=Cu (aX n) fun σ ρ y h=>nh tys_ok (YE n) mixed (hint:=Uo n) (n:=n) Tryz.func136 (Ea (iV n)) (ma (φ:=fun y=>some (XF y)) (by kernel_rfl) (b6 n σ.1.1 σ.1.2.1 σ.1.2.2.1 σ.1.2.2.2.1 σ.1.2.2.2.2.1 σ.1.2.2.2.2.2.1 σ.1.2.2.2.2.2.2.1 σ.1.2.2.2.2.2.2.2.1 σ.1.2.2.2.2.2.2.2.2.1 ρ.1 _) h)
def To (n:Nat):List Entry:=⟨136,Ct,none,some (csT TN SN (fun σ ρ=>rj n σ.1.1 σ.1.2.1 σ.1.2.2.1 σ.1.2.2.2.1 σ.1.2.2.2.2.1 σ.1.2.2.2.2.2.1 σ.1.2.2.2.2.2.2.1 σ.1.2.2.2.2.2.2.2.1 σ.1.2.2.2.2.2.2.2.2.1 ρ.1) XF)⟩::ir n
theorem nD (n:Nat):AllOk Tryz.prog gl (To n):=.cons (H0 n) (YE n)
def ol (n:Nat) {R:Type} (a1 b1:(Sq T1)) (i:Int) (kn:(Sq T1)→(Sq T1)→Int→Option R) (ko:(Unit)→Option R) (kr:(Bool)→Option R) (kp:Int→Option R):Option R:=if (decide (i<(a1.n:Int)))=true then if 0≤i∧i<(a1.n:Int) then if 0≤i∧i<(b1.n:Int) then (bj n (((a1.at' (Int.toNat i))).1,((((a1.at' (Int.toNat i))).2).1,(((((a1.at' (Int.toNat i))).2).2).1,((((((((a1.at' (Int.toNat i))).2).2).2).1).1,((((((((a1.at' (Int.toNat i))).2).2).2).1).2).1,())),((((((((a1.at' (Int.toNat i))).2).2).2).2).1),((((((((a1.at' (Int.toNat i))).2).2).2).2).2).1,(((((((((a1.at' (Int.toNat i))).2).2).2).2).2).2).1,((((((((((a1.at' (Int.toNat i))).2).2).2).2).2).2).2).1,(((((((((((a1.at' (Int.toNat i))).2).2).2).2).2).2).2).2).1,()))))))))) (((b1.at' (Int.toNat i))).1,((((b1.at' (Int.toNat i))).2).1,(((((b1.at' (Int.toNat i))).2).2).1,((((((((b1.at' (Int.toNat i))).2).2).2).1).1,((((((((b1.at' (Int.toNat i))).2).2).2).1).2).1,())),((((((((b1.at' (Int.toNat i))).2).2).2).2).1),((((((((b1.at' (Int.toNat i))).2).2).2).2).2).1,(((((((((b1.at' (Int.toNat i))).2).2).2).2).2).2).1,((((((((((b1.at' (Int.toNat i))).2).2).2).2).2).2).2).1,(((((((((((b1.at' (Int.toNat i))).2).2).2).2).2).2).2).2).1,())))))))))).bind fun v=>if (!v)=true then kr false else kn a1 b1 (IntKind.wrap .i64 (i+(1:Int))) else none else none else ko ()
def Bd (n:Nat):Nat→(Sq T1)→(Sq T1)→Int→Option (Lx (Unit) (Bool))
 | 0,_,_,_=>none
 | m+1,a1,b1,i=>ol n a1 b1 i (Bd n m) (fun a=>some (.out a)) (fun a=>some (.ret a)) (fun p=>some (.pan p))
theorem YT (n m:Nat) {S:Type}:∀ a1 b1 i (φ:_→Option S),(Bd n (m+1) a1 b1 i).bind φ=ol n a1 b1 i (fun a1 b1 i=>(Bd n m a1 b1 i).bind φ) (fun a=>φ (.out a)) (fun a=>φ (.ret a)) (fun p=>φ (.pan p)):=by
  intros;first | (simp only [Bd,ol,fa,ba,iB,bB,oL,oX,nB,Option.bind_some]) | rfl
def Mr:List Sl:=.dat (.sl K1)::.dat (.sl K1)::.top::.top::.top::.dat (.int .i64)::tp 21 []
def Lr:List RS:=[]
def FH:List Sl:=tp 27 []
def EH:List RS:=[]
def HH:List Sl:=tp 4 (.dat .bool::tp 22 [])
def GH:List RS:=[]
def Mf (K:XE→List AV→ia→Option Out):Lx (Unit) (Bool)→Option Out:=fun x=>onL x (fun a=>Ye FH EH () () (K (.exit 0))) (fun a=>Ye HH GH (a,()) () (K .ret)) (fun _=>none)
def qx (n:Nat) {R:Type} (a b:(Sq T1)) (k:Bool→Option R):Option R:=if ((a.n:Int) !=(b.n:Int))=true then k false else (Bd n n a b (0:Int)).bind fun x_1=>onL x_1 (fun a_2=>k true) (fun a_3=>k a_3) (fun _=>none)
def WA (n:Nat) (a b:(Sq T1)):Option Bool:=qx n a b some
theorem L4 (n:Nat) {S:Type}:∀ a b (φ:_→Option S),(WA n a b).bind φ=qx n a b φ:=by
  intros;unfold WA qx;first | (simp only [fa,ba,iB,bB,oL,oX,nB,Option.bind_some]) | rfl
def io (n:Nat):Hint Out:={ live:=fun c=>(cond (Nat.beq c 0) [(0,some (.sl K1)),(1,some (.sl K1)),(5,none)] []),run:=fun c=>(cond (Nat.beq c 0) (some (Zl Mr Lr fun σ ρ K=>(Bd n n σ.1 σ.2.1 σ.2.2.1).bind (Mf K))) none),xm:=fun c q=>(cond (Nat.beq c 0&&Nat.beq (q.getD 1000000) 0&&q.isSome) (some []) (cond (Nat.beq c 1&&q.isNone) (some [(4,none)]) none)) }
def go (n:Nat) (K:XE→List AV→ia→Option Out) (m:Nat) (a1:(Sq T1)) (b1:(Sq T1)) (i:Int):Option Out:=rd tys (da Out (To n)) (io n) n (ta [1,1,0,1,0,0] (aa Tryz.f75)) 0 Mr Lr K m (a1,(b1,(i,()))) ()
theorem ZE (n:Nat) (K:XE→List AV→ia→Option Out):∀ (m:Nat) a1 b1 i,go n K m a1 b1 i=(Bd n m a1 b1 i).bind (Mf K)
  | 0,_,_,_=>by kernel_rfl
  | m+1,a1,b1,i=>by
    have h1:go n K (m+1) a1 b1 i=ol n a1 b1 i (go n K m) (fun a=>Mf K (.out a)) (fun a=>Mf K (.ret a)) (fun p=>Mf K (.pan p)):=by kernel_rfl
    have h2:go n K m=fun a1 b1 i=>(Bd n m a1 b1 i).bind (Mf K):=by
      repeat (refine funext fun _=>?_)
      exact ZE n K m _ _ _
    rw [h1,h2];exact (YT n m _ _ _ (Mf K)).symm
theorem tR (n:Nat):Vc tys (da Out (To n)) (io n) n (ta [1,1,0,1,0,0] (aa Tryz.f75)) 0:=Ca (sp:=Mr) (rp:=Lr) (by kernel_rfl) fun K σ ρ=>ZE n K n σ.1 σ.2.1 σ.2.2.1
theorem ZT (n:Nat):qa tys (da Out (To n)) (io n) n (aa Tryz.f75) 0:=⟨trivial,⟨⟨trivial,⟨⟨trivial,trivial⟩,trivial⟩⟩,⟨⟨trivial,⟨tR n,⟨⟨trivial,⟨trivial,trivial⟩⟩,⟨⟨trivial,⟨⟨trivial,trivial⟩,trivial⟩⟩,trivial⟩⟩⟩⟩,⟨trivial,trivial⟩⟩⟩⟩
theorem nW (n:Nat):Enters Tryz.prog 75:=enters_of (c:=aa Tryz.f75) Tryz.func75 (by kernel_rfl) (by kernel_rfl)
def mM (n:Nat):Entry:=⟨75,pcT K26 (.one .bool) (fun xs=>WA n xs.1 xs.2.1),none,none⟩
theorem lZ (n:Nat):EntryOk Tryz.prog gl (mM n):=wa (nW n) fun xs y h=>ja tys_ok (nD n) mixed (hint:=io n) (n:=n) Tryz.func75 (Ea (ZT n)) (ma (φ:=(fun y=>some (Out.ret (Uc (.one .bool) y)))) (by kernel_rfl) (L4 n xs.1 xs.2.1 _) h)
def YB (n:Nat):List Entry:=mM n::To n
theorem bD (n:Nat):AllOk Tryz.prog gl (YB n):=.cons (lZ n) (nD n)
def sx (n:Nat) {R:Type} (a b:U1) (k:Bool→Option R):Option R:=if (a.1==b.1)=true then (WA n a.2.1 b.2.1).bind fun v=>k v else k false
def vl (n:Nat) (a b:U1):Option Bool:=sx n a b some
theorem N4 (n:Nat) {S:Type}:∀ a b (φ:_→Option S),(vl n a b).bind φ=sx n a b φ:=by
  intros;unfold vl sx;first | (simp only [fa,ba,iB,bB,oL,oX,nB,Option.bind_some]) | rfl
def dF (n:Nat):Hint Out:={ live:=fun c=>[],run:=fun c=>none,xm:=fun c q=>none }
theorem dU (n:Nat):qa tys (da Out (YB n)) (dF n) n (aa Tryz.f27) 0:=oa (fun _=>rfl) _ _ (by kernel_rfl)
theorem qW (n:Nat):Enters Tryz.prog 27:=enters_of (c:=aa Tryz.f27) Tryz.func27 (by kernel_rfl) (by kernel_rfl)
def qM (n:Nat):Entry:=⟨27,pcT K27 (.one .bool) (fun xs=>vl n xs.1 xs.2.1),none,none⟩
theorem nZ (n:Nat):EntryOk Tryz.prog gl (qM n):=wa (qW n) fun xs y h=>ja tys_ok (bD n) mixed (hint:=dF n) (n:=n) Tryz.func27 (Ea (dU n)) (ma (φ:=(fun y=>some (Out.ret (Uc (.one .bool) y)))) (by kernel_rfl) (N4 n xs.1 xs.2.1 _) h)
def ro (n:Nat):List Entry:=qM n::YB n
theorem dD (n:Nat):AllOk Tryz.prog gl (ro n):=.cons (nZ n) (bD n)
def Dh (n:Nat) {R:Type} (a1 b1:(Sq T2)) (i:Int) (kn:(Sq T2)→(Sq T2)→Int→Option R) (ko:(Unit)→Option R) (kr:(Bool)→Option R) (kp:Int→Option R):Option R:=if (decide (i<(a1.n:Int)))=true then if 0≤i∧i<(a1.n:Int) then if 0≤i∧i<(b1.n:Int) then if (!(((((a1.at' (Int.toNat i))).1).toList==(((b1.at' (Int.toNat i))).1).toList)&&((((((a1.at' (Int.toNat i))).2).1)==((((b1.at' (Int.toNat i))).2).1))&&(((((((a1.at' (Int.toNat i))).2).2).1)==(((((b1.at' (Int.toNat i))).2).2).1))&&((((((((a1.at' (Int.toNat i))).2).2).2).1)==((((((b1.at' (Int.toNat i))).2).2).2).1))&&(((((((((((a1.at' (Int.toNat i))).2).2).2).2).1).1)==((((((((b1.at' (Int.toNat i))).2).2).2).2).1).1))&&(((((((((((a1.at' (Int.toNat i))).2).2).2).2).1).2).1)==(((((((((b1.at' (Int.toNat i))).2).2).2).2).1).2).1))&&((((((((((((a1.at' (Int.toNat i))).2).2).2).2).1).2).2).1)==((((((((((b1.at' (Int.toNat i))).2).2).2).2).1).2).2).1))&&(((((((((((((a1.at' (Int.toNat i))).2).2).2).2).1).2).2).2).1)==(((((((((((b1.at' (Int.toNat i))).2).2).2).2).1).2).2).2).1))&&((((((((((((((a1.at' (Int.toNat i))).2).2).2).2).1).2).2).2).2).1)==((((((((((((b1.at' (Int.toNat i))).2).2).2).2).1).2).2).2).2).1))&&true)))))&&((((((((((a1.at' (Int.toNat i))).2).2).2).2).2).1)==((((((((b1.at' (Int.toNat i))).2).2).2).2).2).1))&&true)))))))=true then kr false else kn a1 b1 (IntKind.wrap .i64 (i+(1:Int))) else none else none else ko ()
def zc (n:Nat):Nat→(Sq T2)→(Sq T2)→Int→Option (Lx (Unit) (Bool))
 | 0,_,_,_=>none
 | m+1,a1,b1,i=>Dh n a1 b1 i (zc n m) (fun a=>some (.out a)) (fun a=>some (.ret a)) (fun p=>some (.pan p))
theorem gP (n m:Nat) {S:Type}:∀ a1 b1 i (φ:_→Option S),(zc n (m+1) a1 b1 i).bind φ=Dh n a1 b1 i (fun a1 b1 i=>(zc n m a1 b1 i).bind φ) (fun a=>φ (.out a)) (fun a=>φ (.ret a)) (fun p=>φ (.pan p)):=by
  intros;first | (simp only [zc,Dh,fa,ba,iB,bB,oL,oX,nB,Option.bind_some]) | rfl
def vo:List Sl:=.dat (.sl K6)::.dat (.sl K6)::.top::.top::.top::.dat (.int .i64)::tp 20 []
def uo:List RS:=[]
def LD:List Sl:=tp 26 []
def KD:List RS:=[]
def ND:List Sl:=tp 4 (.dat .bool::tp 21 [])
def MD:List RS:=[]
def ie (K:XE→List AV→ia→Option Out):Lx (Unit) (Bool)→Option Out:=fun x=>onL x (fun a=>Ye LD KD () () (K (.exit 0))) (fun a=>Ye ND MD (a,()) () (K .ret)) (fun _=>none)
def oq (n:Nat) {R:Type} (a b:(Sq T2)) (k:Bool→Option R):Option R:=if ((a.n:Int) !=(b.n:Int))=true then k false else (zc n n a b (0:Int)).bind fun x_1=>onL x_1 (fun a_2=>k true) (fun a_3=>k a_3) (fun _=>none)
def Xm (n:Nat) (a b:(Sq T2)):Option Bool:=oq n a b some
theorem rW (n:Nat) {S:Type}:∀ a b (φ:_→Option S),(Xm n a b).bind φ=oq n a b φ:=by
  intros;unfold Xm oq;first | (simp only [fa,ba,iB,bB,oL,oX,nB,Option.bind_some]) | rfl
def xl (n:Nat):Hint Out:={ live:=fun c=>(cond (Nat.beq c 0) [(0,some (.sl K6)),(1,some (.sl K6)),(5,none)] []),run:=fun c=>(cond (Nat.beq c 0) (some (Zl vo uo fun σ ρ K=>(zc n n σ.1 σ.2.1 σ.2.2.1).bind (ie K))) none),xm:=fun c q=>(cond (Nat.beq c 0&&Nat.beq (q.getD 1000000) 0&&q.isSome) (some []) (cond (Nat.beq c 1&&q.isNone) (some [(4,none)]) none)) }
def wl (n:Nat) (K:XE→List AV→ia→Option Out) (m:Nat) (a1:(Sq T2)) (b1:(Sq T2)) (i:Int):Option Out:=rd tys (da Out (ro n)) (xl n) n (ta [1,1,0,1,0,0] (aa Tryz.f182)) 0 vo uo K m (a1,(b1,(i,()))) ()
theorem YA (n:Nat) (K:XE→List AV→ia→Option Out):∀ (m:Nat) a1 b1 i,wl n K m a1 b1 i=(zc n m a1 b1 i).bind (ie K)
  | 0,_,_,_=>by kernel_rfl
  | m+1,a1,b1,i=>by
    have h1:wl n K (m+1) a1 b1 i=Dh n a1 b1 i (wl n K m) (fun a=>ie K (.out a)) (fun a=>ie K (.ret a)) (fun p=>ie K (.pan p)):=by kernel_rfl
    have h2:wl n K m=fun a1 b1 i=>(zc n m a1 b1 i).bind (ie K):=by
      repeat (refine funext fun _=>?_)
      exact YA n K m _ _ _
    rw [h1,h2];exact (gP n m _ _ _ (ie K)).symm
theorem rM (n:Nat):Vc tys (da Out (ro n)) (xl n) n (ta [1,1,0,1,0,0] (aa Tryz.f182)) 0:=Ca (sp:=vo) (rp:=uo) (by kernel_rfl) fun K σ ρ=>YA n K n σ.1 σ.2.1 σ.2.2.1
theorem iP (n:Nat):qa tys (da Out (ro n)) (xl n) n (aa Tryz.f182) 0:=⟨trivial,⟨⟨trivial,⟨⟨trivial,trivial⟩,trivial⟩⟩,⟨⟨trivial,⟨rM n,⟨⟨trivial,⟨trivial,trivial⟩⟩,⟨⟨trivial,⟨⟨trivial,trivial⟩,trivial⟩⟩,trivial⟩⟩⟩⟩,⟨trivial,trivial⟩⟩⟩⟩
theorem wR (n:Nat):Enters Tryz.prog 182:=enters_of (c:=aa Tryz.f182) Tryz.func182 (by kernel_rfl) (by kernel_rfl)
def eF (n:Nat):Entry:=⟨182,pcT K28 (.one .bool) (fun xs=>Xm n xs.1 xs.2.1),none,none⟩
theorem eU (n:Nat):EntryOk Tryz.prog gl (eF n):=wa (wR n) fun xs y h=>ja tys_ok (dD n) mixed (hint:=xl n) (n:=n) Tryz.func182 (Ea (iP n)) (ma (φ:=(fun y=>some (Out.ret (Uc (.one .bool) y)))) (by kernel_rfl) (rW n xs.1 xs.2.1 _) h)
def vk (n:Nat):List Entry:=eF n::ro n
theorem tx (n:Nat):AllOk Tryz.prog gl (vk n):=.cons (eU n) (dD n)
def Ch (n:Nat) {R:Type} (a1 b1:(Sq Int)) (i:Int) (kn:(Sq Int)→(Sq Int)→Int→Option R) (ko:(Unit)→Option R) (kr:(Bool)→Option R) (kp:Int→Option R):Option R:=if (decide (i<(a1.n:Int)))=true then if 0≤i∧i<(a1.n:Int) then if 0≤i∧i<(b1.n:Int) then if ((a1.at' (Int.toNat i)) !=(b1.at' (Int.toNat i)))=true then kr false else kn a1 b1 (IntKind.wrap .i64 (i+(1:Int))) else none else none else ko ()
def yc (n:Nat):Nat→(Sq Int)→(Sq Int)→Int→Option (Lx (Unit) (Bool))
 | 0,_,_,_=>none
 | m+1,a1,b1,i=>Ch n a1 b1 i (yc n m) (fun a=>some (.out a)) (fun a=>some (.ret a)) (fun p=>some (.pan p))
theorem eP (n m:Nat) {S:Type}:∀ a1 b1 i (φ:_→Option S),(yc n (m+1) a1 b1 i).bind φ=Ch n a1 b1 i (fun a1 b1 i=>(yc n m a1 b1 i).bind φ) (fun a=>φ (.out a)) (fun a=>φ (.ret a)) (fun p=>φ (.pan p)):=by
  intros;first | (simp only [yc,Ch,fa,ba,iB,bB,oL,oX,nB,Option.bind_some]) | rfl
def oo:List Sl:=.dat (.sl (.int .i64))::.dat (.sl (.int .i64))::.top::.top::.top::.dat (.int .i64)::tp 20 []
def mo:List RS:=[]
def FD:List Sl:=tp 26 []
def ED:List RS:=[]
def JD:List Sl:=tp 4 (.dat .bool::tp 21 [])
def GD:List RS:=[]
def ge (K:XE→List AV→ia→Option Out):Lx (Unit) (Bool)→Option Out:=fun x=>onL x (fun a=>Ye FD ED () () (K (.exit 0))) (fun a=>Ye JD GD (a,()) () (K .ret)) (fun _=>none)
def nq (n:Nat) {R:Type} (a b:(Sq Int)) (k:Bool→Option R):Option R:=if ((a.n:Int) !=(b.n:Int))=true then k false else (yc n n a b (0:Int)).bind fun x_1=>onL x_1 (fun a_2=>k true) (fun a_3=>k a_3) (fun _=>none)
def Wm (n:Nat) (a b:(Sq Int)):Option Bool:=nq n a b some
theorem oW (n:Nat) {S:Type}:∀ a b (φ:_→Option S),(Wm n a b).bind φ=nq n a b φ:=by
  intros;unfold Wm nq;first | (simp only [fa,ba,iB,bB,oL,oX,nB,Option.bind_some]) | rfl
def rl (n:Nat):Hint Out:={ live:=fun c=>(cond (Nat.beq c 0) [(0,some (.sl (.int .i64))),(1,some (.sl (.int .i64))),(5,none)] []),run:=fun c=>(cond (Nat.beq c 0) (some (Zl oo mo fun σ ρ K=>(yc n n σ.1 σ.2.1 σ.2.2.1).bind (ge K))) none),xm:=fun c q=>(cond (Nat.beq c 0&&Nat.beq (q.getD 1000000) 0&&q.isSome) (some []) (cond (Nat.beq c 1&&q.isNone) (some [(4,none)]) none)) }
def ql (n:Nat) (K:XE→List AV→ia→Option Out) (m:Nat) (a1:(Sq Int)) (b1:(Sq Int)) (i:Int):Option Out:=rd tys (da Out (vk n)) (rl n) n (ta [1,1,0,1,0,0] (aa Tryz.f26)) 0 oo mo K m (a1,(b1,(i,()))) ()
theorem XA (n:Nat) (K:XE→List AV→ia→Option Out):∀ (m:Nat) a1 b1 i,ql n K m a1 b1 i=(yc n m a1 b1 i).bind (ge K)
  | 0,_,_,_=>by kernel_rfl
  | m+1,a1,b1,i=>by
    have h1:ql n K (m+1) a1 b1 i=Ch n a1 b1 i (ql n K m) (fun a=>ge K (.out a)) (fun a=>ge K (.ret a)) (fun p=>ge K (.pan p)):=by kernel_rfl
    have h2:ql n K m=fun a1 b1 i=>(yc n m a1 b1 i).bind (ge K):=by
      repeat (refine funext fun _=>?_)
      exact XA n K m _ _ _
    rw [h1,h2];exact (eP n m _ _ _ (ge K)).symm
theorem nM (n:Nat):Vc tys (da Out (vk n)) (rl n) n (ta [1,1,0,1,0,0] (aa Tryz.f26)) 0:=Ca (sp:=oo) (rp:=mo) (by kernel_rfl) fun K σ ρ=>XA n K n σ.1 σ.2.1 σ.2.2.1
theorem fP (n:Nat):qa tys (da Out (vk n)) (rl n) n (aa Tryz.f26) 0:=⟨trivial,⟨⟨trivial,⟨⟨trivial,trivial⟩,trivial⟩⟩,⟨⟨trivial,⟨nM n,⟨⟨trivial,⟨trivial,trivial⟩⟩,⟨⟨trivial,⟨⟨trivial,trivial⟩,trivial⟩⟩,trivial⟩⟩⟩⟩,⟨trivial,trivial⟩⟩⟩⟩
theorem uR (n:Nat):Enters Tryz.prog 26:=enters_of (c:=aa Tryz.f26) Tryz.func26 (by kernel_rfl) (by kernel_rfl)
def aF (n:Nat):Entry:=⟨26,pcT (.pair (.sl (.int .i64)) (.pair (.sl (.int .i64)) .unit)) (.one .bool) (fun xs=>Wm n xs.1 xs.2.1),none,none⟩
theorem aU (n:Nat):EntryOk Tryz.prog gl (aF n):=wa (uR n) fun xs y h=>ja tys_ok (tx n) mixed (hint:=rl n) (n:=n) Tryz.func26 (Ea (fP n)) (ma (φ:=(fun y=>some (Out.ret (Uc (.one .bool) y)))) (by kernel_rfl) (oW n xs.1 xs.2.1 _) h)
def bF (n:Nat):List Entry:=aF n::vk n
theorem oM (n:Nat):AllOk Tryz.prog gl (bF n):=.cons (aU n) (tx n)
theorem vJ:Tryz.prog.funcs[219]?=some Tryz.f219:=by kernel_rfl
theorem wJ:EntryOk Tryz.prog gl ⟨219,Ct,some (.flat tgb),none⟩:=Iab vJ (by kernel_rfl) (by kernel_rfl) (by kernel_rfl) (by kernel_rfl)
def Fm (n:Nat):List Entry:=⟨219,Ct,some (.flat tgb),none⟩::bF n
theorem dp (n:Nat):AllOk Tryz.prog gl (Fm n):=.cons wJ (oM n)
def px (n:Nat) {R:Type} (a b:Nat) (k:Bool→Option R):Option R:=if ((FloatKind.format .f64).order a a !=some .eq)=false then if ((FloatKind.format .f64).order b b !=some .eq)=true then if ((FloatKind.format .f64).order a a !=some .eq)=true then k ((FloatKind.format .f64).order b b !=some .eq) else k false else k (((a:Nat):Int)==((b:Nat):Int)) else if ((FloatKind.format .f64).order a a !=some .eq)=true then k ((FloatKind.format .f64).order b b !=some .eq) else k false
def ku (n:Nat) (a b:Nat):Option Bool:=px n a b some
theorem I4 (n:Nat) {S:Type}:∀ a b (φ:_→Option S),(ku n a b).bind φ=px n a b φ:=by
  intros;unfold ku px;first | (simp only [fa,ba,iB,bB,oL,oX,nB,Option.bind_some]) | rfl
def WE (n:Nat):Hint Out:={ live:=fun c=>[],run:=fun c=>none,xm:=fun c q=>none }
theorem XT (n:Nat):qa tys (da Out (Fm n)) (WE n) n (aa Tryz.f183) 0:=oa (fun _=>rfl) _ _ (by kernel_rfl)
theorem lW (n:Nat):Enters Tryz.prog 183:=enters_of (c:=aa Tryz.f183) Tryz.func183 (by kernel_rfl) (by kernel_rfl)
def lM (n:Nat):Entry:=⟨183,pcT (.pair (.flt .f64) (.pair (.flt .f64) .unit)) (.one .bool) (fun xs=>ku n xs.1 xs.2.1),none,none⟩
theorem jZ (n:Nat):EntryOk Tryz.prog gl (lM n):=wa (lW n) fun xs y h=>ja tys_ok (dp n) mixed (hint:=WE n) (n:=n) Tryz.func183 (Ea (XT n)) (ma (φ:=(fun y=>some (Out.ret (Uc (.one .bool) y)))) (by kernel_rfl) (I4 n xs.1 xs.2.1 _) h)
def WB (n:Nat):List Entry:=lM n::Fm n
theorem aD (n:Nat):AllOk Tryz.prog gl (WB n):=.cons (jZ n) (dp n)
def Gt (n:Nat) {R:Type} (a b:T3) (k:Bool→Option R):Option R:=(Xm n a.1 b.1).bind fun v=>if v=true then if (a.2.1.toList==b.2.1.toList)=true then if (a.2.2.1==b.2.2.1)=true then if (a.2.2.2.1==b.2.2.2.1)=true then (Wm n a.2.2.2.2.1 b.2.2.2.2.1).bind fun v1=>if v1=true then if (a.2.2.2.2.2.1==b.2.2.2.2.2.1)=true then if (a.2.2.2.2.2.2.1==b.2.2.2.2.2.2.1)=true then (ku n a.2.2.2.2.2.2.2.1 b.2.2.2.2.2.2.2.1).bind fun v2=>k v2 else k false else k false else k false else k false else k false else k false else k false
def Ci (n:Nat) (a b:T3):Option Bool:=Gt n a b some
theorem iZ (n:Nat) {S:Type}:∀ a b (φ:_→Option S),(Ci n a b).bind φ=Gt n a b φ:=by
  intros;unfold Ci Gt;first | (simp only [fa,ba,iB,bB,oL,oX,nB,Option.bind_some]) | rfl
def ZC (n:Nat):Hint Out:={ live:=fun c=>[],run:=fun c=>none,xm:=fun c q=>none }
theorem sR (n:Nat):qa tys (da Out (WB n)) (ZC n) n (aa Tryz.f142) 0:=oa (fun _=>rfl) _ _ (by kernel_rfl)
theorem WT (n:Nat):Enters Tryz.prog 142:=enters_of (c:=aa Tryz.f142) Tryz.func142 (by kernel_rfl) (by kernel_rfl)
def EI (n:Nat):Entry:=⟨142,pcT K29 (.one .bool) (fun xs=>Ci n xs.1 xs.2.1),none,none⟩
theorem kW (n:Nat):EntryOk Tryz.prog gl (EI n):=wa (WT n) fun xs y h=>ja tys_ok (aD n) mixed (hint:=ZC n) (n:=n) Tryz.func142 (Ea (sR n)) (ma (φ:=(fun y=>some (Out.ret (Uc (.one .bool) y)))) (by kernel_rfl) (iZ n xs.1 xs.2.1 _) h)
def jm (n:Nat):List Entry:=EI n::WB n
theorem VA (n:Nat):AllOk Tryz.prog gl (jm n):=.cons (kW n) (aD n)
end
end Go.Proofs.YtdhehcnfkcibiaaGreatDoor.AM
