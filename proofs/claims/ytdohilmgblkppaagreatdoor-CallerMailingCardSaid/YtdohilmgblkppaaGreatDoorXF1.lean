/- Typed functions that tell what the Go functions of this seat answer, and proofs of it, by program (gen.py). -/
import Derived.Test.YtdohilmgblkppaaGreatDoorXF0
set_option linter.all false
set_option linter.unusedVariables false
set_option linter.unusedSimpArgs false
set_option maxRecDepth 1000000
set_option maxHeartbeats 0
namespace Go.Proofs.YtdohilmgblkppaaGreatDoor.AM
open Go Go.RowKit
noncomputable section
def Ff (n:Nat) {R:Type} (s1 sep1:BA) (sepSave1 n01 i:Int) (a:(Sq BA)) (kn:BA→BA→Int→Int→Int→(Sq BA)→Option R) (ko:(BA×Int×(Sq BA))→Option R) (kr:Unit→Option R) (kp:Int→Option R):Option R:=if (decide (i<n01))=true then (Pk n s1 sep1).bind fun v1=>if (decide (v1<(0:Int)))=true then ko (s1,i,a) else if 0≤(IntKind.wrap .i64 (v1+sepSave1))∧(IntKind.wrap .i64 (v1+sepSave1))≤(s1.size:Int) then if 0≤i∧i<(a.n:Int) then if 0≤(IntKind.wrap .i64 (v1+(sep1.size:Int)))∧(IntKind.wrap .i64 (v1+(sep1.size:Int)))≤(s1.size:Int) then kn (s1.extract (Int.toNat (IntKind.wrap .i64 (v1+(sep1.size:Int)))) (Int.toNat (s1.size:Int))) sep1 sepSave1 n01 (IntKind.wrap .i64 (i+(1:Int))) (⟨a.n,fun q=>if q=(Int.toNat i)∧q<a.n then (s1.extract (Int.toNat (0:Int)) (Int.toNat (IntKind.wrap .i64 (v1+sepSave1)))) else a.at' q⟩:Sq BA) else none else none else none else ko (s1,i,a)
def ob (n:Nat):Nat→BA→BA→Int→Int→Int→(Sq BA)→Option (Lx (BA×Int×(Sq BA)) Unit)
 | 0,_,_,_,_,_,_=>none
 | m+1,s1,sep1,sepSave1,n01,i,a=>Ff n s1 sep1 sepSave1 n01 i a (ob n m) (fun a=>some (.out a)) (fun a=>some (.ret a)) (fun p=>some (.pan p))
theorem vO (n m:Nat) {S:Type}:∀ s1 sep1 sepSave1 n01 i a (φ:_→Option S),(ob n (m+1) s1 sep1 sepSave1 n01 i a).bind φ=Ff n s1 sep1 sepSave1 n01 i a (fun s1 sep1 sepSave1 n01 i a=>(ob n m s1 sep1 sepSave1 n01 i a).bind φ) (fun a=>φ (.out a)) (fun a=>φ (.ret a)) (fun p=>φ (.pan p)):=by
  intros;first | (simp only [ob,Ff,ja,aa,iB,bB,oL,oX,nB,Option.bind_some]) | rfl
def Vj:List Sl:=.dat .str::.dat .str::.dat (.int .i64)::.dat (.int .i64)::tp 5 (.row 0::.dat (.int .i64)::tp 55 [])
def Uj:List RS:=[.row 9 1 .str false false]
def jA:List Sl:=.dat .str::tp 8 (.row 0::.dat (.int .i64)::tp 55 [])
def iA:List RS:=[.row 9 1 .str false false]
def Gc (K:XE→List AV→oa→Option Out):Lx (BA×Int×(Sq BA)) Unit→Option Out:=fun x=>onL x (fun a=>tc jA iA (a.1,(a.2.1,())) (a.2.2,()) (K (.exit 0))) (fun _=>none) (fun _=>none)
def wn (n:Nat) {R:Type} (s sep:BA) (sepSave n0:Int) (k:(Sq BA)→Option R):Option R:=if (n0==(0:Int))=true then k (⟨0,fun _=>ta .str⟩:Sq BA) else if (sep.toList==(⟨#[]⟩:BA).toList)=true then none else if (decide (n0<(0:Int)))=true then (FB n s sep).bind fun v=>if 0≤(if (IntKind.wrap .i64 ((s.size:Int)+(1:Int)))<(IntKind.wrap .i64 (v+(1:Int))) then (IntKind.wrap .i64 ((s.size:Int)+(1:Int))) else (IntKind.wrap .i64 (v+(1:Int))))∧(if (IntKind.wrap .i64 ((s.size:Int)+(1:Int)))<(IntKind.wrap .i64 (v+(1:Int))) then (IntKind.wrap .i64 ((s.size:Int)+(1:Int))) else (IntKind.wrap .i64 (v+(1:Int))))≤(if (IntKind.wrap .i64 ((s.size:Int)+(1:Int)))<(IntKind.wrap .i64 (v+(1:Int))) then (IntKind.wrap .i64 ((s.size:Int)+(1:Int))) else (IntKind.wrap .i64 (v+(1:Int)))) then if wb (Int.toNat (if (IntKind.wrap .i64 ((s.size:Int)+(1:Int)))<(IntKind.wrap .i64 (v+(1:Int))) then (IntKind.wrap .i64 ((s.size:Int)+(1:Int))) else (IntKind.wrap .i64 (v+(1:Int))))) 16=true then (ob n n s sep sepSave (IntKind.wrap .i64 ((if (IntKind.wrap .i64 ((s.size:Int)+(1:Int)))<(IntKind.wrap .i64 (v+(1:Int))) then (IntKind.wrap .i64 ((s.size:Int)+(1:Int))) else (IntKind.wrap .i64 (v+(1:Int)))) - (1:Int))) (0:Int) (⟨(Int.toNat (if (IntKind.wrap .i64 ((s.size:Int)+(1:Int)))<(IntKind.wrap .i64 (v+(1:Int))) then (IntKind.wrap .i64 ((s.size:Int)+(1:Int))) else (IntKind.wrap .i64 (v+(1:Int))))),fun _=>(⟨#[]⟩:BA)⟩:Sq BA)).bind fun x_1=>onL x_1
 (fun a_2=>if 0≤a_2.2.1∧a_2.2.1<(a_2.2.2.n:Int) then if 0≤(IntKind.wrap .i64 (a_2.2.1+(1:Int)))∧(IntKind.wrap .i64 (a_2.2.1+(1:Int)))≤(a_2.2.2.n:Int) then k (⟨((Int.toNat (IntKind.wrap .i64 (a_2.2.1+(1:Int)))) - (Int.toNat (0:Int))),fun i=>(fun q=>if q=(Int.toNat a_2.2.1)∧q<a_2.2.2.n then a_2.1 else a_2.2.2.at' q) ((Int.toNat (0:Int))+i)⟩:Sq BA) else none else none) (fun _=>none) (fun _=>none) else none else none else if 0≤(if (IntKind.wrap .i64 ((s.size:Int)+(1:Int)))<n0 then (IntKind.wrap .i64 ((s.size:Int)+(1:Int))) else n0)∧(if (IntKind.wrap .i64 ((s.size:Int)+(1:Int)))<n0 then (IntKind.wrap .i64 ((s.size:Int)+(1:Int))) else n0)≤(if (IntKind.wrap .i64 ((s.size:Int)+(1:Int)))<n0 then (IntKind.wrap .i64 ((s.size:Int)+(1:Int))) else n0) then if wb (Int.toNat (if (IntKind.wrap .i64 ((s.size:Int)+(1:Int)))<n0 then (IntKind.wrap .i64 ((s.size:Int)+(1:Int))) else n0)) 16=true then (ob n n s sep sepSave (IntKind.wrap .i64 ((if (IntKind.wrap .i64 ((s.size:Int)+(1:Int)))<n0 then (IntKind.wrap .i64 ((s.size:Int)+(1:Int))) else n0) - (1:Int))) (0:Int) (⟨(Int.toNat (if (IntKind.wrap .i64 ((s.size:Int)+(1:Int)))<n0 then (IntKind.wrap .i64 ((s.size:Int)+(1:Int))) else n0)),fun _=>(⟨#[]⟩:BA)⟩:Sq BA)).bind fun x_3=>onL x_3 (fun a_4=>if 0≤a_4.2.1∧a_4.2.1<(a_4.2.2.n:Int) then if 0≤(IntKind.wrap .i64 (a_4.2.1+(1:Int)))∧(IntKind.wrap .i64 (a_4.2.1+(1:Int)))≤(a_4.2.2.n:Int) then
 k (⟨((Int.toNat (IntKind.wrap .i64 (a_4.2.1+(1:Int)))) - (Int.toNat (0:Int))),fun i=>(fun q=>if q=(Int.toNat a_4.2.1)∧q<a_4.2.2.n then a_4.1 else a_4.2.2.at' q) ((Int.toNat (0:Int))+i)⟩:Sq BA) else none else none) (fun _=>none) (fun _=>none) else none else none
def dp (n:Nat) (s sep:BA) (sepSave n0:Int):Option (Sq BA):=wn n s sep sepSave n0 some
theorem rY (n:Nat) {S:Type}:∀ s sep sepSave n0 (φ:_→Option S),(dp n s sep sepSave n0).bind φ=wn n s sep sepSave n0 φ:=by
  intros;unfold dp wn;first | (simp only [ja,aa,iB,bB,oL,oX,nB,Option.bind_some]) | rfl
def Kh (n:Nat):Hint Out:={ live:=fun c=>(cond (Nat.beq c 0) [(0,none),(1,none),(2,none),(3,none),(9,some (.sl .str)),(10,none)] []),run:=fun c=>(cond (Nat.beq c 0) (some (Zg Vj Uj fun σ ρ K=>(ob n n σ.1 σ.2.1 σ.2.2.1 σ.2.2.2.1 σ.2.2.2.2.1 ρ.1).bind (Gc K))) none),xm:=fun c q=>(cond (Nat.beq c 0&&Nat.beq (q.getD 1000000) 0&&q.isSome) (some [(0,none),(9,some (.sl .str)),(10,none)]) (cond (Nat.beq c 1&&Nat.beq (q.getD 1000000) 0&&q.isSome) (some [(0,none),(9,some (.sl .str)),(10,none)]) none)) }
def Jh (n:Nat) (K:XE→List AV→oa→Option Out) (m:Nat) (s1:BA) (sep1:BA) (sepSave1:Int) (n01:Int) (i:Int) (a:(Sq BA)):Option Out:=Nc tys (ia Out (Wo n)) (Kh n) n (wa [1,1,1,1,1,1,1,1,0,0,0] (fa Tryz.f164)) 0 Vj Uj K m (s1,(sep1,(sepSave1,(n01,(i,()))))) (a,())
theorem Ow (n:Nat) (K:XE→List AV→oa→Option Out):∀ (m:Nat) s1 sep1 sepSave1 n01 i a,Jh n K m s1 sep1 sepSave1 n01 i a=(ob n m s1 sep1 sepSave1 n01 i a).bind (Gc K)
  | 0,_,_,_,_,_,_=>by kernel_rfl
  | m+1,s1,sep1,sepSave1,n01,i,a=>by
    have h1:Jh n K (m+1) s1 sep1 sepSave1 n01 i a=Ff n s1 sep1 sepSave1 n01 i a (Jh n K m) (fun a=>Gc K (.out a)) (fun a=>Gc K (.ret a)) (fun p=>Gc K (.pan p)):=by kernel_rfl
    have h2:Jh n K m=fun s1 sep1 sepSave1 n01 i a=>(ob n m s1 sep1 sepSave1 n01 i a).bind (Gc K):=by
      repeat (refine funext fun _=>?_)
      exact Ow n K m _ _ _ _ _ _
    rw [h1,h2];exact (vO n m _ _ _ _ _ _ (Gc K)).symm
theorem HL (n:Nat):Bc tys (ia Out (Wo n)) (Kh n) n (wa [1,1,1,1,1,1,1,1,0,0,0] (fa Tryz.f164)) 0:=Ea (sp:=Vj) (rp:=Uj) (by kernel_rfl) fun K σ ρ=>Ow n K n σ.1 σ.2.1 σ.2.2.1 σ.2.2.2.1 σ.2.2.2.2.1 ρ.1
theorem wO (n:Nat):qa tys (ia Out (Wo n)) (Kh n) n (fa Tryz.f164) 0:=⟨trivial,⟨⟨trivial,⟨⟨trivial,trivial⟩,trivial⟩⟩,⟨⟨trivial,⟨⟨trivial,trivial⟩,trivial⟩⟩,⟨⟨trivial,⟨trivial,trivial⟩⟩,⟨trivial,⟨trivial,⟨trivial,⟨trivial,⟨⟨HL n,⟨⟨trivial,⟨trivial,trivial⟩⟩,⟨trivial,⟨⟨trivial,⟨trivial,trivial⟩⟩,⟨trivial,⟨trivial,trivial⟩⟩⟩⟩⟩⟩,⟨trivial,⟨trivial,trivial⟩⟩⟩⟩⟩⟩⟩⟩⟩⟩⟩
theorem rS (n:Nat):Enters Tryz.prog 164:=enters_of (c:=fa Tryz.f164) Tryz.func164 (by kernel_rfl) (by kernel_rfl)
def ND (n:Nat):Entry:=⟨164,pcT K7 (.one (.sl .str)) (fun xs=>dp n xs.1 xs.2.1 xs.2.2.1 xs.2.2.2.1),none,none⟩
theorem LU (n:Nat):EntryOk Tryz.prog gl (ND n):=za (rS n) fun xs y h=>na tys_ok (LD n) mixed (hint:=Kh n) (n:=n) Tryz.func164 (Aa (wO n)) (la (φ:=(fun y=>some (Out.ret (qb (.one (.sl .str)) y)))) (by kernel_rfl) (rY n xs.1 xs.2.1 xs.2.2.1 xs.2.2.2.1 _) h)
def Ms (n:Nat):List Entry:=ND n::Wo n
theorem qu (n:Nat):AllOk Tryz.prog gl (Ms n):=.cons (LU n) (LD n)
def KB (n:Nat) {R:Type} (s sep:BA) (k:(Sq BA)→Option R):Option R:=(dp n s sep (0:Int) (-1:Int)).bind fun v=>k v
def JB (n:Nat) (s sep:BA):Option (Sq BA):=KB n s sep some
theorem Ybb (n:Nat) {S:Type}:∀ s sep (φ:_→Option S),(JB n s sep).bind φ=KB n s sep φ:=by
  intros;unfold JB KB;first | (simp only [ja,aa,iB,bB,oL,oX,nB,Option.bind_some]) | rfl
def CJ (n:Nat):Hint Out:={ live:=fun c=>[],run:=fun c=>none,xm:=fun c q=>none }
theorem qY (n:Nat):qa tys (ia Out (Ms n)) (CJ n) n (fa Tryz.f142) 0:=ma (fun _=>rfl) _ _ (by kernel_rfl)
theorem I3 (n:Nat):Enters Tryz.prog 142:=enters_of (c:=fa Tryz.f142) Tryz.func142 (by kernel_rfl) (by kernel_rfl)
def oS (n:Nat):Entry:=⟨142,pcT (.pair .str (.pair .str .unit)) (.one (.sl .str)) (fun xs=>JB n xs.1 xs.2.1),none,none⟩
theorem N7 (n:Nat):EntryOk Tryz.prog gl (oS n):=za (I3 n) fun xs y h=>na tys_ok (qu n) mixed (hint:=CJ n) (n:=n) Tryz.func142 (Aa (qY n)) (la (φ:=(fun y=>some (Out.ret (qb (.one (.sl .str)) y)))) (by kernel_rfl) (Ybb n xs.1 xs.2.1 _) h)
def pS (n:Nat):List Entry:=oS n::Ms n
theorem KU (n:Nat):AllOk Tryz.prog gl (pS n):=.cons (N7 n) (qu n)
def kA (n:Nat):List Entry:=⟨143,fun {R}=>deb (R:=R) 196,none,none⟩::pS n
theorem EJ (n:Nat):AllOk Tryz.prog gl (kA n):=.cons dib (KU n)
def Bg (n:Nat):List Entry:=⟨82,pcT (.pair (.int .i64) .unit) (.one .str) (fun xs=>Edb xs.1),none,none⟩::kA n
theorem Vq (n:Nat):AllOk Tryz.prog gl (Bg n):=.cons Fib (EJ n)
def Jg (n:Nat) {R:Type} (l t10:(Sq BA)) (t11 t12:Int) (kn:(Sq BA)→(Sq BA)→Int→Int→Option R) (ko:((Sq BA))→Option R) (kr:(Bool)→Option R) (kp:Int→Option R):Option R:=if (decide (t12<t11))=true then if 0≤t12∧t12<(t10.n:Int) then (Mfb (t10.at' (Int.toNat t12))).bind fun v1=>if v1.2=true then if (decide (v1.1<(0:Int)))=false then if (decide (v1.1>(255:Int)))=false then (Edb v1.1).bind fun v2=>if (!(v2.toList==(t10.at' (Int.toNat t12)).toList))=true then kr false else kn l t10 t11 (IntKind.wrap .i64 (t12+(1:Int))) else kr false else kr false else kr false else none else ko l
def Nb (n:Nat):Nat→(Sq BA)→(Sq BA)→Int→Int→Option (Lx ((Sq BA)) (Bool))
 | 0,_,_,_,_=>none
 | m+1,l,t10,t11,t12=>Jg n l t10 t11 t12 (Nb n m) (fun a=>some (.out a)) (fun a=>some (.ret a)) (fun p=>some (.pan p))
theorem FP (n m:Nat) {S:Type}:∀ l t10 t11 t12 (φ:_→Option S),(Nb n (m+1) l t10 t11 t12).bind φ=Jg n l t10 t11 t12 (fun l t10 t11 t12=>(Nb n m l t10 t11 t12).bind φ) (fun a=>φ (.out a)) (fun a=>φ (.ret a)) (fun p=>φ (.pan p)):=by
  intros;first | (simp only [Nb,Jg,ja,aa,iB,bB,oL,oX,nB,Option.bind_some]) | rfl
def Al:List Sl:=.top::.top::.top::.dat (.sl .str)::tp 6 (.dat (.sl .str)::.dat (.int .i64)::.dat (.int .i64)::tp 28 [])
def zl:List RS:=[]
def QB:List Sl:=.top::.top::.top::.dat (.sl .str)::tp 37 []
def PB:List RS:=[]
def SB:List Sl:=.top::.top::.dat .bool::tp 38 []
def RB:List RS:=[]
def Vc (K:XE→List AV→oa→Option Out):Lx ((Sq BA)) (Bool)→Option Out:=fun x=>onL x (fun a=>tc QB PB (a,()) () (K (.exit 0))) (fun a=>tc SB RB (a,()) () (K .ret)) (fun _=>none)
def Hp (n:Nat) {R:Type} (s:BA) (k:Bool→Option R):Option R:=(JB n s (⟨#[46]⟩:BA)).bind fun v=>(Nb n n v v (v.n:Int) (0:Int)).bind fun x_1=>onL x_1 (fun a_2=>k ((a_2.n:Int)==(4:Int))) (fun a_3=>k a_3) (fun _=>none)
def yj (n:Nat) (s:BA):Option Bool:=Hp n s some
theorem eZ (n:Nat) {S:Type}:∀ s (φ:_→Option S),(yj n s).bind φ=Hp n s φ:=by
  intros;unfold yj Hp;first | (simp only [ja,aa,iB,bB,oL,oX,nB,Option.bind_some]) | rfl
def Ci (n:Nat):Hint Out:={ live:=fun c=>(cond (Nat.beq c 0) [(3,some (.sl .str)),(10,some (.sl .str)),(11,none),(12,none)] []),run:=fun c=>(cond (Nat.beq c 0) (some (Zg Al zl fun σ ρ K=>(Nb n n σ.1 σ.2.1 σ.2.2.1 σ.2.2.2.1).bind (Vc K))) none),xm:=fun c q=>(cond (Nat.beq c 0&&Nat.beq (q.getD 1000000) 0&&q.isSome) (some [(3,some (.sl .str))]) (cond (Nat.beq c 1&&q.isNone) (some [(2,none)]) none)) }
def Bi (n:Nat) (K:XE→List AV→oa→Option Out) (m:Nat) (l:(Sq BA)) (t10:(Sq BA)) (t11:Int) (t12:Int):Option Out:=Nc tys (ia Out (Bg n)) (Ci n) n (wa [1,1,0,1,0,0] (fa Tryz.f120)) 0 Al zl K m (l,(t10,(t11,(t12,())))) ()
theorem Ux (n:Nat) (K:XE→List AV→oa→Option Out):∀ (m:Nat) l t10 t11 t12,Bi n K m l t10 t11 t12=(Nb n m l t10 t11 t12).bind (Vc K)
  | 0,_,_,_,_=>by kernel_rfl
  | m+1,l,t10,t11,t12=>by
    have h1:Bi n K (m+1) l t10 t11 t12=Jg n l t10 t11 t12 (Bi n K m) (fun a=>Vc K (.out a)) (fun a=>Vc K (.ret a)) (fun p=>Vc K (.pan p)):=by kernel_rfl
    have h2:Bi n K m=fun l t10 t11 t12=>(Nb n m l t10 t11 t12).bind (Vc K):=by
      repeat (refine funext fun _=>?_)
      exact Ux n K m _ _ _ _
    rw [h1,h2];exact (FP n m _ _ _ _ (Vc K)).symm
theorem xN (n:Nat):Bc tys (ia Out (Bg n)) (Ci n) n (wa [1,1,0,1,0,0] (fa Tryz.f120)) 0:=Ea (sp:=Al) (rp:=zl) (by kernel_rfl) fun K σ ρ=>Ux n K n σ.1 σ.2.1 σ.2.2.1 σ.2.2.2.1
theorem GP (n:Nat):qa tys (ia Out (Bg n)) (Ci n) n (fa Tryz.f120) 0:=⟨trivial,⟨trivial,⟨⟨trivial,⟨xN n,⟨trivial,⟨⟨trivial,trivial⟩,⟨⟨trivial,⟨trivial,⟨trivial,⟨⟨trivial,trivial⟩,trivial⟩⟩⟩⟩,trivial⟩⟩⟩⟩⟩,⟨trivial,trivial⟩⟩⟩⟩
theorem iT (n:Nat):Enters Tryz.prog 120:=enters_of (c:=fa Tryz.f120) Tryz.func120 (by kernel_rfl) (by kernel_rfl)
def HG (n:Nat):Entry:=⟨120,pcT (.pair .str .unit) (.one .bool) (fun xs=>yj n xs.1),none,none⟩
theorem IG (n:Nat):EntryOk Tryz.prog gl (HG n):=za (iT n) fun xs y h=>na tys_ok (Vq n) mixed (hint:=Ci n) (n:=n) Tryz.func120 (Aa (GP n)) (la (φ:=(fun y=>some (Out.ret (qb (.one .bool) y)))) (by kernel_rfl) (eZ n xs.1 _) h)
def Lu (n:Nat):List Entry:=HG n::Bg n
theorem uw (n:Nat):AllOk Tryz.prog gl (Lu n):=.cons (IG n) (Vq n)
def VG (n:Nat) {R:Type} (c:Int) (k:Bool→Option R):Option R:=if (decide (c≥(97:Int)))=true then if (decide (c≤(122:Int)))=false then if (decide (c≥(48:Int)))=true then k (decide (c≤(57:Int))) else k false else k true else if (decide (c≥(48:Int)))=true then k (decide (c≤(57:Int))) else k false
def aE (n:Nat) (c:Int):Option Bool:=VG n c some
theorem Qcb (n:Nat) {S:Type}:∀ c (φ:_→Option S),(aE n c).bind φ=VG n c φ:=by
  intros;unfold aE VG;first | (simp only [ja,aa,iB,bB,oL,oX,nB,Option.bind_some]) | rfl
def sM (n:Nat):Hint Out:={ live:=fun c=>[],run:=fun c=>none,xm:=fun c q=>none }
theorem mZ (n:Nat):qa tys (ia Out (Lu n)) (sM n) n (fa Tryz.f145) 0:=ma (fun _=>rfl) _ _ (by kernel_rfl)
theorem E5 (n:Nat):Enters Tryz.prog 145:=enters_of (c:=fa Tryz.f145) Tryz.func145 (by kernel_rfl) (by kernel_rfl)
def aV (n:Nat):Entry:=⟨145,pcT (.pair (.int .u8) .unit) (.one .bool) (fun xs=>aE n xs.1),none,none⟩
theorem Lab (n:Nat):EntryOk Tryz.prog gl (aV n):=za (E5 n) fun xs y h=>na tys_ok (uw n) mixed (hint:=sM n) (n:=n) Tryz.func145 (Aa (mZ n)) (la (φ:=(fun y=>some (Out.ret (qb (.one .bool) y)))) (by kernel_rfl) (Qcb n xs.1 _) h)
def Ys (n:Nat):List Entry:=aV n::Lu n
theorem WG (n:Nat):AllOk Tryz.prog gl (Ys n):=.cons (Lab n) (uw n)
def xj (n:Nat) {R:Type} (s1:BA) (t5 t6:Int) (kn:BA→Int→Int→Option R) (ko:(BA)→Option R) (kr:(Bool)→Option R) (kp:Int→Option R):Option R:=if (decide (t6<t5))=true then if 0≤t6∧t6<(s1.size:Int) then (aE n (bt s1 t6)).bind fun v=>if (!v)=true then if 0≤t6∧t6<(s1.size:Int) then if ((bt s1 t6) !=(45:Int))=false then if (t6==(0:Int))=false then if (t6==(IntKind.wrap .i64 ((s1.size:Int) - (1:Int))))=true then kr false else kn s1 t5 (IntKind.wrap .i64 (t6+(1:Int))) else kr false else kr false else none else kn s1 t5 (IntKind.wrap .i64 (t6+(1:Int))) else none else ko s1
def Uc (n:Nat):Nat→BA→Int→Int→Option (Lx (BA) (Bool))
 | 0,_,_,_=>none
 | m+1,s1,t5,t6=>xj n s1 t5 t6 (Uc n m) (fun a=>some (.out a)) (fun a=>some (.ret a)) (fun p=>some (.pan p))
theorem kW (n m:Nat) {S:Type}:∀ s1 t5 t6 (φ:_→Option S),(Uc n (m+1) s1 t5 t6).bind φ=xj n s1 t5 t6 (fun s1 t5 t6=>(Uc n m s1 t5 t6).bind φ) (fun a=>φ (.out a)) (fun a=>φ (.ret a)) (fun p=>φ (.pan p)):=by
  intros;first | (simp only [Uc,xj,ja,aa,iB,bB,oL,oX,nB,Option.bind_some]) | rfl
def tr:List Sl:=.dat .str::tp 4 (.dat (.int .i64)::.dat (.int .i64)::tp 33 [])
def sr:List RS:=[]
def DG:List Sl:=.dat .str::tp 39 []
def CG:List RS:=[]
def GG:List Sl:=.top::.top::.dat .bool::tp 37 []
def EG:List RS:=[]
def Ie (K:XE→List AV→oa→Option Out):Lx (BA) (Bool)→Option Out:=fun x=>onL x (fun a=>tc DG CG (a,()) () (K (.exit 0))) (fun a=>tc GG EG (a,()) () (K .ret)) (fun _=>none)
def LA (n:Nat) {R:Type} (s:BA) (k:Bool→Option R):Option R:=(Uc n n s (s.size:Int) (0:Int)).bind fun x_1=>onL x_1 (fun a_2=>if (decide ((a_2.size:Int)≥(1:Int)))=true then k (decide ((a_2.size:Int)≤(63:Int))) else k false) (fun a_3=>k a_3) (fun _=>none)
def Gp (n:Nat) (s:BA):Option Bool:=LA n s some
theorem Gab (n:Nat) {S:Type}:∀ s (φ:_→Option S),(Gp n s).bind φ=LA n s φ:=by
  intros;unfold Gp LA;first | (simp only [ja,aa,iB,bB,oL,oX,nB,Option.bind_some]) | rfl
def vm (n:Nat):Hint Out:={ live:=fun c=>(cond (Nat.beq c 0) (lv [0,5,6]) []),run:=fun c=>(cond (Nat.beq c 0) (some (Zg tr sr fun σ ρ K=>(Uc n n σ.1 σ.2.1 σ.2.2.1).bind (Ie K))) none),xm:=fun c q=>(cond (Nat.beq c 0&&Nat.beq (q.getD 1000000) 0&&q.isSome) (some [(0,none)]) (cond (Nat.beq c 1&&q.isNone) (some [(2,none)]) none)) }
def um (n:Nat) (K:XE→List AV→oa→Option Out) (m:Nat) (s1:BA) (t5:Int) (t6:Int):Option Out:=Nc tys (ia Out (Ys n)) (vm n) n (wa [1,0,1,0,0] (fa Tryz.f122)) 0 tr sr K m (s1,(t5,(t6,()))) ()
theorem BG (n:Nat) (K:XE→List AV→oa→Option Out):∀ (m:Nat) s1 t5 t6,um n K m s1 t5 t6=(Uc n m s1 t5 t6).bind (Ie K)
  | 0,_,_,_=>by kernel_rfl
  | m+1,s1,t5,t6=>by
    have h1:um n K (m+1) s1 t5 t6=xj n s1 t5 t6 (um n K m) (fun a=>Ie K (.out a)) (fun a=>Ie K (.ret a)) (fun p=>Ie K (.pan p)):=by kernel_rfl
    have h2:um n K m=fun s1 t5 t6=>(Uc n m s1 t5 t6).bind (Ie K):=by
      repeat (refine funext fun _=>?_)
      exact BG n K m _ _ _
    rw [h1,h2];exact (kW n m _ _ _ (Ie K)).symm
theorem fT (n:Nat):Bc tys (ia Out (Ys n)) (vm n) n (wa [1,0,1,0,0] (fa Tryz.f122)) 0:=Ea (sp:=tr) (rp:=sr) (by kernel_rfl) fun K σ ρ=>BG n K n σ.1 σ.2.1 σ.2.2.1
theorem lW (n:Nat):qa tys (ia Out (Ys n)) (vm n) n (fa Tryz.f122) 0:=⟨trivial,⟨⟨trivial,⟨fT n,⟨trivial,⟨⟨trivial,trivial⟩,⟨⟨trivial,⟨trivial,⟨⟨trivial,trivial⟩,trivial⟩⟩⟩,trivial⟩⟩⟩⟩⟩,⟨trivial,trivial⟩⟩⟩
theorem dZ (n:Nat):Enters Tryz.prog 122:=enters_of (c:=fa Tryz.f122) Tryz.func122 (by kernel_rfl) (by kernel_rfl)
def CP (n:Nat):Entry:=⟨122,pcT (.pair .str .unit) (.one .bool) (fun xs=>Gp n xs.1),none,none⟩
theorem EP (n:Nat):EntryOk Tryz.prog gl (CP n):=za (dZ n) fun xs y h=>na tys_ok (WG n) mixed (hint:=vm n) (n:=n) Tryz.func122 (Aa (lW n)) (la (φ:=(fun y=>some (Out.ret (qb (.one .bool) y)))) (by kernel_rfl) (Gab n xs.1 _) h)
def DP (n:Nat):List Entry:=CP n::Ys n
theorem gT (n:Nat):AllOk Tryz.prog gl (DP n):=.cons (EP n) (WG n)
def Tc (n:Nat) (s:BA):Option Bool:=(Ae n s).bind fun b=>if b=true then (Ge n s ⟨#[93]⟩).bind fun c=>if c=true then (if 2≤(s.size:Int)∧(s.size:Int)≤9223372036854775807 then yj n (s.extract 1 (s.size - 1)) else none) else some false else Dom.domT (fun x=>Pk n x Dom.dot) (Gp n) n s
theorem bT:Tryz.prog.funcs[90]?=some Tryz.f90:=by kernel_rfl
theorem cT (n:Nat):EntryOk Tryz.prog gl ⟨90,pcT (.pair .str .unit) (.one .bool) (fun xs=>Tc n xs.1),none,none⟩:=za (enters_of (c:=fa Tryz.f90) bT (by kernel_rfl) (by kernel_rfl)) fun xs y h=>by
  refine VO (args:=[.string xs.1]) (v:=.bool y) (fun w0 hg hn=>?_)
  have hlit:∀ b,Ae n xs.1=some b→∀ (w:World),Below w0.heap.size w0 w→Calls Tryz.prog 118 #[.string xs.1] w fun e w'=>e=.returned (.bool b)∧Below w.heap.size w w':=fun b hb' w hb=>
    rH (Qx n) (args:=[.string xs.1]) (v:=.bool b) (by show (Ae n xs.1).bind _=_;rw [hb'];rfl) hg hn hb
  have hsuf:∀ b,Ge n xs.1 ⟨#[93]⟩=some b→∀ (w:World),Below w0.heap.size w0 w→Calls Tryz.prog 119 #[.string xs.1,.string ⟨#[93]⟩] w fun e w'=>e=.returned (.bool b)∧Below w.heap.size w w':=fun b hb' w hb=>
    rH (eA n) (args:=[.string xs.1,.string ⟨#[93]⟩]) (v:=.bool b) (by show (Ge n xs.1 ⟨#[93]⟩).bind _=_;rw [hb'];rfl) hg hn hb
  unfold Tc at h
  obtain ⟨b,hb,h⟩:=Option.bind_eq_some_iff.1 h
  cases b with
  | true=>
    rw [if_pos rfl] at h
    obtain ⟨c,hc,h⟩:=Option.bind_eq_some_iff.1 h
    refine Dom.dom2 xs.1 c y w0 (hlit true hb) (hsuf c hc) (fun hc'=>?_) (fun hc'=>?_)
    · rw [if_pos hc'] at h
      split at h
      · rename_i hsz
        exact ⟨hsz,fun w hbw=>rH (IG n) (args:=[.string (xs.1.extract 1 (xs.1.size - 1))]) (v:=.bool y) (by show (yj n (xs.1.extract 1 (xs.1.size - 1))).bind _=_;rw [h];rfl) hg hn hbw⟩
      · cases h
    · rw [if_neg (by rw [hc'];simp)] at h
      exact (Option.some.inj h).symm
  | false=>
    rw [if_neg (by simp)] at h
    exact Dom.dom1 _ _ n xs.1 y w0 (fun x i w hbw hx=>rH (nS n) (args:=[.string x,.string Dom.dot]) (v:=.int .i64 i) (by show (Pk n x Dom.dot).bind _=_;rw [hx];rfl) hg hn hbw)
      (fun x i w hbw hx=>rH (EP n) (args:=[.string x]) (v:=.bool i) (by show (Gp n x).bind _=_;rw [hx];rfl) hg hn hbw) (hlit false hb) h
def rr (n:Nat):List Entry:=⟨90,pcT (.pair .str .unit) (.one .bool) (fun xs=>Tc n xs.1),none,none⟩::DP n
theorem Vs (n:Nat):AllOk Tryz.prog gl (rr n):=.cons (cT n) (gT n)
def ct (n:Nat) {R:Type} (s:BA) (k:Bool→Option R):Option R:=if (decide ((s.size:Int)≤(200:Int)))=true then (Tc n s).bind fun v=>k v else k false
def fe (n:Nat) (s:BA):Option Bool:=ct n s some
theorem Xcb (n:Nat) {S:Type}:∀ s (φ:_→Option S),(fe n s).bind φ=ct n s φ:=by
  intros;unfold fe ct;first | (simp only [ja,aa,iB,bB,oL,oX,nB,Option.bind_some]) | rfl
def DM (n:Nat):Hint Out:={ live:=fun c=>[],run:=fun c=>none,xm:=fun c q=>none }
theorem FZ (n:Nat):qa tys (ia Out (rr n)) (DM n) n (fa Tryz.f65) 0:=ma (fun _=>rfl) _ _ (by kernel_rfl)
theorem R5 (n:Nat):Enters Tryz.prog 65:=enters_of (c:=fa Tryz.f65) Tryz.func65 (by kernel_rfl) (by kernel_rfl)
def iV (n:Nat):Entry:=⟨65,pcT (.pair .str .unit) (.one .bool) (fun xs=>fe n xs.1),none,none⟩
theorem Vab (n:Nat):EntryOk Tryz.prog gl (iV n):=za (R5 n) fun xs y h=>na tys_ok (Vs n) mixed (hint:=DM n) (n:=n) Tryz.func65 (Aa (FZ n)) (la (φ:=(fun y=>some (Out.ret (qb (.one .bool) y)))) (by kernel_rfl) (Xcb n xs.1 _) h)
def vK (n:Nat):List Entry:=iV n::rr n
theorem kH (n:Nat):AllOk Tryz.prog gl (vK n):=.cons (Vab n) (Vs n)
def TO (n:Nat) {R:Type} (m0:U0) (k:BA→Option R):Option R:=if Ag m0.1 (⟨#[64]⟩:BA)=true then if Ag (m0.1++(⟨#[64]⟩:BA)) m0.2.1=true then k ((m0.1++(⟨#[64]⟩:BA))++m0.2.1) else none else none
def UU (n:Nat) (m0:U0):Option BA:=TO n m0 some
theorem Kfb (n:Nat) {S:Type}:∀ m0 (φ:_→Option S),(UU n m0).bind φ=TO n m0 φ:=by
  intros;unfold UU TO;first | (simp only [ja,aa,iB,bB,oL,oX,nB,Option.bind_some]) | rfl
def zP (n:Nat):Hint Out:={ live:=fun c=>[],run:=fun c=>none,xm:=fun c q=>none }
theorem o5 (n:Nat):qa tys (ia Out (vK n)) (zP n) n (fa Tryz.f124) 0:=ma (fun _=>rfl) _ _ (by kernel_rfl)
theorem Aab (n:Nat):Enters Tryz.prog 124:=enters_of (c:=fa Tryz.f124) Tryz.func124 (by kernel_rfl) (by kernel_rfl)
def YY (n:Nat):Entry:=⟨124,pcT (.pair (.pair .str (.pair .str .unit)) .unit) (.one .str) (fun xs=>UU n xs.1),none,none⟩
theorem Mcb (n:Nat):EntryOk Tryz.prog gl (YY n):=za (Aab n) fun xs y h=>na tys_ok (kH n) mixed (hint:=zP n) (n:=n) Tryz.func124 (Aa (o5 n)) (la (φ:=(fun y=>some (Out.ret (qb (.one .str) y)))) (by kernel_rfl) (Kfb n xs.1 _) h)
def yP (n:Nat):List Entry:=YY n::vK n
theorem Rx (n:Nat):AllOk Tryz.prog gl (yP n):=.cons (Mcb n) (kH n)
def KG (n:Nat) {R:Type} (ok:Bool) (k:(Unit)→Option R) (kp:Int→Option R):Option R:=if (!ok)=true then kp (8:Int) else k ()
def Cb (n:Nat) (ok:Bool):Option (Except Int (Unit)):=KG n ok (fun y=>some (.ok y)) (fun p=>some (.error p))
theorem gZ (n:Nat) {S:Type}:∀ ok (φ:_→Option S),(Cb n ok).bind φ=KG n ok (fun y=>φ (.ok y)) (fun p=>φ (.error p)):=by
  intros;unfold Cb KG;first | (simp only [ja,aa,iB,bB,oL,oX,nB,Option.bind_some]) | rfl
def Vx (n:Nat):Hint Out:={ live:=fun c=>[],run:=fun c=>none,xm:=fun c q=>none }
theorem pM (n:Nat):qa tys (ia Out (yP n)) (Vx n) n (fa Tryz.f170) 0:=ma (fun _=>rfl) _ _ (by kernel_rfl)
theorem A5 (n:Nat):Enters Tryz.prog 170:=enters_of (c:=fa Tryz.f170) Tryz.func170 (by kernel_rfl) (by kernel_rfl)
def YU (n:Nat):Entry:=⟨170,pcX 174 (.pair .bool .unit) (.many .unit) (fun xs=>Cb n xs.1),none,none⟩
theorem Hab (n:Nat):EntryOk Tryz.prog gl (YU n):=DH (A5 n) (fun xs y h=>na tys_ok (Rx n) mixed (hint:=Vx n) (n:=n) Tryz.func170 (Aa (pM n)) (la (φ:=(fun r=>onX r (fun p=>some (Out.pan (ph 174 p))) fun y=>some (Out.ret (qb (.many .unit) y)))) (by kernel_rfl) (gZ n xs.1 _) h)) (fun xs p h=>na tys_ok (Rx n) mixed (hint:=Vx n) (n:=n) Tryz.func170 (Aa (pM n)) (la (φ:=(fun r=>onX r (fun p=>some (Out.pan (ph 174 p))) fun y=>some (Out.ret (qb (.many .unit) y)))) (by kernel_rfl) (gZ n xs.1 _) h))
def nK (n:Nat):List Entry:=YU n::yP n
theorem LG (n:Nat):AllOk Tryz.prog gl (nK n):=.cons (Hab n) (Rx n)
def Kk (n:Nat) {R:Type} (k:(BA×Unit)→Option R):Option R:=if ((0:Nat):Int)=0 then k ((⟨#[]⟩:BA),()) else none
def zi (n:Nat):Option (BA×Unit):=Kk n some
theorem EU (n:Nat) {S:Type}:∀ (φ:_→Option S),(zi n).bind φ=Kk n φ:=by
  intros;unfold zi Kk;first | (simp only [ja,aa,iB,bB,oL,oX,nB,Option.bind_some]) | rfl
def gu (n:Nat):Hint OutS:={ live:=fun c=>[],run:=fun c=>none,xm:=fun c q=>none,sch:=fun c=>(cond (Nat.beq c 1) (some [(0,0),(1,0),(2,0),(5,0),(6,0),(7,0),(3,1),(8,1),(9,0),(4,3),(10,2),(11,0)]) none) }
theorem uL (n:Nat):qa tys (ia OutS (nK n)) (gu n) n (fa Tryz.f83) 0:=ma (fun _=>rfl) _ _ (by kernel_rfl)
theorem gO (n:Nat):Enters Tryz.prog 83:=enters_of (c:=fa Tryz.f83) Tryz.func83 (by kernel_rfl) (by kernel_rfl)
def Tz:List RSp:=[.one (.ptr 0 0 0)]
def Sz:List RS:=[.box 108 2 true [.cn .nilp,.cn .nils]]
def iO:List Sl:=[.ptr 0 0 0]
def jO:List RSp:=[.one (.dat .str)]
def Gh:List RS:=[.box 108 2 true [.cn .nilp,.cn .nils]]
def Gs (y:(BA×Unit)):OutS:=⟨false,bo (Sc Gh ((),())) iO (),fG (WC (Sc Gh ((),())) jO ((y.1,()),())),Fu (Sc Gh ((),())) Gh ((),())⟩
theorem UR (n:Nat):EntryOk Tryz.prog gl ⟨83,Sf,none,some (csT Tz Sz (fun σ ρ=>zi n) Gs)⟩:=Be (gO n) fun σ ρ y h=>Hb tys_ok (LG n) mixed (hint:=gu n) (n:=n) Tryz.func83 (Aa (uL n)) (la (φ:=fun y=>some (Gs y)) (by kernel_rfl) (EU n _) h)
def Rz (n:Nat):List Entry:=⟨83,Sf,none,some (csT Tz Sz (fun σ ρ=>zi n) Gs)⟩::nK n
theorem oJ (n:Nat):AllOk Tryz.prog gl (Rz n):=.cons (UR n) (LG n)
theorem vt:Tryz.prog.funcs[137]?=some Tryz.f137:=by kernel_rfl
theorem wt:EntryOk Tryz.prog gl ⟨137,Sf,some .ident,none⟩:=UT vt (by kernel_rfl) (by kernel_rfl) (by kernel_rfl) (by kernel_rfl)
def ge (n:Nat):List Entry:=⟨137,Sf,some .ident,none⟩::Rz n
theorem jg (n:Nat):AllOk Tryz.prog gl (ge n):=.cons wt (oJ n)
def Qj (n:Nat) {R:Type} (k:Unit→Option R):Option R:=k ()
def vg (n:Nat):Option Unit:=Qj n some
theorem zL (n:Nat) {S:Type}:∀ (φ:_→Option S),(vg n).bind φ=Qj n φ:=by
  intros;unfold vg Qj;first | (simp only [ja,aa,iB,bB,oL,oX,nB,Option.bind_some]) | rfl
def cm (n:Nat):Hint OutS:={ live:=fun c=>[],run:=fun c=>none,xm:=fun c q=>none }
theorem rC (n:Nat):qa tys (ia OutS (ge n)) (cm n) n (fa Tryz.f113) 0:=ma (fun _=>rfl) _ _ (by kernel_rfl)
theorem XF (n:Nat):Enters Tryz.prog 113:=enters_of (c:=fa Tryz.f113) Tryz.func113 (by kernel_rfl) (by kernel_rfl)
def Oq:List RSp:=[.one (.ptr 0 0 0)]
def Nq:List RS:=[.box 108 2 true [.cn .nilp,.cn .nils]]
def YF:List Sl:=[.ptr 0 0 0]
def ZF:List RSp:=[]
def mf:List RS:=[.box 108 2 false [.ptr 0 0 0,.cn .nils]]
def Rj (y:Unit):OutS:=⟨false,bo (Sc mf ((),())) YF (),fG (WC (Sc mf ((),())) ZF ()),Fu (Sc mf ((),())) mf ((),())⟩
theorem rJ (n:Nat):EntryOk Tryz.prog gl ⟨113,Sf,none,some (csT Oq Nq (fun σ ρ=>vg n) Rj)⟩:=Be (XF n) fun σ ρ y h=>Hb tys_ok (jg n) mixed (hint:=cm n) (n:=n) Tryz.func113 (Aa (rC n)) (la (φ:=fun y=>some (Rj y)) (by kernel_rfl) (zL n _) h)
def aj (n:Nat):List Entry:=⟨113,Sf,none,some (csT Oq Nq (fun σ ρ=>vg n) Rj)⟩::ge n
theorem ml (n:Nat):AllOk Tryz.prog gl (aj n):=.cons (rJ n) (jg n)
def Nj (n:Nat) {R:Type} (c:Int) (k:U19→Option R):Option R:=(vg n).bind fun v=>if wb (0+1) 1=true then k ((⟨(0+1),fun q=>if q<0 then (fun _=>ta (.int .u8)) q else (fun q=>List.getD (α:=Int) [c] q (ta (.int .u8))) (q - 0)⟩:Sq Int),()) else none
def yb (n:Nat) (c:Int):Option U19:=Nj n c some
theorem xL (n:Nat) {S:Type}:∀ c (φ:_→Option S),(yb n c).bind φ=Nj n c φ:=by
  intros;unfold yb Nj;first | (simp only [ja,aa,iB,bB,oL,oX,nB,Option.bind_some]) | rfl
def am (n:Nat):Hint OutS:={ live:=fun c=>[],run:=fun c=>none,xm:=fun c q=>none }
theorem pC (n:Nat):qa tys (ia OutS (aj n)) (am n) n (fa Tryz.f203) 0:=ma (fun _=>rfl) _ _ (by kernel_rfl)
theorem RF (n:Nat):Enters Tryz.prog 203:=enters_of (c:=fa Tryz.f203) Tryz.func203 (by kernel_rfl) (by kernel_rfl)
def Kq:List RSp:=[.one (.ptr 0 0 0),.one (.dat (.int .u8))]
def Jq:List RS:=[.box 108 2 true [.cn .nilp,.cn .nils]]
def SF:List Sl:=[.ptr 0 0 0,.top]
def TF:List RSp:=[.one (.cn .nili)]
def kf:List RS:=[.box 108 2 false [.ptr 0 0 0,.row 1],.row 5 1 (.int .u8) true false]
def Oj (y:U19):OutS:=⟨false,bo (Sc kf ((),(y.1,()))) SF (),fG (WC (Sc kf ((),(y.1,()))) TF ((),())),Fu (Sc kf ((),(y.1,()))) kf ((),(y.1,()))⟩
theorem pJ (n:Nat):EntryOk Tryz.prog gl ⟨203,Sf,none,some (csT Kq Jq (fun σ ρ=>yb n σ.2.1.1) Oj)⟩:=Be (RF n) fun σ ρ y h=>Hb tys_ok (ml n) mixed (hint:=am n) (n:=n) Tryz.func203 (Aa (pC n)) (la (φ:=fun y=>some (Oj y)) (by kernel_rfl) (xL n σ.2.1.1 _) h)
def Zi (n:Nat):List Entry:=⟨203,Sf,none,some (csT Kq Jq (fun σ ρ=>yb n σ.2.1.1) Oj)⟩::aj n
theorem ll (n:Nat):AllOk Tryz.prog gl (Zi n):=.cons (pJ n) (ml n)
def Lk (n:Nat) {R:Type} (r1:(Sq Int)) (k:(BA×Unit)→Option R):Option R:=if (r1.n:Int)=(r1.n:Int)∧(r1.n:Int)≤9223372036854775807 then k ((uC r1.n r1.at'),()) else none
def Fe (n:Nat) (r1:(Sq Int)):Option (BA×Unit):=Lk n r1 some
theorem FU (n:Nat) {S:Type}:∀ r1 (φ:_→Option S),(Fe n r1).bind φ=Lk n r1 φ:=by
  intros;unfold Fe Lk;first | (simp only [ja,aa,iB,bB,oL,oX,nB,Option.bind_some]) | rfl
def iu (n:Nat):Hint OutS:={ live:=fun c=>[],run:=fun c=>none,xm:=fun c q=>none,sch:=fun c=>(cond (Nat.beq c 1) (some [(0,0),(1,0),(2,0),(5,0),(6,0),(7,0),(3,1),(8,1),(9,0),(4,3),(10,2),(11,0)]) none) }
theorem wL (n:Nat):qa tys (ia OutS (Zi n)) (iu n) n (fa Tryz.f83) 0:=ma (fun _=>rfl) _ _ (by kernel_rfl)
theorem kO (n:Nat):Enters Tryz.prog 83:=enters_of (c:=fa Tryz.f83) Tryz.func83 (by kernel_rfl) (by kernel_rfl)
def Vz:List RSp:=[.one (.ptr 0 0 0)]
def Uz:List RS:=[.box 108 2 false [.ptr 0 0 0,.row 1],.row 5 1 (.int .u8) true false]
def lO:List Sl:=[.ptr 0 0 0]
def mO:List RSp:=[.one (.dat .str)]
def Hh:List RS:=[.box 108 2 false [.ptr 0 0 0,.top]]
def Hs (y:(BA×Unit)):OutS:=⟨false,bo (Sc Hh ((),())) lO (),fG (WC (Sc Hh ((),())) mO ((y.1,()),())),Fu (Sc Hh ((),())) Hh ((),())⟩
theorem WR (n:Nat):EntryOk Tryz.prog gl ⟨83,Sf,none,some (csT Vz Uz (fun σ ρ=>Fe n ρ.2.1) Hs)⟩:=Be (kO n) fun σ ρ y h=>Hb tys_ok (ll n) mixed (hint:=iu n) (n:=n) Tryz.func83 (Aa (wL n)) (la (φ:=fun y=>some (Hs y)) (by kernel_rfl) (FU n ρ.2.1 _) h)
def So (n:Nat):List Entry:=⟨83,Sf,none,some (csT Vz Uz (fun σ ρ=>Fe n ρ.2.1) Hs)⟩::Zi n
theorem Iq (n:Nat):AllOk Tryz.prog gl (So n):=.cons (WR n) (ll n)
def bh (n:Nat) {R:Type} (r1:(Sq Int)) (k:U19→Option R):Option R:=k (r1,())
def ue (n:Nat) (r1:(Sq Int)):Option U19:=bh n r1 some
theorem AL (n:Nat) {S:Type}:∀ r1 (φ:_→Option S),(ue n r1).bind φ=bh n r1 φ:=by
  intros;unfold ue bh;first | (simp only [ja,aa,iB,bB,oL,oX,nB,Option.bind_some]) | rfl
def dm (n:Nat):Hint OutS:={ live:=fun c=>[],run:=fun c=>none,xm:=fun c q=>none }
theorem sC (n:Nat):qa tys (ia OutS (So n)) (dm n) n (fa Tryz.f113) 0:=ma (fun _=>rfl) _ _ (by kernel_rfl)
theorem aG (n:Nat):Enters Tryz.prog 113:=enters_of (c:=fa Tryz.f113) Tryz.func113 (by kernel_rfl) (by kernel_rfl)
def Qq:List RSp:=[.one (.ptr 0 0 0)]
def Pq:List RS:=[.box 108 2 false [.ptr 0 0 0,.row 1],.row 5 1 (.int .u8) true false]
def bG:List Sl:=[.ptr 0 0 0]
def cG:List RSp:=[]
def nf:List RS:=[.box 108 2 false [.ptr 0 0 0,.row 1],.row 5 1 (.int .u8) true false]
def Sj (y:U19):OutS:=⟨false,bo (Sc nf ((),(y.1,()))) bG (),fG (WC (Sc nf ((),(y.1,()))) cG ()),Fu (Sc nf ((),(y.1,()))) nf ((),(y.1,()))⟩
theorem sJ (n:Nat):EntryOk Tryz.prog gl ⟨113,Sf,none,some (csT Qq Pq (fun σ ρ=>ue n ρ.2.1) Sj)⟩:=Be (aG n) fun σ ρ y h=>Hb tys_ok (Iq n) mixed (hint:=dm n) (n:=n) Tryz.func113 (Aa (sC n)) (la (φ:=fun y=>some (Sj y)) (by kernel_rfl) (AL n ρ.2.1 _) h)
def bj (n:Nat):List Entry:=⟨113,Sf,none,some (csT Qq Pq (fun σ ρ=>ue n ρ.2.1) Sj)⟩::So n
theorem ol (n:Nat):AllOk Tryz.prog gl (bj n):=.cons (sJ n) (Iq n)
def ah (n:Nat) {R:Type} (c:Int) (r1:(Sq Int)) (k:U19→Option R):Option R:=(ue n r1).bind fun v=>if wb (v.1.n+1) 1=true then k ((⟨(v.1.n+1),fun q=>if q<v.1.n then v.1.at' q else (fun q=>List.getD (α:=Int) [c] q (ta (.int .u8))) (q - v.1.n)⟩:Sq Int),()) else none
def Na (n:Nat) (c:Int) (r1:(Sq Int)):Option U19:=ah n c r1 some
theorem yL (n:Nat) {S:Type}:∀ c r1 (φ:_→Option S),(Na n c r1).bind φ=ah n c r1 φ:=by
  intros;unfold Na ah;first | (simp only [ja,aa,iB,bB,oL,oX,nB,Option.bind_some]) | rfl
def bm (n:Nat):Hint OutS:={ live:=fun c=>[],run:=fun c=>none,xm:=fun c q=>none }
theorem qC (n:Nat):qa tys (ia OutS (bj n)) (bm n) n (fa Tryz.f203) 0:=ma (fun _=>rfl) _ _ (by kernel_rfl)
theorem UF (n:Nat):Enters Tryz.prog 203:=enters_of (c:=fa Tryz.f203) Tryz.func203 (by kernel_rfl) (by kernel_rfl)
def Mq:List RSp:=[.one (.ptr 0 0 0),.one (.dat (.int .u8))]
def Lq:List RS:=[.box 108 2 false [.ptr 0 0 0,.row 1],.row 5 1 (.int .u8) true false]
def VF:List Sl:=[.ptr 0 0 0,.top]
def WF:List RSp:=[.one (.cn .nili)]
def lf:List RS:=[.box 108 2 false [.ptr 0 0 0,.row 1],.row 5 1 (.int .u8) true false]
def Pj (y:U19):OutS:=⟨false,bo (Sc lf ((),(y.1,()))) VF (),fG (WC (Sc lf ((),(y.1,()))) WF ((),())),Fu (Sc lf ((),(y.1,()))) lf ((),(y.1,()))⟩
theorem qJ (n:Nat):EntryOk Tryz.prog gl ⟨203,Sf,none,some (csT Mq Lq (fun σ ρ=>Na n σ.2.1.1 ρ.2.1) Pj)⟩:=Be (UF n) fun σ ρ y h=>Hb tys_ok (ol n) mixed (hint:=bm n) (n:=n) Tryz.func203 (Aa (qC n)) (la (φ:=fun y=>some (Pj y)) (by kernel_rfl) (yL n σ.2.1.1 ρ.2.1 _) h)
def Jd (n:Nat):List Entry:=⟨203,Sf,none,some (csT Mq Lq (fun σ ρ=>Na n σ.2.1.1 ρ.2.1) Pj)⟩::bj n
theorem ug (n:Nat):AllOk Tryz.prog gl (Jd n):=.cons (qJ n) (ol n)
def Gb (n:Nat) {R:Type} (s1:BA) (i:Int) (r1:(Sq Int)) (kn:BA→Int→(Sq Int)→Option R) (ko:Unit→Option R) (kr:(BA×BA)→Option R) (kp:Int→Option R):Option R:=(Cb n (decide (i<(s1.size:Int)))).bind fun x_1=>onX x_1 (fun p3=>kp p3) (fun v5=>if 0≤i∧i<(s1.size:Int) then if ((bt s1 i)==(34:Int))=true then if 0≤(IntKind.wrap .i64 (i+(1:Int)))∧(IntKind.wrap .i64 (i+(1:Int)))≤(s1.size:Int) then (Fe n r1).bind fun v6=>kr (v6.1,(s1.extract (Int.toNat (IntKind.wrap .i64 (i+(1:Int)))) (Int.toNat (s1.size:Int)))) else none else if 0≤i∧i<(s1.size:Int) then if ((bt s1 i)==(92:Int))=true then (Cb n (decide ((IntKind.wrap .i64 (i+(1:Int)))<(s1.size:Int)))).bind fun x_2=>onX x_2 (fun p4=>kp p4) (fun v7=>if 0≤(IntKind.wrap .i64 (i+(1:Int)))∧(IntKind.wrap .i64 (i+(1:Int)))<(s1.size:Int) then if (decide ((bt s1 (IntKind.wrap .i64 (i+(1:Int))))≥(32:Int)))=true then if 0≤(IntKind.wrap .i64 (i+(1:Int)))∧(IntKind.wrap .i64 (i+(1:Int)))<(s1.size:Int) then (Cb n (decide ((bt s1 (IntKind.wrap .i64 (i+(1:Int))))≤(126:Int)))).bind fun x_3=>onX x_3 (fun p5=>kp p5) (fun v8=>if 0≤(IntKind.wrap .i64 (i+(1:Int)))∧(IntKind.wrap .i64 (i+(1:Int)))<(s1.size:Int) then (Na n (bt s1 (IntKind.wrap .i64 (i+(1:Int)))) r1).bind fun v9=>
 kn s1 (IntKind.wrap .i64 ((IntKind.wrap .i64 (i+(1:Int)))+(1:Int))) v9.1 else none) else none else (Cb n false).bind fun x_4=>onX x_4 (fun p6=>kp p6) (fun v10=>if 0≤(IntKind.wrap .i64 (i+(1:Int)))∧(IntKind.wrap .i64 (i+(1:Int)))<(s1.size:Int) then (Na n (bt s1 (IntKind.wrap .i64 (i+(1:Int)))) r1).bind fun v11=>kn s1 (IntKind.wrap .i64 ((IntKind.wrap .i64 (i+(1:Int)))+(1:Int))) v11.1 else none) else none) else if 0≤i∧i<(s1.size:Int) then if (decide ((bt s1 i)≥(32:Int)))=true then if 0≤i∧i<(s1.size:Int) then (Cb n (decide ((bt s1 i)≤(126:Int)))).bind fun x_5=>onX x_5 (fun p7=>kp p7) (fun v12=>if 0≤i∧i<(s1.size:Int) then (Na n (bt s1 i) r1).bind fun v13=>kn s1 (IntKind.wrap .i64 (i+(1:Int))) v13.1 else none) else none else (Cb n false).bind fun x_6=>onX x_6 (fun p8=>kp p8) (fun v14=>if 0≤i∧i<(s1.size:Int) then (Na n (bt s1 i) r1).bind fun v15=>kn s1 (IntKind.wrap .i64 (i+(1:Int))) v15.1 else none) else none else none else none)
def Da (n:Nat):Nat→BA→Int→(Sq Int)→Option (Lx Unit (BA×BA))
 | 0,_,_,_=>none
 | m+1,s1,i,r1=>Gb n s1 i r1 (Da n m) (fun a=>some (.out a)) (fun a=>some (.ret a)) (fun p=>some (.pan p))
theorem lT (n m:Nat) {S:Type}:∀ s1 i r1 (φ:_→Option S),(Da n (m+1) s1 i r1).bind φ=Gb n s1 i r1 (fun s1 i r1=>(Da n m s1 i r1).bind φ) (fun a=>φ (.out a)) (fun a=>φ (.ret a)) (fun p=>φ (.pan p)):=by
  intros;first | (simp only [Da,Gb,ja,aa,iB,bB,oL,oX,nB,Option.bind_some]) | rfl
def Qn:List Sl:=.dat .str::.top::.top::.top::.ptr 0 0 0::.dat (.int .i64)::tp 42 []
def Pn:List RS:=[.box 108 2 false [.ptr 0 0 0,.row 1],.row 5 1 (.int .u8) true false]
def ZD:List Sl:=.top::.top::.dat .str::.dat .str::tp 44 []
def YD:List RS:=[]
def Pd (K:XE→List AV→oa→Option Out):Lx Unit (BA×BA)→Option Out:=fun x=>onL x (fun _=>none) (fun a=>tc ZD YD (a.1,(a.2,())) () (K .ret)) (fun p=>K (.panic (ph 174 p)) (List.replicate 48 .top) [])
def Od (n:Nat) {R:Type} (s:BA) (k:(BA×BA×Unit)→Option R) (kp:Int→Option R):Option R:=(Cb n (decide ((1:Int)<(s.size:Int)))).bind fun x_1=>onX x_1 (fun p=>kp p) (fun v=>if 0≤(1:Int)∧(1:Int)<(s.size:Int) then if ((bt s (1:Int))==(34:Int))=true then if 0≤(IntKind.wrap .i64 ((1:Int)+(1:Int)))∧(IntKind.wrap .i64 ((1:Int)+(1:Int)))≤(s.size:Int) then (zi n).bind fun v1=>k (v1.1,((s.extract (Int.toNat (IntKind.wrap .i64 ((1:Int)+(1:Int)))) (Int.toNat (s.size:Int))),())) else none else if 0≤(1:Int)∧(1:Int)<(s.size:Int) then if ((bt s (1:Int))==(92:Int))=true then (Cb n (decide ((IntKind.wrap .i64 ((1:Int)+(1:Int)))<(s.size:Int)))).bind fun x_2=>onX x_2 (fun p1=>kp p1) (fun v2=>if 0≤(IntKind.wrap .i64 ((1:Int)+(1:Int)))∧(IntKind.wrap .i64 ((1:Int)+(1:Int)))<(s.size:Int) then if (decide ((bt s (IntKind.wrap .i64 ((1:Int)+(1:Int))))≥(32:Int)))=true then if 0≤(IntKind.wrap .i64 ((1:Int)+(1:Int)))∧(IntKind.wrap .i64 ((1:Int)+(1:Int)))<(s.size:Int) then (Cb n (decide ((bt s (IntKind.wrap .i64 ((1:Int)+(1:Int))))≤(126:Int)))).bind fun x_3=>onX x_3 (fun p2=>kp p2) (fun v3=>if 0≤(IntKind.wrap .i64 ((1:Int)+(1:Int)))∧(IntKind.wrap .i64 ((1:Int)+(1:Int)))<(s.size:Int) then (yb n (bt s (IntKind.wrap .i64 ((1:Int)+(1:Int))))).bind fun v4=>
 (Da n n s (IntKind.wrap .i64 ((IntKind.wrap .i64 ((1:Int)+(1:Int)))+(1:Int))) v4.1).bind fun x_4=>onL x_4 (fun _=>none) (fun a_5=>k (a_5.1,(a_5.2,()))) (fun p9=>kp p9) else none) else none else (Cb n false).bind fun x_6=>onX x_6 (fun p10=>kp p10) (fun v16=>if 0≤(IntKind.wrap .i64 ((1:Int)+(1:Int)))∧(IntKind.wrap .i64 ((1:Int)+(1:Int)))<(s.size:Int) then (yb n (bt s (IntKind.wrap .i64 ((1:Int)+(1:Int))))).bind fun v17=>(Da n n s (IntKind.wrap .i64 ((IntKind.wrap .i64 ((1:Int)+(1:Int)))+(1:Int))) v17.1).bind fun x_7=>onL x_7 (fun _=>none) (fun a_8=>k (a_8.1,(a_8.2,()))) (fun p11=>kp p11) else none) else none) else if 0≤(1:Int)∧(1:Int)<(s.size:Int) then if (decide ((bt s (1:Int))≥(32:Int)))=true then if 0≤(1:Int)∧(1:Int)<(s.size:Int) then (Cb n (decide ((bt s (1:Int))≤(126:Int)))).bind fun x_9=>onX x_9 (fun p12=>kp p12) (fun v18=>if 0≤(1:Int)∧(1:Int)<(s.size:Int) then (yb n (bt s (1:Int))).bind fun v19=>(Da n n s (IntKind.wrap .i64 ((1:Int)+(1:Int))) v19.1).bind fun x_10=>onL x_10 (fun _=>none) (fun a_11=>k (a_11.1,(a_11.2,()))) (fun p13=>kp p13) else none) else none else (Cb n false).bind fun x_12=>onX x_12 (fun p14=>kp p14) (fun v20=>if 0≤(1:Int)∧(1:Int)<(s.size:Int) then (yb n (bt s (1:Int))).bind fun v21=>
 (Da n n s (IntKind.wrap .i64 ((1:Int)+(1:Int))) v21.1).bind fun x_13=>onL x_13 (fun _=>none) (fun a_14=>k (a_14.1,(a_14.2,()))) (fun p15=>kp p15) else none) else none else none else none)
def Xc (n:Nat) (s:BA):Option (Except Int (BA×BA×Unit)):=Od n s (fun y=>some (.ok y)) (fun p=>some (.error p))
theorem NP (n:Nat) {S:Type}:∀ s (φ:_→Option S),(Xc n s).bind φ=Od n s (fun y=>φ (.ok y)) (fun p=>φ (.error p)):=by
  intros;unfold Xc Od;first | (simp only [ja,aa,iB,bB,oL,oX,nB,Option.bind_some]) | rfl
def wh (n:Nat):Hint Out:={ live:=fun c=>(cond (Nat.beq c 0) (lv [0,4,5]) []),run:=fun c=>(cond (Nat.beq c 0) (some (Zg Qn Pn fun σ ρ K=>(Da n n σ.1 σ.2.1 ρ.2.1).bind (Pd K))) none),xm:=fun c q=>(cond (Nat.beq c 1&&q.isNone) (some [(2,none),(3,none)]) none),sch:=fun c=>(cond (Nat.beq c 6) (some [(1,0),(2,0),(3,0),(4,0),(0,2),(5,0),(6,0)]) none),pl:=fun c=>Nat.beq c 0 }
def ek (n:Nat) (K:XE→List AV→oa→Option Out) (m:Nat) (s1:BA) (i:Int) (r1:(Sq Int)):Option Out:=Nc tys (ia Out (Jd n)) (wh n) n (wa [1,1,1,0,0] (fa Tryz.f191)) 0 Qn Pn K m (s1,(i,())) ((),(r1,()))
theorem KC (n:Nat) (K:XE→List AV→oa→Option Out):∀ (m:Nat) s1 i r1,ek n K m s1 i r1=(Da n m s1 i r1).bind (Pd K)
  | 0,_,_,_=>by kernel_rfl
  | m+1,s1,i,r1=>by
    have h1:ek n K (m+1) s1 i r1=Gb n s1 i r1 (ek n K m) (fun a=>Pd K (.out a)) (fun a=>Pd K (.ret a)) (fun p=>Pd K (.pan p)):=by kernel_rfl
    have h2:ek n K m=fun s1 i r1=>(Da n m s1 i r1).bind (Pd K):=by
      repeat (refine funext fun _=>?_)
      exact KC n K m _ _ _
    rw [h1,h2];exact (lT n m _ _ _ (Pd K)).symm
theorem MP (n:Nat):Bc tys (ia Out (Jd n)) (wh n) n (wa [1,1,1,0,0] (fa Tryz.f191)) 0:=Ea (sp:=Qn) (rp:=Pn) (by kernel_rfl) fun K σ ρ=>KC n K n σ.1 σ.2.1 ρ.2.1
theorem LC (n:Nat):qa tys (ia Out (Jd n)) (wh n) n (fa Tryz.f191) 0:=⟨trivial,⟨trivial,⟨trivial,⟨MP n,⟨⟨trivial,⟨⟨trivial,⟨⟨trivial,trivial⟩,trivial⟩⟩,⟨⟨trivial,⟨⟨trivial,trivial⟩,trivial⟩⟩,⟨trivial,trivial⟩⟩⟩⟩,trivial⟩⟩⟩⟩⟩
theorem qW (n:Nat):Enters Tryz.prog 191:=enters_of (c:=fa Tryz.f191) Tryz.func191 (by kernel_rfl) (by kernel_rfl)
def qM (n:Nat):Entry:=⟨191,pcX 174 (.pair .str .unit) (.many (.pair .str (.pair .str .unit))) (fun xs=>Xc n xs.1),none,none⟩
theorem kZ (n:Nat):EntryOk Tryz.prog gl (qM n):=DH (qW n) (fun xs y h=>na tys_ok (ug n) mixed (hint:=wh n) (n:=n) Tryz.func191 (Aa (LC n)) (la (φ:=(fun r=>onX r (fun p=>some (Out.pan (ph 174 p))) fun y=>some (Out.ret (qb (.many (.pair .str (.pair .str .unit))) y)))) (by kernel_rfl) (NP n xs.1 _) h)) (fun xs p h=>na tys_ok (ug n) mixed (hint:=wh n) (n:=n) Tryz.func191 (Aa (LC n)) (la (φ:=(fun r=>onX r (fun p=>some (Out.pan (ph 174 p))) fun y=>some (Out.ret (qb (.many (.pair .str (.pair .str .unit))) y)))) (by kernel_rfl) (NP n xs.1 _) h))
def Wx (n:Nat):List Entry:=qM n::Jd n
theorem Xx (n:Nat):AllOk Tryz.prog gl (Wx n):=.cons (kZ n) (ug n)
def Qk (n:Nat) {R:Type} (s:BA) (c:Int) (k:Int→Option R):Option R:=(gg n s c).bind fun v=>k v
def He (n:Nat) (s:BA) (c:Int):Option Int:=Qk n s c some
theorem JU (n:Nat) {S:Type}:∀ s c (φ:_→Option S),(He n s c).bind φ=Qk n s c φ:=by
  intros;unfold He Qk;first | (simp only [ja,aa,iB,bB,oL,oX,nB,Option.bind_some]) | rfl
def ou (n:Nat):Hint Out:={ live:=fun c=>[],run:=fun c=>none,xm:=fun c q=>none }
theorem FL (n:Nat):qa tys (ia Out (Wx n)) (ou n) n (fa Tryz.f193) 0:=ma (fun _=>rfl) _ _ (by kernel_rfl)
theorem tO (n:Nat):Enters Tryz.prog 193:=enters_of (c:=fa Tryz.f193) Tryz.func193 (by kernel_rfl) (by kernel_rfl)
def fA (n:Nat):Entry:=⟨193,pcT (.pair .str (.pair (.int .u8) .unit)) (.one (.int .i64)) (fun xs=>He n xs.1 xs.2.1),none,none⟩
theorem lS (n:Nat):EntryOk Tryz.prog gl (fA n):=za (tO n) fun xs y h=>na tys_ok (Xx n) mixed (hint:=ou n) (n:=n) Tryz.func193 (Aa (FL n)) (la (φ:=(fun y=>some (Out.ret (qb (.one (.int .i64)) y)))) (by kernel_rfl) (JU n xs.1 xs.2.1 _) h)
def Yo (n:Nat):List Entry:=fA n::Wx n
theorem Tq (n:Nat):AllOk Tryz.prog gl (Yo n):=.cons (lS n) (Xx n)
def zG (n:Nat) {R:Type} (c:Int) (k:Bool→Option R):Option R:=(aE n c).bind fun v=>if v=false then if (decide (c≥(65:Int)))=true then if (decide (c≤(90:Int)))=false then (He n (⟨#[33,35,36,37,38,39,42,43,45,47,61,63,94,95,96,123,124,125,126]⟩:BA) c).bind fun v1=>k (decide (v1≥(0:Int))) else k true else (He n (⟨#[33,35,36,37,38,39,42,43,45,47,61,63,94,95,96,123,124,125,126]⟩:BA) c).bind fun v2=>k (decide (v2≥(0:Int))) else k true
def WD (n:Nat) (c:Int):Option Bool:=zG n c some
theorem Pcb (n:Nat) {S:Type}:∀ c (φ:_→Option S),(WD n c).bind φ=zG n c φ:=by
  intros;unfold WD zG;first | (simp only [ja,aa,iB,bB,oL,oX,nB,Option.bind_some]) | rfl
def oM (n:Nat):Hint Out:={ live:=fun c=>[],run:=fun c=>none,xm:=fun c q=>none }
theorem cZ (n:Nat):qa tys (ia Out (Yo n)) (oM n) n (fa Tryz.f204) 0:=ma (fun _=>rfl) _ _ (by kernel_rfl)
theorem x5 (n:Nat):Enters Tryz.prog 204:=enters_of (c:=fa Tryz.f204) Tryz.func204 (by kernel_rfl) (by kernel_rfl)
def WU (n:Nat):Entry:=⟨204,pcT (.pair (.int .u8) .unit) (.one .bool) (fun xs=>WD n xs.1),none,none⟩
theorem Fab (n:Nat):EntryOk Tryz.prog gl (WU n):=za (x5 n) fun xs y h=>na tys_ok (Tq n) mixed (hint:=oM n) (n:=n) Tryz.func204 (Aa (cZ n)) (la (φ:=(fun y=>some (Out.ret (qb (.one .bool) y)))) (by kernel_rfl) (Pcb n xs.1 _) h)
def Xs (n:Nat):List Entry:=WU n::Yo n
theorem AG (n:Nat):AllOk Tryz.prog gl (Xs n):=.cons (Fab n) (Tq n)
def zj (n:Nat) {R:Type} (s1:BA) (word t6 t7:Int) (kn:BA→Int→Int→Int→Option R) (ko:(Int)→Option R) (kr:(Bool)→Option R) (kp:Int→Option R):Option R:=if (decide (t7<t6))=true then if 0≤t7∧t7<(s1.size:Int) then if ((bt s1 t7)==(46:Int))=true then if (word==(0:Int))=false then if 0≤t7∧t7<(s1.size:Int) then if ((bt s1 t7) !=(46:Int))=true then if 0≤t7∧t7<(s1.size:Int) then (WD n (bt s1 t7)).bind fun v=>if (!v)=true then kr false else if 0≤t7∧t7<(s1.size:Int) then if ((bt s1 t7)==(46:Int))=true then kn s1 (0:Int) t6 (IntKind.wrap .i64 (t7+(1:Int))) else kn s1 (IntKind.wrap .i64 (word+(1:Int))) t6 (IntKind.wrap .i64 (t7+(1:Int))) else none else none else if 0≤t7∧t7<(s1.size:Int) then if ((bt s1 t7)==(46:Int))=true then kn s1 (0:Int) t6 (IntKind.wrap .i64 (t7+(1:Int))) else kn s1 (IntKind.wrap .i64 (word+(1:Int))) t6 (IntKind.wrap .i64 (t7+(1:Int))) else none else none else kr false else if 0≤t7∧t7<(s1.size:Int) then if ((bt s1 t7) !=(46:Int))=true then if 0≤t7∧t7<(s1.size:Int) then (WD n (bt s1 t7)).bind fun v1=>if (!v1)=true then kr false else if 0≤t7∧t7<(s1.size:Int) then if ((bt s1 t7)==(46:Int))=true then kn s1 (0:Int) t6 (IntKind.wrap .i64 (t7+(1:Int))) else kn s1 (IntKind.wrap .i64 (word+(1:Int))) t6 (IntKind.wrap .i64 (t7+(1:Int))) else none else none
 else if 0≤t7∧t7<(s1.size:Int) then if ((bt s1 t7)==(46:Int))=true then kn s1 (0:Int) t6 (IntKind.wrap .i64 (t7+(1:Int))) else kn s1 (IntKind.wrap .i64 (word+(1:Int))) t6 (IntKind.wrap .i64 (t7+(1:Int))) else none else none else none else ko word
def Wc (n:Nat):Nat→BA→Int→Int→Int→Option (Lx (Int) (Bool))
 | 0,_,_,_,_=>none
 | m+1,s1,word,t6,t7=>zj n s1 word t6 t7 (Wc n m) (fun a=>some (.out a)) (fun a=>some (.ret a)) (fun p=>some (.pan p))
theorem mW (n m:Nat) {S:Type}:∀ s1 word t6 t7 (φ:_→Option S),(Wc n (m+1) s1 word t6 t7).bind φ=zj n s1 word t6 t7 (fun s1 word t6 t7=>(Wc n m s1 word t6 t7).bind φ) (fun a=>φ (.out a)) (fun a=>φ (.ret a)) (fun p=>φ (.pan p)):=by
  intros;first | (simp only [Wc,zj,ja,aa,iB,bB,oL,oX,nB,Option.bind_some]) | rfl
def vr:List Sl:=.dat .str::.top::.top::.dat (.int .i64)::.top::.top::.dat (.int .i64)::.dat (.int .i64)::tp 32 []
def ur:List RS:=[]
def OG:List Sl:=.top::.top::.top::.dat (.int .i64)::tp 36 []
def NG:List RS:=[]
def QG:List Sl:=.top::.top::.dat .bool::tp 37 []
def PG:List RS:=[]
def Je (K:XE→List AV→oa→Option Out):Lx (Int) (Bool)→Option Out:=fun x=>onL x (fun a=>tc OG NG (a,()) () (K (.exit 0))) (fun a=>tc QG PG (a,()) () (K .ret)) (fun _=>none)
def MA (n:Nat) {R:Type} (s:BA) (k:Bool→Option R):Option R:=(Wc n n s (0:Int) (s.size:Int) (0:Int)).bind fun x_1=>onL x_1 (fun a_2=>k (decide (a_2>(0:Int)))) (fun a_3=>k a_3) (fun _=>none)
def Ip (n:Nat) (s:BA):Option Bool:=MA n s some
theorem Iab (n:Nat) {S:Type}:∀ s (φ:_→Option S),(Ip n s).bind φ=MA n s φ:=by
  intros;unfold Ip MA;first | (simp only [ja,aa,iB,bB,oL,oX,nB,Option.bind_some]) | rfl
def ym (n:Nat):Hint Out:={ live:=fun c=>(cond (Nat.beq c 0) (lv [0,3,6,7]) []),run:=fun c=>(cond (Nat.beq c 0) (some (Zg vr ur fun σ ρ K=>(Wc n n σ.1 σ.2.1 σ.2.2.1 σ.2.2.2.1).bind (Je K))) none),xm:=fun c q=>(cond (Nat.beq c 0&&Nat.beq (q.getD 1000000) 0&&q.isSome) (some [(3,none)]) (cond (Nat.beq c 1&&q.isNone) (some [(2,none)]) none)) }
def wm (n:Nat) (K:XE→List AV→oa→Option Out) (m:Nat) (s1:BA) (word:Int) (t6:Int) (t7:Int):Option Out:=Nc tys (ia Out (Xs n)) (ym n) n (wa [1,1,0,1,0,0] (fa Tryz.f194)) 0 vr ur K m (s1,(word,(t6,(t7,())))) ()
theorem MG (n:Nat) (K:XE→List AV→oa→Option Out):∀ (m:Nat) s1 word t6 t7,wm n K m s1 word t6 t7=(Wc n m s1 word t6 t7).bind (Je K)
  | 0,_,_,_,_=>by kernel_rfl
  | m+1,s1,word,t6,t7=>by
    have h1:wm n K (m+1) s1 word t6 t7=zj n s1 word t6 t7 (wm n K m) (fun a=>Je K (.out a)) (fun a=>Je K (.ret a)) (fun p=>Je K (.pan p)):=by kernel_rfl
    have h2:wm n K m=fun s1 word t6 t7=>(Wc n m s1 word t6 t7).bind (Je K):=by
      repeat (refine funext fun _=>?_)
      exact MG n K m _ _ _ _
    rw [h1,h2];exact (mW n m _ _ _ _ (Je K)).symm
theorem jT (n:Nat):Bc tys (ia Out (Xs n)) (ym n) n (wa [1,1,0,1,0,0] (fa Tryz.f194)) 0:=Ea (sp:=vr) (rp:=ur) (by kernel_rfl) fun K σ ρ=>MG n K n σ.1 σ.2.1 σ.2.2.1 σ.2.2.2.1
theorem nW (n:Nat):qa tys (ia Out (Xs n)) (ym n) n (fa Tryz.f194) 0:=⟨trivial,⟨trivial,⟨⟨trivial,⟨jT n,⟨trivial,⟨⟨trivial,trivial⟩,⟨⟨trivial,⟨⟨trivial,⟨⟨trivial,trivial⟩,trivial⟩⟩,⟨trivial,⟨trivial,⟨trivial,trivial⟩⟩⟩⟩⟩,trivial⟩⟩⟩⟩⟩,⟨trivial,trivial⟩⟩⟩⟩
theorem iZ (n:Nat):Enters Tryz.prog 194:=enters_of (c:=fa Tryz.f194) Tryz.func194 (by kernel_rfl) (by kernel_rfl)
def KP (n:Nat):Entry:=⟨194,pcT (.pair .str .unit) (.one .bool) (fun xs=>Ip n xs.1),none,none⟩
theorem B5 (n:Nat):EntryOk Tryz.prog gl (KP n):=za (iZ n) fun xs y h=>na tys_ok (AG n) mixed (hint:=ym n) (n:=n) Tryz.func194 (Aa (nW n)) (la (φ:=(fun y=>some (Out.ret (qb (.one .bool) y)))) (by kernel_rfl) (Iab n xs.1 _) h)
def On (n:Nat):List Entry:=KP n::Xs n
theorem JC (n:Nat):AllOk Tryz.prog gl (On n):=.cons (B5 n) (AG n)
def Tf (n:Nat) {R:Type} (s1:BA) (t10 t11:Int) (r1:(Sq Int)) (kn:BA→Int→Int→(Sq Int)→Option R) (ko:((Sq Int))→Option R) (kr:Unit→Option R) (kp:Int→Option R):Option R:=if (decide (t11<t10))=true then if 0≤t11∧t11<(s1.size:Int) then if ((bt s1 t11)==(34:Int))=false then if 0≤t11∧t11<(s1.size:Int) then if ((bt s1 t11)==(92:Int))=true then (Na n (92:Int) r1).bind fun v2=>if 0≤t11∧t11<(s1.size:Int) then (Na n (bt s1 t11) v2.1).bind fun v3=>kn s1 t10 (IntKind.wrap .i64 (t11+(1:Int))) v3.1 else none else if 0≤t11∧t11<(s1.size:Int) then (Na n (bt s1 t11) r1).bind fun v4=>kn s1 t10 (IntKind.wrap .i64 (t11+(1:Int))) v4.1 else none else none else (Na n (92:Int) r1).bind fun v5=>if 0≤t11∧t11<(s1.size:Int) then (Na n (bt s1 t11) v5.1).bind fun v6=>kn s1 t10 (IntKind.wrap .i64 (t11+(1:Int))) v6.1 else none else none else ko r1
def ec (n:Nat):Nat→BA→Int→Int→(Sq Int)→Option (Lx ((Sq Int)) Unit)
 | 0,_,_,_,_=>none
 | m+1,s1,t10,t11,r1=>Tf n s1 t10 t11 r1 (ec n m) (fun a=>some (.out a)) (fun a=>some (.ret a)) (fun p=>some (.pan p))
theorem oW (n m:Nat) {S:Type}:∀ s1 t10 t11 r1 (φ:_→Option S),(ec n (m+1) s1 t10 t11 r1).bind φ=Tf n s1 t10 t11 r1 (fun s1 t10 t11 r1=>(ec n m s1 t10 t11 r1).bind φ) (fun a=>φ (.out a)) (fun a=>φ (.ret a)) (fun p=>φ (.pan p)):=by
  intros;first | (simp only [ec,Tf,ja,aa,iB,bB,oL,oX,nB,Option.bind_some]) | rfl
def yr:List Sl:=.dat .str::.top::.top::.ptr 0 0 0::tp 6 (.dat (.int .i64)::.dat (.int .i64)::tp 20 [])
def xr:List RS:=[.box 108 2 false [.ptr 0 0 0,.row 1],.row 5 1 (.int .u8) true false]
def TG:List Sl:=.top::.top::.top::.ptr 0 0 0::tp 28 []
def SG:List RS:=[.box 108 2 false [.ptr 0 0 0,.row 1],.row 5 1 (.int .u8) true false]
def Ke (K:XE→List AV→oa→Option Out):Lx ((Sq Int)) Unit→Option Out:=fun x=>onL x (fun a=>tc TG SG () ((),(a,())) (K (.exit 0))) (fun _=>none) (fun _=>none)
def OA (n:Nat) {R:Type} (s:BA) (k:BA→Option R):Option R:=(Ip n s).bind fun v=>if v=true then k s else (yb n (34:Int)).bind fun v1=>(ec n n s (s.size:Int) (0:Int) v1.1).bind fun x_1=>onL x_1 (fun a_2=>(Fe n a_2).bind fun v7=>if Ag v7.1 (⟨#[34]⟩:BA)=true then k (v7.1++(⟨#[34]⟩:BA)) else none) (fun _=>none) (fun _=>none)
def NA (n:Nat) (s:BA):Option BA:=OA n s some
theorem Jab (n:Nat) {S:Type}:∀ s (φ:_→Option S),(NA n s).bind φ=OA n s φ:=by
  intros;unfold NA OA;first | (simp only [ja,aa,iB,bB,oL,oX,nB,Option.bind_some]) | rfl
def Am (n:Nat):Hint Out:={ live:=fun c=>(cond (Nat.beq c 0) (lv [0,3,10,11]) []),run:=fun c=>(cond (Nat.beq c 0) (some (Zg yr xr fun σ ρ K=>(ec n n σ.1 σ.2.1 σ.2.2.1 ρ.2.1).bind (Ke K))) none),xm:=fun c q=>(cond (Nat.beq c 0&&Nat.beq (q.getD 1000000) 0&&q.isSome) (some [(3,none)]) none) }
def zm (n:Nat) (K:XE→List AV→oa→Option Out) (m:Nat) (s1:BA) (t10:Int) (t11:Int) (r1:(Sq Int)):Option Out:=Nc tys (ia Out (On n)) (Am n) n (wa [1,1,1,1,0,1,0,0] (fa Tryz.f192)) 0 yr xr K m (s1,(t10,(t11,()))) ((),(r1,()))
theorem RG (n:Nat) (K:XE→List AV→oa→Option Out):∀ (m:Nat) s1 t10 t11 r1,zm n K m s1 t10 t11 r1=(ec n m s1 t10 t11 r1).bind (Ke K)
  | 0,_,_,_,_=>by kernel_rfl
  | m+1,s1,t10,t11,r1=>by
    have h1:zm n K (m+1) s1 t10 t11 r1=Tf n s1 t10 t11 r1 (zm n K m) (fun a=>Ke K (.out a)) (fun a=>Ke K (.ret a)) (fun p=>Ke K (.pan p)):=by kernel_rfl
    have h2:zm n K m=fun s1 t10 t11 r1=>(ec n m s1 t10 t11 r1).bind (Ke K):=by
      repeat (refine funext fun _=>?_)
      exact RG n K m _ _ _ _
    rw [h1,h2];exact (oW n m _ _ _ _ (Ke K)).symm
theorem kT (n:Nat):Bc tys (ia Out (On n)) (Am n) n (wa [1,1,1,1,0,1,0,0] (fa Tryz.f192)) 0:=Ea (sp:=yr) (rp:=xr) (by kernel_rfl) fun K σ ρ=>RG n K n σ.1 σ.2.1 σ.2.2.1 ρ.2.1
theorem pW (n:Nat):qa tys (ia Out (On n)) (Am n) n (fa Tryz.f192) 0:=⟨trivial,⟨⟨trivial,⟨⟨trivial,trivial⟩,trivial⟩⟩,⟨trivial,⟨trivial,⟨⟨trivial,⟨kT n,⟨trivial,⟨⟨trivial,trivial⟩,⟨⟨trivial,⟨⟨trivial,⟨trivial,trivial⟩⟩,trivial⟩⟩,trivial⟩⟩⟩⟩⟩,⟨trivial,trivial⟩⟩⟩⟩⟩⟩
theorem jZ (n:Nat):Enters Tryz.prog 192:=enters_of (c:=fa Tryz.f192) Tryz.func192 (by kernel_rfl) (by kernel_rfl)
def LP (n:Nat):Entry:=⟨192,pcT (.pair .str .unit) (.one .str) (fun xs=>NA n xs.1),none,none⟩
theorem C5 (n:Nat):EntryOk Tryz.prog gl (LP n):=za (jZ n) fun xs y h=>na tys_ok (JC n) mixed (hint:=Am n) (n:=n) Tryz.func192 (Aa (pW n)) (la (φ:=(fun y=>some (Out.ret (qb (.one .str) y)))) (by kernel_rfl) (Jab n xs.1 _) h)
def XD (n:Nat):List Entry:=LP n::On n
theorem zr (n:Nat):AllOk Tryz.prog gl (XD n):=.cons (C5 n) (JC n)
def ji (n:Nat) {R:Type} (s:BA) (k:(BA×BA×Unit)→Option R) (kp:Int→Option R):Option R:=(Lb n s (⟨#[34]⟩:BA)).bind fun v=>if v=true then (Xc n s).bind fun x_1=>onX x_1 (fun p=>kp p) (fun v1=>(NA n v1.1).bind fun v2=>k (v2,(v1.2.1,()))) else (He n s (64:Int)).bind fun v3=>if (decide (v3≥(0:Int)))=true then if 0≤v3∧v3≤(s.size:Int) then (Ip n (s.extract (Int.toNat (0:Int)) (Int.toNat v3))).bind fun v4=>(Cb n v4).bind fun x_2=>onX x_2 (fun p1=>kp p1) (fun v5=>if 0≤v3∧v3≤(s.size:Int) then if 0≤v3∧v3≤(s.size:Int) then k ((s.extract (Int.toNat (0:Int)) (Int.toNat v3)),((s.extract (Int.toNat v3) (Int.toNat (s.size:Int))),())) else none else none) else none else (Cb n false).bind fun x_3=>onX x_3 (fun p2=>kp p2) (fun v6=>if 0≤v3∧v3≤(s.size:Int) then if 0≤v3∧v3≤(s.size:Int) then k ((s.extract (Int.toNat (0:Int)) (Int.toNat v3)),((s.extract (Int.toNat v3) (Int.toNat (s.size:Int))),())) else none else none)
def Di (n:Nat) (s:BA):Option (Except Int (BA×BA×Unit)):=ji n s (fun y=>some (.ok y)) (fun p=>some (.error p))
theorem XU (n:Nat) {S:Type}:∀ s (φ:_→Option S),(Di n s).bind φ=ji n s (fun y=>φ (.ok y)) (fun p=>φ (.error p)):=by
  intros;unfold Di ji;first | (simp only [ja,aa,iB,bB,oL,oX,nB,Option.bind_some]) | rfl
def Mu (n:Nat):Hint Out:={ live:=fun c=>[],run:=fun c=>none,xm:=fun c q=>none }
theorem JG (n:Nat):qa tys (ia Out (XD n)) (Mu n) n (fa Tryz.f169) 0:=ma (fun _=>rfl) _ _ (by kernel_rfl)
theorem fZ (n:Nat):Enters Tryz.prog 169:=enters_of (c:=fa Tryz.f169) Tryz.func169 (by kernel_rfl) (by kernel_rfl)
def JP (n:Nat):Entry:=⟨169,pcX 174 (.pair .str .unit) (.many (.pair .str (.pair .str .unit))) (fun xs=>Di n xs.1),none,none⟩
theorem y5 (n:Nat):EntryOk Tryz.prog gl (JP n):=DH (fZ n) (fun xs y h=>na tys_ok (zr n) mixed (hint:=Mu n) (n:=n) Tryz.func169 (Aa (JG n)) (la (φ:=(fun r=>onX r (fun p=>some (Out.pan (ph 174 p))) fun y=>some (Out.ret (qb (.many (.pair .str (.pair .str .unit))) y)))) (by kernel_rfl) (XU n xs.1 _) h)) (fun xs p h=>na tys_ok (zr n) mixed (hint:=Mu n) (n:=n) Tryz.func169 (Aa (JG n)) (la (φ:=(fun r=>onX r (fun p=>some (Out.pan (ph 174 p))) fun y=>some (Out.ret (qb (.many (.pair .str (.pair .str .unit))) y)))) (by kernel_rfl) (XU n xs.1 _) h))
def Nn (n:Nat):List Entry:=JP n::XD n
theorem IC (n:Nat):AllOk Tryz.prog gl (Nn n):=.cons (y5 n) (zr n)
def Uf (n:Nat) {R:Type} (t9 t10:Int) (b:(Sq Int)) (kn:Int→Int→(Sq Int)→Option R) (ko:((Sq Int))→Option R) (kr:Unit→Option R) (kp:Int→Option R):Option R:=if (decide (t10<t9))=true then if 0≤t10∧t10<(b.n:Int) then if (decide ((b.at' (Int.toNat t10))≥(65:Int)))=true then if (decide ((b.at' (Int.toNat t10))≤(90:Int)))=true then if 0≤t10∧t10<(b.n:Int) then kn t9 (IntKind.wrap .i64 (t10+(1:Int))) (⟨b.n,fun q=>if q=(Int.toNat t10)∧q<b.n then (IntKind.wrap .u8 ((IntKind.wrap .u8 ((b.at' (Int.toNat t10))+(97:Int))) - (65:Int))) else b.at' q⟩:Sq Int) else none else kn t9 (IntKind.wrap .i64 (t10+(1:Int))) b else kn t9 (IntKind.wrap .i64 (t10+(1:Int))) b else none else ko b
def Ob (n:Nat):Nat→Int→Int→(Sq Int)→Option (Lx ((Sq Int)) Unit)
 | 0,_,_,_=>none
 | m+1,t9,t10,b=>Uf n t9 t10 b (Ob n m) (fun a=>some (.out a)) (fun a=>some (.ret a)) (fun p=>some (.pan p))
theorem rW (n m:Nat) {S:Type}:∀ t9 t10 b (φ:_→Option S),(Ob n (m+1) t9 t10 b).bind φ=Uf n t9 t10 b (fun t9 t10 b=>(Ob n m t9 t10 b).bind φ) (fun a=>φ (.out a)) (fun a=>φ (.ret a)) (fun p=>φ (.pan p)):=by
  intros;first | (simp only [Ob,Uf,ja,aa,iB,bB,oL,oX,nB,Option.bind_some]) | rfl
def Br:List Sl:=.top::.top::.top::.row 0::tp 4 (.row 0::.dat (.int .i64)::.dat (.int .i64)::tp 19 [])
def Ar:List RS:=[.row 5 1 (.int .u8) false true]
def ZG:List Sl:=.top::.top::.top::.row 0::tp 26 []
def YG:List RS:=[.row 5 1 (.int .u8) false true]
def Le (K:XE→List AV→oa→Option Out):Lx ((Sq Int)) Unit→Option Out:=fun x=>onL x (fun a=>tc ZG YG () (a,()) (K (.exit 0))) (fun _=>none) (fun _=>none)
def PA (n:Nat) {R:Type} (s:BA) (k:BA→Option R):Option R:=(Ob n n (s.size:Int) (0:Int) (⟨s.size,fun q=>bt s q⟩:Sq Int)).bind fun x_1=>onL x_1 (fun a_2=>k (uC a_2.n a_2.at')) (fun _=>none) (fun _=>none)
def Bm (n:Nat) (s:BA):Option BA:=PA n s some
theorem Mab (n:Nat) {S:Type}:∀ s (φ:_→Option S),(Bm n s).bind φ=PA n s φ:=by
  intros;unfold Bm PA;first | (simp only [ja,aa,iB,bB,oL,oX,nB,Option.bind_some]) | rfl
def Dm (n:Nat):Hint Out:={ live:=fun c=>(cond (Nat.beq c 0) [(3,some (.sl (.int .u8))),(8,some (.sl (.int .u8))),(9,none),(10,none)] []),run:=fun c=>(cond (Nat.beq c 0) (some (Zg Br Ar fun σ ρ K=>(Ob n n σ.1 σ.2.1 ρ.1).bind (Le K))) none),xm:=fun c q=>(cond (Nat.beq c 0&&Nat.beq (q.getD 1000000) 0&&q.isSome) (some [(3,some (.sl (.int .u8)))]) none) }
def Cm (n:Nat) (K:XE→List AV→oa→Option Out) (m:Nat) (t9:Int) (t10:Int) (b:(Sq Int)):Option Out:=Nc tys (ia Out (Nn n)) (Dm n) n (wa [1,1,0,1,0,0] (fa Tryz.f154)) 0 Br Ar K m (t9,(t10,())) (b,())
theorem XG (n:Nat) (K:XE→List AV→oa→Option Out):∀ (m:Nat) t9 t10 b,Cm n K m t9 t10 b=(Ob n m t9 t10 b).bind (Le K)
  | 0,_,_,_=>by kernel_rfl
  | m+1,t9,t10,b=>by
    have h1:Cm n K (m+1) t9 t10 b=Uf n t9 t10 b (Cm n K m) (fun a=>Le K (.out a)) (fun a=>Le K (.ret a)) (fun p=>Le K (.pan p)):=by kernel_rfl
    have h2:Cm n K m=fun t9 t10 b=>(Ob n m t9 t10 b).bind (Le K):=by
      repeat (refine funext fun _=>?_)
      exact XG n K m _ _ _
    rw [h1,h2];exact (rW n m _ _ _ (Le K)).symm
theorem mT (n:Nat):Bc tys (ia Out (Nn n)) (Dm n) n (wa [1,1,0,1,0,0] (fa Tryz.f154)) 0:=Ea (sp:=Br) (rp:=Ar) (by kernel_rfl) fun K σ ρ=>XG n K n σ.1 σ.2.1 ρ.1
theorem sW (n:Nat):qa tys (ia Out (Nn n)) (Dm n) n (fa Tryz.f154) 0:=⟨trivial,⟨trivial,⟨⟨trivial,⟨mT n,⟨trivial,⟨⟨trivial,trivial⟩,⟨⟨trivial,⟨trivial,⟨trivial,trivial⟩⟩⟩,trivial⟩⟩⟩⟩⟩,⟨trivial,trivial⟩⟩⟩⟩
theorem nZ (n:Nat):Enters Tryz.prog 154:=enters_of (c:=fa Tryz.f154) Tryz.func154 (by kernel_rfl) (by kernel_rfl)
def OP (n:Nat):Entry:=⟨154,pcT (.pair .str .unit) (.one .str) (fun xs=>Bm n xs.1),none,none⟩
theorem F5 (n:Nat):EntryOk Tryz.prog gl (OP n):=za (nZ n) fun xs y h=>na tys_ok (IC n) mixed (hint:=Dm n) (n:=n) Tryz.func154 (Aa (sW n)) (la (φ:=(fun y=>some (Out.ret (qb (.one .str) y)))) (by kernel_rfl) (Mab n xs.1 _) h)
def bE (n:Nat):List Entry:=OP n::Nn n
theorem Cr (n:Nat):AllOk Tryz.prog gl (bE n):=.cons (F5 n) (IC n)
def Uk (n:Nat) {R:Type} (s:BA) (k:U0→Option R) (kp:Int→Option R):Option R:=(Di n s).bind fun x_1=>onX x_1 (fun p=>kp p) (fun v=>if (decide ((v.1.size:Int)≤(64:Int)))=true then (Lb n v.2.1 (⟨#[64]⟩:BA)).bind fun v1=>(Cb n v1).bind fun x_2=>onX x_2 (fun p1=>kp p1) (fun v2=>if 0≤(1:Int)∧(1:Int)≤(v.2.1.size:Int) then (Bm n (v.2.1.extract (Int.toNat (1:Int)) (Int.toNat (v.2.1.size:Int)))).bind fun v3=>(Tc n v3).bind fun v4=>(Cb n v4).bind fun x_3=>onX x_3 (fun p2=>kp p2) (fun v5=>k (v.1,(v3,()))) else none) else (Cb n false).bind fun x_4=>onX x_4 (fun p3=>kp p3) (fun v6=>if 0≤(1:Int)∧(1:Int)≤(v.2.1.size:Int) then (Bm n (v.2.1.extract (Int.toNat (1:Int)) (Int.toNat (v.2.1.size:Int)))).bind fun v7=>(Tc n v7).bind fun v8=>(Cb n v8).bind fun x_5=>onX x_5 (fun p4=>kp p4) (fun v9=>k (v.1,(v7,()))) else none))
def Rn (n:Nat) (s:BA):Option (Except Int U0):=Uk n s (fun y=>some (.ok y)) (fun p=>some (.error p))
theorem lZ (n:Nat) {S:Type}:∀ s (φ:_→Option S),(Rn n s).bind φ=Uk n s (fun y=>φ (.ok y)) (fun p=>φ (.error p)):=by
  intros;unfold Rn Uk;first | (simp only [ja,aa,iB,bB,oL,oX,nB,Option.bind_some]) | rfl
def Yx (n:Nat):Hint Out:={ live:=fun c=>[],run:=fun c=>none,xm:=fun c q=>none }
theorem rM (n:Nat):qa tys (ia Out (bE n)) (Yx n) n (fa Tryz.f147) 0:=ma (fun _=>rfl) _ _ (by kernel_rfl)
theorem D5 (n:Nat):Enters Tryz.prog 147:=enters_of (c:=fa Tryz.f147) Tryz.func147 (by kernel_rfl) (by kernel_rfl)
def ZU (n:Nat):Entry:=⟨147,pcX 174 (.pair .str .unit) (.one (.pair .str (.pair .str .unit))) (fun xs=>Rn n xs.1),none,none⟩
theorem Kab (n:Nat):EntryOk Tryz.prog gl (ZU n):=DH (D5 n) (fun xs y h=>na tys_ok (Cr n) mixed (hint:=Yx n) (n:=n) Tryz.func147 (Aa (rM n)) (la (φ:=(fun r=>onX r (fun p=>some (Out.pan (ph 174 p))) fun y=>some (Out.ret (qb (.one (.pair .str (.pair .str .unit))) y)))) (by kernel_rfl) (lZ n xs.1 _) h)) (fun xs p h=>na tys_ok (Cr n) mixed (hint:=Yx n) (n:=n) Tryz.func147 (Aa (rM n)) (la (φ:=(fun r=>onX r (fun p=>some (Out.pan (ph 174 p))) fun y=>some (Out.ret (qb (.one (.pair .str (.pair .str .unit))) y)))) (by kernel_rfl) (lZ n xs.1 _) h))
def Bn (n:Nat):List Entry:=ZU n::bE n
theorem UG (n:Nat):AllOk Tryz.prog gl (Bn n):=.cons (Kab n) (Cr n)
def An (n:Nat) {R:Type} (s:BA) (k:(U0×Int×Unit)→Option R):Option R:=(Rn n s).bind fun x_1=>onX x_1 (fun p=>k (((⟨#[]⟩:BA),((⟨#[]⟩:BA),())),(p,()))) (fun v=>k ((v.1,(v.2.1,())),((0:Int),())))
def sm (n:Nat) (s:BA):Option (U0×Int×Unit):=An n s some
theorem Dab (n:Nat) {S:Type}:∀ s (φ:_→Option S),(sm n s).bind φ=An n s φ:=by
  intros;unfold sm An;first | (simp only [ja,aa,iB,bB,oL,oX,nB,Option.bind_some]) | rfl
def tm (n:Nat):Hint Out:={ live:=fun c=>[],run:=fun c=>none,xm:=fun c q=>none,pm:=some [(2,none),(3,none)] }
theorem jW (n:Nat):qa tys (ia Out (Bn n)) (tm n) n (wa [0] (fa Tryz.f123)) 0∧qa tys (ia Out (Bn n)) (tm n) n (wa [1,1] (fa Tryz.f123)) 0:=⟨trivial,⟨trivial,trivial⟩⟩
theorem aZ (n:Nat):Enters Tryz.prog 123:=enters_of (c:=fa Tryz.f123) Tryz.func123 (by kernel_rfl) (by kernel_rfl)
theorem mM:Tryz.prog.funcs[146]?=some Tryz.f146:=by kernel_rfl
theorem iW:Enters Tryz.prog 146:=enters_of (c:=fa Tryz.f146) mM (by kernel_rfl) (by kernel_rfl)
theorem eT (n:Nat):qa tys (ia Out (Bn n)) ZW n (wa [1] (fa Tryz.f146)) 0:=⟨⟨trivial,⟨trivial,trivial⟩⟩,⟨trivial,⟨⟨trivial,⟨trivial,trivial⟩⟩,trivial⟩⟩⟩
theorem Cab (n:Nat) (s:BA):fnD tys (ia Out (Bn n)) (tm n) n 146 Tryz.f146 Tryz.f123 (gbb (.pair .str .unit) (s,())) (I7 fun v=>some (.ret v))=An n s (fun y=>some (.ret (qb (.many (.pair (.pair .str (.pair .str .unit)) (.pair (.int .i64) .unit))) y))):=by kernel_rfl
def BP (n:Nat):Entry:=⟨123,pcT (.pair .str .unit) (.many (.pair (.pair .str (.pair .str .unit)) (.pair (.int .i64) .unit))) (fun xs=>sm n xs.1),none,none⟩
theorem u5 (n:Nat):EntryOk Tryz.prog gl (BP n):=za (aZ n) fun xs y h=>cV tys_ok (UG n) mixed (hint:=tm n) (n:=n) (fn:=Tryz.f123) (f2:=Tryz.f146) Tryz.func123 mM iW (xkb (jW n)) (Lhb (eT n)) (la (φ:=(fun y=>some (Out.ret (qb (.many (.pair (.pair .str (.pair .str .unit)) (.pair (.int .i64) .unit))) y)))) (Cab n xs.1) (Dab n xs.1 _) h)
def UD (n:Nat):List Entry:=BP n::Bn n
theorem HC (n:Nat):AllOk Tryz.prog gl (UD n):=.cons (u5 n) (UG n)
def UO (n:Nat) {R:Type} (m0:U0) (k:Bool→Option R):Option R:=(UU n (m0.1,(m0.2.1,()))).bind fun v=>(sm n v).bind fun v1=>if (v1.2.1==(0:Int))=true then k ((v1.1.1.toList==m0.1.toList)&&((v1.1.2.1.toList==m0.2.1.toList)&&true)) else k false
def Sx (n:Nat) (m0:U0):Option Bool:=UO n m0 some
theorem Lfb (n:Nat) {S:Type}:∀ m0 (φ:_→Option S),(Sx n m0).bind φ=UO n m0 φ:=by
  intros;unfold Sx UO;first | (simp only [ja,aa,iB,bB,oL,oX,nB,Option.bind_some]) | rfl
def AP (n:Nat):Hint Out:={ live:=fun c=>[],run:=fun c=>none,xm:=fun c q=>none }
theorem r5 (n:Nat):qa tys (ia Out (UD n)) (AP n) n (fa Tryz.f91) 0:=ma (fun _=>rfl) _ _ (by kernel_rfl)
theorem Bab (n:Nat):Enters Tryz.prog 91:=enters_of (c:=fa Tryz.f91) Tryz.func91 (by kernel_rfl) (by kernel_rfl)
def ZY (n:Nat):Entry:=⟨91,pcT (.pair (.pair .str (.pair .str .unit)) .unit) (.one .bool) (fun xs=>Sx n xs.1),none,none⟩
theorem Ncb (n:Nat):EntryOk Tryz.prog gl (ZY n):=za (Bab n) fun xs y h=>na tys_ok (HC n) mixed (hint:=AP n) (n:=n) Tryz.func91 (Aa (r5 n)) (la (φ:=(fun y=>some (Out.ret (qb (.one .bool) y)))) (by kernel_rfl) (Lfb n xs.1 _) h)
def Tx (n:Nat):List Entry:=ZY n::UD n
theorem lM (n:Nat):AllOk Tryz.prog gl (Tx n):=.cons (Ncb n) (HC n)
def cS (n:Nat) {R:Type} (s1:(Sq U0)) (t7 t8:Int) (v1 v2:BA) (kn:(Sq U0)→Int→Int→BA→BA→Option R) (ko:(Unit)→Option R) (kr:(Int)→Option R) (kp:Int→Option R):Option R:=if (decide (t8<t7))=true then if 0≤t8∧t8<(s1.n:Int) then if ((v1.toList==(((s1.at' (Int.toNat t8))).1).toList)&&((v2.toList==((((s1.at' (Int.toNat t8))).2).1).toList)&&true))=true then kr t8 else kn s1 t7 (IntKind.wrap .i64 (t8+(1:Int))) v1 v2 else none else ko ()
def Mw (n:Nat):Nat→(Sq U0)→Int→Int→BA→BA→Option (Lx (Unit) (Int))
 | 0,_,_,_,_,_=>none
 | m+1,s1,t7,t8,v1,v2=>cS n s1 t7 t8 v1 v2 (Mw n m) (fun a=>some (.out a)) (fun a=>some (.ret a)) (fun p=>some (.pan p))
theorem Hgb (n m:Nat) {S:Type}:∀ s1 t7 t8 v1 v2 (φ:_→Option S),(Mw n (m+1) s1 t7 t8 v1 v2).bind φ=cS n s1 t7 t8 v1 v2 (fun s1 t7 t8 v1 v2=>(Mw n m s1 t7 t8 v1 v2).bind φ) (fun a=>φ (.out a)) (fun a=>φ (.ret a)) (fun p=>φ (.pan p)):=by
  intros;first | (simp only [Mw,cS,ja,aa,iB,bB,oL,oX,nB,Option.bind_some]) | rfl
def fS:List Sl:=.dat (.sl (.pair .str (.pair .str .unit)))::.top::.top::.ptr 0 0 0::.top::.top::.top::.dat (.int .i64)::.dat (.int .i64)::tp 10 []
def dS:List RS:=[.box 25 2 true [.dat .str,.dat .str]]
def jY:List Sl:=tp 19 []
def iY:List RS:=[]
def lY:List Sl:=tp 4 (.dat (.int .i64)::tp 14 [])
def kY:List RS:=[]
def Vv (K:XE→List AV→oa→Option Out):Lx (Unit) (Int)→Option Out:=fun x=>onL x (fun a=>tc jY iY () () (K (.exit 0))) (fun a=>tc lY kY (a,()) () (K .ret)) (fun _=>none)
def Ggb (n:Nat) {R:Type} (s:(Sq U0)) (v:U0) (k:Int→Option R):Option R:=(Mw n n s (s.n:Int) (0:Int) v.1 v.2.1).bind fun x_1=>onL x_1 (fun a_2=>k (-1:Int)) (fun a_3=>k a_3) (fun _=>none)
def sIx (n:Nat) (s:(Sq U0)) (v:U0):Option Int:=Ggb n s v some
theorem Hlb (n:Nat) {S:Type}:∀ s v (φ:_→Option S),(sIx n s v).bind φ=Ggb n s v φ:=by
  intros;unfold sIx Ggb;first | (simp only [ja,aa,iB,bB,oL,oX,nB,Option.bind_some]) | rfl
def oP (n:Nat):Hint Out:={ live:=fun c=>(cond (Nat.beq c 0) [(0,some (.sl (.pair .str (.pair .str .unit)))),(3,none),(7,none),(8,none)] []),run:=fun c=>(cond (Nat.beq c 0) (some (Zg fS dS fun σ ρ K=>(Mw n n σ.1 σ.2.1 σ.2.2.1 ρ.1.1 ρ.1.2.1).bind (Vv K))) none),xm:=fun c q=>(cond (Nat.beq c 0&&Nat.beq (q.getD 1000000) 0&&q.isSome) (some []) (cond (Nat.beq c 1&&q.isNone) (some [(4,none)]) none)) }
def nP (n:Nat) (K:XE→List AV→oa→Option Out) (m:Nat) (s1:(Sq U0)) (t7:Int) (t8:Int) (v1:BA) (v2:BA):Option Out:=Nc tys (ia Out (Tx n)) (oP n) n (wa [1,0,1,0,0] (fa Tryz.f103)) 0 fS dS K m (s1,(t7,(t8,()))) ((v1,(v2,())),())
theorem Z9 (n:Nat) (K:XE→List AV→oa→Option Out):∀ (m:Nat) s1 t7 t8 v1 v2,nP n K m s1 t7 t8 v1 v2=(Mw n m s1 t7 t8 v1 v2).bind (Vv K)
  | 0,_,_,_,_,_=>by kernel_rfl
  | m+1,s1,t7,t8,v1,v2=>by
    have h1:nP n K (m+1) s1 t7 t8 v1 v2=cS n s1 t7 t8 v1 v2 (nP n K m) (fun a=>Vv K (.out a)) (fun a=>Vv K (.ret a)) (fun p=>Vv K (.pan p)):=by kernel_rfl
    have h2:nP n K m=fun s1 t7 t8 v1 v2=>(Mw n m s1 t7 t8 v1 v2).bind (Vv K):=by
      repeat (refine funext fun _=>?_)
      exact Z9 n K m _ _ _ _ _
    rw [h1,h2];exact (Hgb n m _ _ _ _ _ (Vv K)).symm
theorem Ieb (n:Nat):Bc tys (ia Out (Tx n)) (oP n) n (wa [1,0,1,0,0] (fa Tryz.f103)) 0:=Ea (sp:=fS) (rp:=dS) (by kernel_rfl) fun K σ ρ=>Z9 n K n σ.1 σ.2.1 σ.2.2.1 ρ.1.1 ρ.1.2.1
theorem Igb (n:Nat):qa tys (ia Out (Tx n)) (oP n) n (fa Tryz.f103) 0:=⟨trivial,⟨⟨trivial,⟨Ieb n,⟨trivial,⟨⟨trivial,trivial⟩,⟨⟨trivial,⟨trivial,⟨⟨trivial,trivial⟩,trivial⟩⟩⟩,trivial⟩⟩⟩⟩⟩,⟨trivial,trivial⟩⟩⟩
theorem kjb (n:Nat):Enters Tryz.prog 103:=enters_of (c:=fa Tryz.f103) Tryz.func103 (by kernel_rfl) (by kernel_rfl)
def Nhb (n:Nat):Entry:=⟨103,pcT K6 (.one (.int .i64)) (fun xs=>sIx n xs.1 xs.2.1),none,none⟩
theorem zkb (n:Nat):EntryOk Tryz.prog gl (Nhb n):=za (kjb n) fun xs y h=>na tys_ok (lM n) mixed (hint:=oP n) (n:=n) Tryz.func103 (Aa (Igb n)) (la (φ:=(fun y=>some (Out.ret (qb (.one (.int .i64)) y)))) (by kernel_rfl) (Hlb n xs.1 xs.2.1 _) h)
def Jeb (n:Nat):List Entry:=Nhb n::Tx n
theorem F3 (n:Nat):AllOk Tryz.prog gl (Jeb n):=.cons (zkb n) (lM n)
def Dgb (n:Nat) {R:Type} (s:(Sq U0)) (v:U0) (k:Bool→Option R):Option R:=(sIx n s (v.1,(v.2.1,()))).bind fun v1=>k (decide (v1≥(0:Int)))
def sCn (n:Nat) (s:(Sq U0)) (v:U0):Option Bool:=Dgb n s v some
theorem Glb (n:Nat) {S:Type}:∀ s v (φ:_→Option S),(sCn n s v).bind φ=Dgb n s v φ:=by
  intros;unfold sCn Dgb;first | (simp only [ja,aa,iB,bB,oL,oX,nB,Option.bind_some]) | rfl
def Y9 (n:Nat):Hint Out:={ live:=fun c=>[],run:=fun c=>none,xm:=fun c q=>none }
theorem Egb (n:Nat):qa tys (ia Out (Jeb n)) (Y9 n) n (fa Tryz.f75) 0:=ma (fun _=>rfl) _ _ (by kernel_rfl)
theorem jjb (n:Nat):Enters Tryz.prog 75:=enters_of (c:=fa Tryz.f75) Tryz.func75 (by kernel_rfl) (by kernel_rfl)
def Mhb (n:Nat):Entry:=⟨75,pcT K6 (.one .bool) (fun xs=>sCn n xs.1 xs.2.1),none,none⟩
theorem ykb (n:Nat):EntryOk Tryz.prog gl (Mhb n):=za (jjb n) fun xs y h=>na tys_ok (F3 n) mixed (hint:=Y9 n) (n:=n) Tryz.func75 (Aa (Egb n)) (la (φ:=(fun y=>some (Out.ret (qb (.one .bool) y)))) (by kernel_rfl) (Glb n xs.1 xs.2.1 _) h)
def y3 (n:Nat):List Entry:=Mhb n::Jeb n
theorem A3 (n:Nat):AllOk Tryz.prog gl (y3 n):=.cons (ykb n) (F3 n)
def xK (n:Nat) {R:Type} (l1 t5:(Sq U0)) (t6 t7:Int) (kn:(Sq U0)→(Sq U0)→Int→Int→Option R) (ko:((Sq U0))→Option R) (kr:(Bool)→Option R) (kp:Int→Option R):Option R:=if (decide (t7<t6))=true then if 0≤t7∧t7<(t5.n:Int) then (Sx n (((t5.at' (Int.toNat t7))).1,((((t5.at' (Int.toNat t7))).2).1,()))).bind fun v=>if (!v)=false then if 0≤t7∧t7≤(l1.n:Int) then (sCn n (⟨((Int.toNat t7) - (Int.toNat (0:Int))),fun i=>l1.at' ((Int.toNat (0:Int))+i)⟩:Sq U0) (((t5.at' (Int.toNat t7))).1,((((t5.at' (Int.toNat t7))).2).1,()))).bind fun v1=>if v1=true then kr false else kn l1 t5 t6 (IntKind.wrap .i64 (t7+(1:Int))) else none else kr false else none else ko l1
def Xn (n:Nat):Nat→(Sq U0)→(Sq U0)→Int→Int→Option (Lx ((Sq U0)) (Bool))
 | 0,_,_,_,_=>none
 | m+1,l1,t5,t6,t7=>xK n l1 t5 t6 t7 (Xn n m) (fun a=>some (.out a)) (fun a=>some (.ret a)) (fun p=>some (.pan p))
theorem adb (n m:Nat) {S:Type}:∀ l1 t5 t6 t7 (φ:_→Option S),(Xn n (m+1) l1 t5 t6 t7).bind φ=xK n l1 t5 t6 t7 (fun l1 t5 t6 t7=>(Xn n m l1 t5 t6 t7).bind φ) (fun a=>φ (.out a)) (fun a=>φ (.ret a)) (fun p=>φ (.pan p)):=by
  intros;first | (simp only [Xn,xK,ja,aa,iB,bB,oL,oX,nB,Option.bind_some]) | rfl
def zK:List Sl:=.dat (.sl (.pair .str (.pair .str .unit)))::tp 4 (.dat (.sl (.pair .str (.pair .str .unit)))::.dat (.int .i64)::.dat (.int .i64)::tp 18 [])
def yK:List RS:=[]
def FT:List Sl:=.dat (.sl (.pair .str (.pair .str .unit)))::tp 25 []
def ET:List RS:=[]
def HT:List Sl:=.top::.top::.dat .bool::tp 23 []
def GT:List RS:=[]
def Yn (K:XE→List AV→oa→Option Out):Lx ((Sq U0)) (Bool)→Option Out:=fun x=>onL x (fun a=>tc FT ET (a,()) () (K (.exit 0))) (fun a=>tc HT GT (a,()) () (K .ret)) (fun _=>none)
def T8 (n:Nat) {R:Type} (l:(Sq U0)) (k:Bool→Option R):Option R:=(Xn n n l l (l.n:Int) (0:Int)).bind fun x_1=>onL x_1 (fun a_2=>k (decide ((a_2.n:Int)≤(8:Int)))) (fun a_3=>k a_3) (fun _=>none)
def Ufb (n:Nat) (l:(Sq U0)):Option Bool:=T8 n l some
theorem Sjb (n:Nat) {S:Type}:∀ l (φ:_→Option S),(Ufb n l).bind φ=T8 n l φ:=by
  intros;unfold Ufb T8;first | (simp only [ja,aa,iB,bB,oL,oX,nB,Option.bind_some]) | rfl
def oH (n:Nat):Hint Out:={ live:=fun c=>(cond (Nat.beq c 0) [(0,some (.sl (.pair .str (.pair .str .unit)))),(5,some (.sl (.pair .str (.pair .str .unit)))),(6,none),(7,none)] []),run:=fun c=>(cond (Nat.beq c 0) (some (Zg zK yK fun σ ρ K=>(Xn n n σ.1 σ.2.1 σ.2.2.1 σ.2.2.2.1).bind (Yn K))) none),xm:=fun c q=>(cond (Nat.beq c 0&&Nat.beq (q.getD 1000000) 0&&q.isSome) (some [(0,some (.sl (.pair .str (.pair .str .unit))))]) (cond (Nat.beq c 1&&q.isNone) (some [(2,none)]) none)) }
def nH (n:Nat) (K:XE→List AV→oa→Option Out) (m:Nat) (l1:(Sq U0)) (t5:(Sq U0)) (t6:Int) (t7:Int):Option Out:=Nc tys (ia Out (y3 n)) (oH n) n (wa [1,0,1,0,0] (fa Tryz.f92)) 0 zK yK K m (l1,(t5,(t6,(t7,())))) ()
theorem LZ (n:Nat) (K:XE→List AV→oa→Option Out):∀ (m:Nat) l1 t5 t6 t7,nH n K m l1 t5 t6 t7=(Xn n m l1 t5 t6 t7).bind (Yn K)
  | 0,_,_,_,_=>by kernel_rfl
  | m+1,l1,t5,t6,t7=>by
    have h1:nH n K (m+1) l1 t5 t6 t7=xK n l1 t5 t6 t7 (nH n K m) (fun a=>Yn K (.out a)) (fun a=>Yn K (.ret a)) (fun p=>Yn K (.pan p)):=by kernel_rfl
    have h2:nH n K m=fun l1 t5 t6 t7=>(Xn n m l1 t5 t6 t7).bind (Yn K):=by
      repeat (refine funext fun _=>?_)
      exact LZ n K m _ _ _ _
    rw [h1,h2];exact (adb n m _ _ _ _ (Yn K)).symm
theorem abb (n:Nat):Bc tys (ia Out (y3 n)) (oH n) n (wa [1,0,1,0,0] (fa Tryz.f92)) 0:=Ea (sp:=zK) (rp:=yK) (by kernel_rfl) fun K σ ρ=>LZ n K n σ.1 σ.2.1 σ.2.2.1 σ.2.2.2.1
theorem cdb (n:Nat):qa tys (ia Out (y3 n)) (oH n) n (fa Tryz.f92) 0:=⟨trivial,⟨⟨trivial,⟨abb n,⟨trivial,⟨⟨trivial,trivial⟩,⟨⟨trivial,⟨trivial,⟨⟨trivial,trivial⟩,trivial⟩⟩⟩,trivial⟩⟩⟩⟩⟩,⟨trivial,trivial⟩⟩⟩
theorem Vfb (n:Nat):Enters Tryz.prog 92:=enters_of (c:=fa Tryz.f92) Tryz.func92 (by kernel_rfl) (by kernel_rfl)
def bdb (n:Nat):Entry:=⟨92,pcT (.pair (.sl (.pair .str (.pair .str .unit))) .unit) (.one .bool) (fun xs=>Ufb n xs.1),none,none⟩
theorem kib (n:Nat):EntryOk Tryz.prog gl (bdb n):=za (Vfb n) fun xs y h=>na tys_ok (A3 n) mixed (hint:=oH n) (n:=n) Tryz.func92 (Aa (cdb n)) (la (φ:=(fun y=>some (Out.ret (qb (.one .bool) y)))) (by kernel_rfl) (Sjb n xs.1 _) h)
def Y5 (n:Nat):List Entry:=bdb n::y3 n
theorem jV (n:Nat):AllOk Tryz.prog gl (Y5 n):=.cons (kib n) (A3 n)
def Np (n:Nat) {R:Type} (c:T0) (k:Bool→Option R):Option R:=if (decide (c.2.2.2.2.1<(2:Int)))=false then if (decide (c.2.2.2.2.1>(4:Int)))=true then if (!c.2.2.2.2.2.2.1)=true then if ((c.2.2.2.2.2.2.2.1.1.toList==(⟨#[]⟩:BA).toList)&&((c.2.2.2.2.2.2.2.1.2.1.toList==(⟨#[]⟩:BA).toList)&&true))=true then k ((c.2.2.2.2.2.2.2.2.1.n:Int)==(0:Int)) else k false else k false else if c.2.2.2.2.2.2.1=true then if (!((c.2.2.2.2.2.2.2.1.1.toList==(⟨#[]⟩:BA).toList)&&((c.2.2.2.2.2.2.2.1.2.1.toList==(⟨#[]⟩:BA).toList)&&true)))=false then if (!c.2.2.2.2.2.2.1)=true then (Sx n c.2.2.2.2.2.2.2.1).bind fun v=>if (!v)=true then k false else (Ufb n c.2.2.2.2.2.2.2.2.1).bind fun v1=>if v1=true then k (((c.2.2.2.2.2.2.2.2.1.n:Int)==(0:Int))==(c.2.2.2.2.1==(2:Int))) else k false else (Ufb n c.2.2.2.2.2.2.2.2.1).bind fun v2=>if v2=true then k (((c.2.2.2.2.2.2.2.2.1.n:Int)==(0:Int))==(c.2.2.2.2.1==(2:Int))) else k false else k false else if (!c.2.2.2.2.2.2.1)=true then (Sx n c.2.2.2.2.2.2.2.1).bind fun v3=>if (!v3)=true then k false else (Ufb n c.2.2.2.2.2.2.2.2.1).bind fun v4=>if v4=true then k (((c.2.2.2.2.2.2.2.2.1.n:Int)==(0:Int))==(c.2.2.2.2.1==(2:Int))) else k false else (Ufb n c.2.2.2.2.2.2.2.2.1).bind fun v5=>if v5=true then k (((c.2.2.2.2.2.2.2.2.1.n:Int)==(0:Int))==(c.2.2.2.2.1==(2:Int)))
 else k false else if (!c.2.2.2.2.2.2.1)=true then if ((c.2.2.2.2.2.2.2.1.1.toList==(⟨#[]⟩:BA).toList)&&((c.2.2.2.2.2.2.2.1.2.1.toList==(⟨#[]⟩:BA).toList)&&true))=true then k ((c.2.2.2.2.2.2.2.2.1.n:Int)==(0:Int)) else k false else k false
def ee (n:Nat) (c:T0):Option Bool:=Np n c some
theorem EZ (n:Nat) {S:Type}:∀ c (φ:_→Option S),(ee n c).bind φ=Np n c φ:=by
  intros;unfold ee Np;first | (simp only [ja,aa,iB,bB,oL,oX,nB,Option.bind_some]) | rfl
def yy (n:Nat):Hint Out:={ live:=fun c=>[],run:=fun c=>none,xm:=fun c q=>none }
theorem jQ (n:Nat):qa tys (ia Out (Y5 n)) (yy n) n (fa Tryz.f66) 0:=ma (fun _=>rfl) _ _ (by kernel_rfl)
theorem BT (n:Nat):Enters Tryz.prog 66:=enters_of (c:=fa Tryz.f66) Tryz.func66 (by kernel_rfl) (by kernel_rfl)
def iH (n:Nat):Entry:=⟨66,pcT K1 (.one .bool) (fun xs=>ee n xs.1),none,none⟩
theorem MW (n:Nat):EntryOk Tryz.prog gl (iH n):=za (BT n) fun xs y h=>na tys_ok (jV n) mixed (hint:=yy n) (n:=n) Tryz.func66 (Aa (jQ n)) (la (φ:=(fun y=>some (Out.ret (qb (.one .bool) y)))) (by kernel_rfl) (EZ n xs.1 _) h)
def jH (n:Nat):List Entry:=iH n::Y5 n
theorem AN (n:Nat):AllOk Tryz.prog gl (jH n):=.cons (MW n) (jV n)
def Tj (n:Nat):List Entry:=⟨126,pcT (.pair .str (.pair .str .unit)) (.one .bool) (fun xs=>ebb xs.1 xs.2.1),none,none⟩::jH n
theorem fm (n:Nat):AllOk Tryz.prog gl (Tj n):=.cons KT (AN n)
def iv (n:Nat) {R:Type} (s:BA) (k:Bool→Option R):Option R:=if (decide ((s.size:Int)≤(509:Int)))=true then (ebb s (⟨#[13,10]⟩:BA)).bind fun v=>k (!v) else k false
def Yk (n:Nat) (s:BA):Option Bool:=iv n s some
theorem l6 (n:Nat) {S:Type}:∀ s (φ:_→Option S),(Yk n s).bind φ=iv n s φ:=by
  intros;unfold Yk iv;first | (simp only [ja,aa,iB,bB,oL,oX,nB,Option.bind_some]) | rfl
def UC (n:Nat):Hint Out:={ live:=fun c=>[],run:=fun c=>none,xm:=fun c q=>none }
theorem LT (n:Nat):qa tys (ia Out (Tj n)) (UC n) n (fa Tryz.f95) 0:=ma (fun _=>rfl) _ _ (by kernel_rfl)
theorem SW (n:Nat):Enters Tryz.prog 95:=enters_of (c:=fa Tryz.f95) Tryz.func95 (by kernel_rfl) (by kernel_rfl)
def GM (n:Nat):Entry:=⟨95,pcT (.pair .str .unit) (.one .bool) (fun xs=>Yk n xs.1),none,none⟩
theorem QZ (n:Nat):EntryOk Tryz.prog gl (GM n):=za (SW n) fun xs y h=>na tys_ok (fm n) mixed (hint:=UC n) (n:=n) Tryz.func95 (Aa (LT n)) (la (φ:=(fun y=>some (Out.ret (qb (.one .bool) y)))) (by kernel_rfl) (l6 n xs.1 _) h)
def Iy (n:Nat):List Entry:=GM n::Tj n
theorem Jy (n:Nat):AllOk Tryz.prog gl (Iy n):=.cons (QZ n) (fm n)
def VA (n:Nat) {R:Type} (s:BA) (k:Bool→Option R):Option R:=(Yk n s).bind fun v=>k (!v)
def UA (n:Nat) (s:BA):Option Bool:=VA n s some
theorem Yab (n:Nat) {S:Type}:∀ s (φ:_→Option S),(UA n s).bind φ=VA n s φ:=by
  intros;unfold UA VA;first | (simp only [ja,aa,iB,bB,oL,oX,nB,Option.bind_some]) | rfl
def mH (n:Nat):Hint Out:={ live:=fun c=>[],run:=fun c=>none,xm:=fun c q=>none }
theorem OW (n:Nat):qa tys (ia Out (Iy n)) (mH n) n (fa Tryz.f94) 0:=ma (fun _=>rfl) _ _ (by kernel_rfl)
theorem JZ (n:Nat):Enters Tryz.prog 94:=enters_of (c:=fa Tryz.f94) Tryz.func94 (by kernel_rfl) (by kernel_rfl)
def oQ (n:Nat):Entry:=⟨94,pcT (.pair .str .unit) (.one .bool) (fun xs=>UA n xs.1),none,none⟩
theorem W5 (n:Nat):EntryOk Tryz.prog gl (oQ n):=za (JZ n) fun xs y h=>na tys_ok (Jy n) mixed (hint:=mH n) (n:=n) Tryz.func94 (Aa (OW n)) (la (φ:=(fun y=>some (Out.ret (qb (.one .bool) y)))) (by kernel_rfl) (Yab n xs.1 _) h)
def Vn (n:Nat):List Entry:=oQ n::Iy n
theorem TC (n:Nat):AllOk Tryz.prog gl (Vn n):=.cons (W5 n) (Jy n)
def Uo (n:Nat) {R:Type} (s1:(Sq BA)) (t7 t8:Int) (kn:(Sq BA)→Int→Int→Option R) (ko:(Unit)→Option R) (kr:(Int)→Option R) (kp:Int→Option R):Option R:=if (decide (t8<t7))=true then if 0≤t8∧t8<(s1.n:Int) then (UA n (s1.at' (Int.toNat t8))).bind fun v=>if v=true then kr t8 else kn s1 t7 (IntKind.wrap .i64 (t8+(1:Int))) else none else ko ()
def vf (n:Nat):Nat→(Sq BA)→Int→Int→Option (Lx (Unit) (Int))
 | 0,_,_,_=>none
 | m+1,s1,t7,t8=>Uo n s1 t7 t8 (vf n m) (fun a=>some (.out a)) (fun a=>some (.ret a)) (fun p=>some (.pan p))
theorem F7 (n m:Nat) {S:Type}:∀ s1 t7 t8 (φ:_→Option S),(vf n (m+1) s1 t7 t8).bind φ=Uo n s1 t7 t8 (fun s1 t7 t8=>(vf n m s1 t7 t8).bind φ) (fun a=>φ (.out a)) (fun a=>φ (.ret a)) (fun p=>φ (.pan p)):=by
  intros;first | (simp only [vf,Uo,ja,aa,iB,bB,oL,oX,nB,Option.bind_some]) | rfl
def Yz:List Sl:=.dat (.sl .str)::.fnc 94::tp 5 (.dat (.int .i64)::.dat (.int .i64)::tp 10 [])
def Xz:List RS:=[.ghost [.top,.top]]
def oO:List Sl:=tp 19 []
def nO:List RS:=[.ghost [.top,.top]]
def qO:List Sl:=tp 4 (.dat (.int .i64)::tp 14 [])
def pO:List RS:=[.ghost [.top,.top]]
def Xh (K:XE→List AV→oa→Option OutS):Lx (Unit) (Int)→Option OutS:=fun x=>onL x (fun a=>tc oO nO () ((),()) (K (.exit 0))) (fun a=>tc qO pO (a,()) ((),()) (K .ret)) (fun _=>none)
def mP (n:Nat) {R:Type} (s:(Sq BA)) (k:(Int×Unit)→Option R):Option R:=(vf n n s (s.n:Int) (0:Int)).bind fun x_1=>onL x_1 (fun a_2=>k ((-1:Int),())) (fun a_3=>k (a_3,())) (fun _=>none)
def HV (n:Nat) (s:(Sq BA)):Option (Int×Unit):=mP n s some
theorem Fgb (n:Nat) {S:Type}:∀ s (φ:_→Option S),(HV n s).bind φ=mP n s φ:=by
  intros;unfold HV mP;first | (simp only [ja,aa,iB,bB,oL,oX,nB,Option.bind_some]) | rfl
def Uv (n:Nat):Hint OutS:={ live:=fun c=>(cond (Nat.beq c 0) [(0,some (.sl .str)),(1,none),(7,none),(8,none)] []),run:=fun c=>(cond (Nat.beq c 0) (some (Zg Yz Xz fun σ ρ K=>(vf n n σ.1 σ.2.1 σ.2.2.1).bind (Xh K))) none),xm:=fun c q=>(cond (Nat.beq c 0&&Nat.beq (q.getD 1000000) 0&&q.isSome) (some []) (cond (Nat.beq c 1&&q.isNone) (some [(4,none)]) none)) }
def Tv (n:Nat) (K:XE→List AV→oa→Option OutS) (m:Nat) (s1:(Sq BA)) (t7:Int) (t8:Int):Option OutS:=Nc tys (ia OutS (Vn n)) (Uv n) n (wa [1,0,1,0,0] (fa Tryz.f125)) 0 Yz Xz K m (s1,(t7,(t8,()))) ((),())
theorem ZR (n:Nat) (K:XE→List AV→oa→Option OutS):∀ (m:Nat) s1 t7 t8,Tv n K m s1 t7 t8=(vf n m s1 t7 t8).bind (Xh K)
  | 0,_,_,_=>by kernel_rfl
  | m+1,s1,t7,t8=>by
    have h1:Tv n K (m+1) s1 t7 t8=Uo n s1 t7 t8 (Tv n K m) (fun a=>Xh K (.out a)) (fun a=>Xh K (.ret a)) (fun p=>Xh K (.pan p)):=by kernel_rfl
    have h2:Tv n K m=fun s1 t7 t8=>(vf n m s1 t7 t8).bind (Xh K):=by
      repeat (refine funext fun _=>?_)
      exact ZR n K m _ _ _
    rw [h1,h2];exact (F7 n m _ _ _ (Xh K)).symm
theorem B3 (n:Nat):Bc tys (ia OutS (Vn n)) (Uv n) n (wa [1,0,1,0,0] (fa Tryz.f125)) 0:=Ea (sp:=Yz) (rp:=Xz) (by kernel_rfl) fun K σ ρ=>ZR n K n σ.1 σ.2.1 σ.2.2.1
theorem G7 (n:Nat):qa tys (ia OutS (Vn n)) (Uv n) n (fa Tryz.f125) 0:=⟨trivial,⟨⟨trivial,⟨B3 n,⟨trivial,⟨⟨trivial,trivial⟩,⟨⟨trivial,⟨trivial,⟨⟨trivial,trivial⟩,trivial⟩⟩⟩,trivial⟩⟩⟩⟩⟩,⟨trivial,trivial⟩⟩⟩
theorem Tbb (n:Nat):Enters Tryz.prog 125:=enters_of (c:=fa Tryz.f125) Tryz.func125 (by kernel_rfl) (by kernel_rfl)
def D3:List RSp:=[.one (.dat (.sl .str)),.one (.fnc 94)]
def C3:List RS:=[]
def Ubb:List Sl:=[.top,.top]
def Vbb:List RSp:=[.one (.dat (.int .i64))]
def DB:List RS:=[]
def gY (y:(Int×Unit)):OutS:=⟨false,bo (Sc DB ()) Ubb (),fG (WC (Sc DB ()) Vbb ((y.1,()),())),Fu (Sc DB ()) DB ()⟩
theorem Heb (n:Nat):EntryOk Tryz.prog gl ⟨125,Sf,none,some (csT D3 C3 (fun σ ρ=>HV n σ.1.1) gY)⟩:=Be (Tbb n) fun σ ρ y h=>Hb tys_ok (TC n) mixed (hint:=Uv n) (n:=n) Tryz.func125 (Aa (G7 n)) (la (φ:=fun y=>some (gY y)) (by kernel_rfl) (Fgb n σ.1.1 _) h)
def aS (n:Nat):List Entry:=⟨125,Sf,none,some (csT D3 C3 (fun σ ρ=>HV n σ.1.1) gY)⟩::Vn n
theorem kN (n:Nat):AllOk Tryz.prog gl (aS n):=.cons (Heb n) (TC n)
def lP (n:Nat) {R:Type} (s:(Sq BA)) (k:(Bool×Unit)→Option R):Option R:=(HV n s).bind fun v=>k ((decide (v.1≥(0:Int))),())
def XR (n:Nat) (s:(Sq BA)):Option (Bool×Unit):=lP n s some
theorem Cgb (n:Nat) {S:Type}:∀ s (φ:_→Option S),(XR n s).bind φ=lP n s φ:=by
  intros;unfold XR lP;first | (simp only [ja,aa,iB,bB,oL,oX,nB,Option.bind_some]) | rfl
def YR (n:Nat):Hint OutS:={ live:=fun c=>[],run:=fun c=>none,xm:=fun c q=>none }
theorem E7 (n:Nat):qa tys (ia OutS (aS n)) (YR n) n (fa Tryz.f93) 0:=ma (fun _=>rfl) _ _ (by kernel_rfl)
theorem Qbb (n:Nat):Enters Tryz.prog 93:=enters_of (c:=fa Tryz.f93) Tryz.func93 (by kernel_rfl) (by kernel_rfl)
def u3:List RSp:=[.one (.dat (.sl .str)),.one (.fnc 94)]
def r3:List RS:=[]
def Rbb:List Sl:=[.top,.top]
def Sbb:List RSp:=[.one (.dat .bool)]
def CB:List RS:=[]
def fY (y:(Bool×Unit)):OutS:=⟨false,bo (Sc CB ()) Rbb (),fG (WC (Sc CB ()) Sbb ((y.1,()),())),Fu (Sc CB ()) CB ()⟩
theorem Geb (n:Nat):EntryOk Tryz.prog gl ⟨93,Sf,none,some (csT u3 r3 (fun σ ρ=>XR n σ.1.1) fY)⟩:=Be (Qbb n) fun σ ρ y h=>Hb tys_ok (kN n) mixed (hint:=YR n) (n:=n) Tryz.func93 (Aa (E7 n)) (la (φ:=fun y=>some (fY y)) (by kernel_rfl) (Cgb n σ.1.1 _) h)
def Wz (n:Nat):List Entry:=⟨93,Sf,none,some (csT u3 r3 (fun σ ρ=>XR n σ.1.1) fY)⟩::aS n
theorem jN (n:Nat):AllOk Tryz.prog gl (Wz n):=.cons (Geb n) (kN n)
def dt (n:Nat) {R:Type} (n0:Int) (t5:(Sq BA)) (t6 t7:Int) (kn:Int→(Sq BA)→Int→Int→Option R) (ko:(Int)→Option R) (kr:Unit→Option R) (kp:Int→Option R):Option R:=if (decide (t7<t6))=true then if 0≤t7∧t7<(t5.n:Int) then kn (IntKind.wrap .i64 (n0+(IntKind.wrap .i64 (((t5.at' (Int.toNat t7)).size:Int)+(2:Int))))) t5 t6 (IntKind.wrap .i64 (t7+(1:Int))) else none else ko n0
def Zf (n:Nat):Nat→Int→(Sq BA)→Int→Int→Option (Lx (Int) Unit)
 | 0,_,_,_,_=>none
 | m+1,n0,t5,t6,t7=>dt n n0 t5 t6 t7 (Zf n m) (fun a=>some (.out a)) (fun a=>some (.ret a)) (fun p=>some (.pan p))
theorem T5 (n m:Nat) {S:Type}:∀ n0 t5 t6 t7 (φ:_→Option S),(Zf n (m+1) n0 t5 t6 t7).bind φ=dt n n0 t5 t6 t7 (fun n0 t5 t6 t7=>(Zf n m n0 t5 t6 t7).bind φ) (fun a=>φ (.out a)) (fun a=>φ (.ret a)) (fun p=>φ (.pan p)):=by
  intros;first | (simp only [Zf,dt,ja,aa,iB,bB,oL,oX,nB,Option.bind_some]) | rfl
def By:List Sl:=.top::.top::.dat (.int .i64)::.top::.top::.dat (.sl .str)::.dat (.int .i64)::.dat (.int .i64)::tp 10 []
def Ay:List RS:=[]
def CN:List Sl:=.top::.top::.dat (.int .i64)::tp 15 []
def BN:List RS:=[]
def Rh (K:XE→List AV→oa→Option Out):Lx (Int) Unit→Option Out:=fun x=>onL x (fun a=>tc CN BN (a,()) () (K (.exit 0))) (fun _=>none) (fun _=>none)
def ZO (n:Nat) {R:Type} (l:(Sq BA)) (k:Int→Option R):Option R:=(Zf n n (0:Int) l (l.n:Int) (0:Int)).bind fun x_1=>onL x_1 (fun a_2=>k a_2) (fun _=>none) (fun _=>none)
def lQ (n:Nat) (l:(Sq BA)):Option Int:=ZO n l some
theorem Sfb (n:Nat) {S:Type}:∀ l (φ:_→Option S),(lQ n l).bind φ=ZO n l φ:=by
  intros;unfold lQ ZO;first | (simp only [ja,aa,iB,bB,oL,oX,nB,Option.bind_some]) | rfl
def fv (n:Nat):Hint Out:={ live:=fun c=>(cond (Nat.beq c 0) [(2,none),(5,some (.sl .str)),(6,none),(7,none)] []),run:=fun c=>(cond (Nat.beq c 0) (some (Zg By Ay fun σ ρ K=>(Zf n n σ.1 σ.2.1 σ.2.2.1 σ.2.2.2.1).bind (Rh K))) none),xm:=fun c q=>(cond (Nat.beq c 0&&Nat.beq (q.getD 1000000) 0&&q.isSome) (some [(2,none)]) none) }
def Zu (n:Nat) (K:XE→List AV→oa→Option Out) (m:Nat) (n0:Int) (t5:(Sq BA)) (t6:Int) (t7:Int):Option Out:=Nc tys (ia Out (Wz n)) (fv n) n (wa [1,0,1,0,0] (fa Tryz.f96)) 0 By Ay K m (n0,(t5,(t6,(t7,())))) ()
theorem mQ (n:Nat) (K:XE→List AV→oa→Option Out):∀ (m:Nat) n0 t5 t6 t7,Zu n K m n0 t5 t6 t7=(Zf n m n0 t5 t6 t7).bind (Rh K)
  | 0,_,_,_,_=>by kernel_rfl
  | m+1,n0,t5,t6,t7=>by
    have h1:Zu n K (m+1) n0 t5 t6 t7=dt n n0 t5 t6 t7 (Zu n K m) (fun a=>Rh K (.out a)) (fun a=>Rh K (.ret a)) (fun p=>Rh K (.pan p)):=by kernel_rfl
    have h2:Zu n K m=fun n0 t5 t6 t7=>(Zf n m n0 t5 t6 t7).bind (Rh K):=by
      repeat (refine funext fun _=>?_)
      exact mQ n K m _ _ _ _
    rw [h1,h2];exact (T5 n m _ _ _ _ (Rh K)).symm
theorem HZ (n:Nat):Bc tys (ia Out (Wz n)) (fv n) n (wa [1,0,1,0,0] (fa Tryz.f96)) 0:=Ea (sp:=By) (rp:=Ay) (by kernel_rfl) fun K σ ρ=>mQ n K n σ.1 σ.2.1 σ.2.2.1 σ.2.2.2.1
theorem V5 (n:Nat):qa tys (ia Out (Wz n)) (fv n) n (fa Tryz.f96) 0:=⟨trivial,⟨⟨trivial,⟨HZ n,⟨trivial,⟨⟨trivial,trivial⟩,⟨⟨trivial,trivial⟩,trivial⟩⟩⟩⟩⟩,⟨trivial,trivial⟩⟩⟩
theorem Xab (n:Nat):Enters Tryz.prog 96:=enters_of (c:=fa Tryz.f96) Tryz.func96 (by kernel_rfl) (by kernel_rfl)
def IZ (n:Nat):Entry:=⟨96,pcT (.pair (.sl .str) .unit) (.one (.int .i64)) (fun xs=>lQ n xs.1),none,none⟩
theorem Ycb (n:Nat):EntryOk Tryz.prog gl (IZ n):=za (Xab n) fun xs y h=>na tys_ok (jN n) mixed (hint:=fv n) (n:=n) Tryz.func96 (Aa (V5 n)) (la (φ:=(fun y=>some (Out.ret (qb (.one (.int .i64)) y)))) (by kernel_rfl) (Sfb n xs.1 _) h)
def nQ (n:Nat):List Entry:=IZ n::Wz n
theorem EM (n:Nat):AllOk Tryz.prog gl (nQ n):=.cons (Ycb n) (jN n)
def aP (n:Nat) {R:Type} (c:T0) (k:Bool→Option R):Option R:=if (c.2.2.2.2.1 !=(4:Int))=false then if c.2.2.2.2.2.2.2.2.2.2.2.1=true then if ((c.2.2.2.2.2.2.2.2.2.1.n:Int)==(0:Int))=true then if (c.2.2.2.2.2.2.2.2.2.2.1==(0:Int))=true then if (!c.2.2.2.2.2.2.2.2.2.2.2.1)=false then k (c.2.2.2.2.1==(4:Int)) else k true else k false else k false else (XR n c.2.2.2.2.2.2.2.2.2.1).bind fun v=>if (!v.1)=true then UP ((lQ n c.2.2.2.2.2.2.2.2.2.1).bind fun v1=>if (c.2.2.2.2.2.2.2.2.2.2.1==v1)=true then k (decide (c.2.2.2.2.2.2.2.2.2.2.1≤(8192:Int))) else k false) (dup 1 ((lQ n c.2.2.2.2.2.2.2.2.2.1).bind fun v2=>if (c.2.2.2.2.2.2.2.2.2.2.1==v2)=true then k (decide (c.2.2.2.2.2.2.2.2.2.2.1≤(8192:Int))) else k false)) else UP (k false) (dup 1 (k false)) else if ((c.2.2.2.2.2.2.2.2.2.1.n:Int)==(0:Int))=true then if (c.2.2.2.2.2.2.2.2.2.2.1==(0:Int))=true then if (!c.2.2.2.2.2.2.2.2.2.2.2.1)=false then k (c.2.2.2.2.1==(4:Int)) else k true else k false else k false
def Cy (n:Nat) (c:T0):Option Bool:=aP n c some
theorem Tfb (n:Nat) {S:Type}:∀ c (φ:_→Option S),(Cy n c).bind φ=aP n c φ:=by
  intros;unfold Cy aP;first | (simp only [ja,aa,iB,bB,oL,oX,nB,Option.bind_some]) | rfl
def qQ (n:Nat):Hint Out:={ live:=fun c=>[],run:=fun c=>none,xm:=fun c q=>none,sch:=fun c=>(cond (Nat.beq c 3) (some [(0,0),(1,1),(2,2),(3,0),(4,0),(5,0),(7,0),(6,5),(8,7),(9,7),(10,6),(11,6),(12,6),(13,6),(14,7),(15,6),(16,6),(17,6)]) none) }
theorem X5 (n:Nat):qa tys (ia Out (nQ n)) (qQ n) n (fa Tryz.f67) 0:=ma (fun _=>rfl) _ _ (by kernel_rfl)
theorem Zab (n:Nat):Enters Tryz.prog 67:=enters_of (c:=fa Tryz.f67) Tryz.func67 (by kernel_rfl) (by kernel_rfl)
def KZ (n:Nat):Entry:=⟨67,pcT K1 (.one .bool) (fun xs=>Cy n xs.1),none,none⟩
theorem Zcb (n:Nat):EntryOk Tryz.prog gl (KZ n):=za (Zab n) fun xs y h=>na tys_ok (EM n) mixed (hint:=qQ n) (n:=n) Tryz.func67 (Aa (X5 n)) (la (φ:=(fun y=>some (Out.ret (qb (.one .bool) y)))) (by kernel_rfl) (Tfb n xs.1 _) h)
def pQ (n:Nat):List Entry:=KZ n::nQ n
theorem FM (n:Nat):AllOk Tryz.prog gl (pQ n):=.cons (Zcb n) (EM n)
def FW (n:Nat) {R:Type} (c:T0) (k:Bool→Option R):Option R:=(Im n c.1 (1:Int) (1099511627776:Int)).bind fun v=>if (!v)=false then (Im n c.2.1 (0:Int) (3:Int)).bind fun v1=>if (!v1)=false then (Im n c.2.2.1 (0:Int) (1099511627776:Int)).bind fun v2=>if (!v2)=false then (kt n c.2.2.2.1).bind fun v3=>if (!v3)=false then (Im n c.2.2.2.2.1 (0:Int) (5:Int)).bind fun v4=>if (!v4)=true then k false else if (c.2.2.2.2.2.1.toList==(⟨#[]⟩:BA).toList)=true then if (c.2.2.2.2.1 !=(0:Int))=true then if (c.2.2.2.2.1 !=(5:Int))=false then if (!(c.2.2.2.2.2.1.toList==(⟨#[]⟩:BA).toList))=true then if (c.2.2.2.2.1==(0:Int))=false then (fe n c.2.2.2.2.2.1).bind fun v5=>if (!v5)=true then k false else (ee n c).bind fun v6=>if v6=true then (Cy n c).bind fun v7=>k v7 else k false else k false else (ee n c).bind fun v8=>if v8=true then (Cy n c).bind fun v9=>k v9 else k false else k false else if (!(c.2.2.2.2.2.1.toList==(⟨#[]⟩:BA).toList))=true then if (c.2.2.2.2.1==(0:Int))=false then (fe n c.2.2.2.2.2.1).bind fun v10=>if (!v10)=true then k false else (ee n c).bind fun v11=>if v11=true then (Cy n c).bind fun v12=>k v12 else k false else k false else (ee n c).bind fun v13=>if v13=true then (Cy n c).bind fun v14=>
 k v14 else k false else if (!(c.2.2.2.2.2.1.toList==(⟨#[]⟩:BA).toList))=true then if (c.2.2.2.2.1==(0:Int))=false then (fe n c.2.2.2.2.2.1).bind fun v15=>if (!v15)=true then k false else (ee n c).bind fun v16=>if v16=true then (Cy n c).bind fun v17=>k v17 else k false else k false else (ee n c).bind fun v18=>if v18=true then (Cy n c).bind fun v19=>k v19 else k false else k false else k false else k false else k false
def ZP (n:Nat) (c:T0):Option Bool:=FW n c some
theorem jib (n:Nat) {S:Type}:∀ c (φ:_→Option S),(ZP n c).bind φ=FW n c φ:=by
  intros;unfold ZP FW;first | (simp only [ja,aa,iB,bB,oL,oX,nB,Option.bind_some]) | rfl
def fV (n:Nat):Hint Out:={ live:=fun c=>[],run:=fun c=>none,xm:=fun c q=>none }
theorem Qab (n:Nat):qa tys (ia Out (pQ n)) (fV n) n (fa Tryz.f36) 0:=ma (fun _=>rfl) _ _ (by kernel_rfl)
theorem Vcb (n:Nat):Enters Tryz.prog 36:=enters_of (c:=fa Tryz.f36) Tryz.func36 (by kernel_rfl) (by kernel_rfl)
def R8 (n:Nat):Entry:=⟨36,pcT K1 (.one .bool) (fun xs=>ZP n xs.1),none,none⟩
theorem Qfb (n:Nat):EntryOk Tryz.prog gl (R8 n):=za (Vcb n) fun xs y h=>na tys_ok (FM n) mixed (hint:=fV n) (n:=n) Tryz.func36 (Aa (Qab n)) (la (φ:=(fun y=>some (Out.ret (qb (.one .bool) y)))) (by kernel_rfl) (jib n xs.1 _) h)
def S8 (n:Nat):List Entry:=R8 n::pQ n
theorem N5 (n:Nat):AllOk Tryz.prog gl (S8 n):=.cons (Qfb n) (FM n)
def Ac (n:Nat):List Entry:=zc::S8 n
theorem xf (n:Nat):AllOk Tryz.prog gl (Ac n):=.cons xg (N5 n)
def Fc (n:Nat):List Entry:=zf::Ac n
theorem Yd (n:Nat):AllOk Tryz.prog gl (Fc n):=.cons Ql (xf n)
def RA (n:Nat) {R:Type} (c:T0) (k:U2→Option R):Option R:=dup 1 ((Gy 32 c.2.2.2.2.2.2.2.2.1).bind fun v=>(Gy 16 c.2.2.2.2.2.2.2.2.2.1).bind fun v1=>k (c.1,(c.2.1,(c.2.2.1,(c.2.2.2.1.1,(c.2.2.2.1.2.1,(c.2.2.2.2.1,(c.2.2.2.2.2.1,(c.2.2.2.2.2.2.1,(c.2.2.2.2.2.2.2.1.1,(c.2.2.2.2.2.2.2.1.2.1,(c.2.2.2.2.2.2.2.2.2.2.1,(c.2.2.2.2.2.2.2.2.2.2.2.1,(v.1,(v1.1,())))))))))))))))
def Ch (n:Nat) (c:T0):Option U2:=RA n c some
theorem Sab (n:Nat) {S:Type}:∀ c (φ:_→Option S),(Ch n c).bind φ=RA n c φ:=by
  intros;unfold Ch RA;first | (simp only [ja,aa,iB,bB,oL,oX,nB,Option.bind_some]) | rfl
def cH (n:Nat):Hint OutS:={ live:=fun c=>[],run:=fun c=>none,xm:=fun c q=>none,sch:=fun c=>(cond (Nat.beq c 1) (some [(0,0),(3,0),(1,1),(2,5),(4,7),(5,2),(6,6),(7,2),(8,6),(9,2)]) none),pr:=[(0,10,25),(0,11,9)] }
theorem JW (n:Nat):qa tys (ia OutS (Fc n)).keep (cH n) n (fa Tryz.f38) 0:=ma (fun _=>rfl) _ _ (by kernel_rfl)
theorem wZ (n:Nat):Enters Tryz.prog 38:=enters_of (c:=fa Tryz.f38) Tryz.func38 (by kernel_rfl) (by kernel_rfl)
def dQ:List RSp:=[.one (.dat K0)]
def cQ:List RS:=[]
def xZ:List Sl:=[.top]
def yZ:List RSp:=[.agg [.dat (.int .i64),.dat (.int .i64),.dat (.int .i64),.dat .str,.dat .bool,.dat (.int .i64),.dat .str,.dat .bool,.dat .str,.dat .str,.row 0,.row 1,.dat (.int .i64),.dat .bool]]
def Jp:List RS:=[.row 25 2 (.pair .str (.pair .str .unit)) true true,.row 9 1 .str true true]
def qK (y:U2):OutS:=⟨false,bo (Sc Jp (y.2.2.2.2.2.2.2.2.2.2.2.2.1,(y.2.2.2.2.2.2.2.2.2.2.2.2.2.1,()))) xZ (),fG (WC (Sc Jp (y.2.2.2.2.2.2.2.2.2.2.2.2.1,(y.2.2.2.2.2.2.2.2.2.2.2.2.2.1,()))) yZ ((y.1,(y.2.1,(y.2.2.1,(y.2.2.2.1,(y.2.2.2.2.1,(y.2.2.2.2.2.1,(y.2.2.2.2.2.2.1,(y.2.2.2.2.2.2.2.1,(y.2.2.2.2.2.2.2.2.1,(y.2.2.2.2.2.2.2.2.2.1,(y.2.2.2.2.2.2.2.2.2.2.1,(y.2.2.2.2.2.2.2.2.2.2.2.1,())))))))))))),())),Fu (Sc Jp (y.2.2.2.2.2.2.2.2.2.2.2.2.1,(y.2.2.2.2.2.2.2.2.2.2.2.2.2.1,()))) Jp (y.2.2.2.2.2.2.2.2.2.2.2.2.1,(y.2.2.2.2.2.2.2.2.2.2.2.2.2.1,()))⟩
theorem Q5 (n:Nat):EntryOk Tryz.prog gl ⟨38,Sf,none,some (csT dQ cQ (fun σ ρ=>Ch n σ.1.1) qK)⟩:=Be (wZ n) fun σ ρ y h=>Vf tys_ok (Yd n) mixed (hint:=cH n) (n:=n) Tryz.func38 (Aa (JW n)) (la (φ:=fun y=>some (qK y)) (by kernel_rfl) (Sab n σ.1.1 _) h)
def eE (n:Nat):List Entry:=⟨38,Sf,none,some (csT dQ cQ (fun σ ρ=>Ch n σ.1.1) qK)⟩::Fc n
theorem QC (n:Nat):AllOk Tryz.prog gl (eE n):=.cons (Q5 n) (Yd n)
def ig (n:Nat) {R:Type} (s prefix0:BA) (k:BA→Option R):Option R:=(Pc n s prefix0).bind fun v=>if v=true then if 0≤(prefix0.size:Int)∧(prefix0.size:Int)≤(s.size:Int) then k (s.extract (Int.toNat (prefix0.size:Int)) (Int.toNat (s.size:Int))) else none else k s
def Lg (n:Nat) (s prefix0:BA):Option BA:=ig n s prefix0 some
theorem GQ (n:Nat) {S:Type}:∀ s prefix0 (φ:_→Option S),(Lg n s prefix0).bind φ=ig n s prefix0 φ:=by
  intros;unfold Lg ig;first | (simp only [ja,aa,iB,bB,oL,oX,nB,Option.bind_some]) | rfl
def Vp (n:Nat):Hint Out:={ live:=fun c=>[],run:=fun c=>none,xm:=fun c q=>none }
theorem zH (n:Nat):qa tys (ia Out (eE n)) (Vp n) n (fa Tryz.f149) 0:=ma (fun _=>rfl) _ _ (by kernel_rfl)
theorem KK (n:Nat):Enters Tryz.prog 149:=enters_of (c:=fa Tryz.f149) Tryz.func149 (by kernel_rfl) (by kernel_rfl)
def Bw (n:Nat):Entry:=⟨149,pcT (.pair .str (.pair .str .unit)) (.one .str) (fun xs=>Lg n xs.1 xs.2.1),none,none⟩
theorem NN (n:Nat):EntryOk Tryz.prog gl (Bw n):=za (KK n) fun xs y h=>na tys_ok (QC n) mixed (hint:=Vp n) (n:=n) Tryz.func149 (Aa (zH n)) (la (φ:=(fun y=>some (Out.ret (qb (.one .str) y)))) (by kernel_rfl) (GQ n xs.1 xs.2.1 _) h)
def Fl (n:Nat):List Entry:=Bw n::eE n
theorem oo (n:Nat):AllOk Tryz.prog gl (Fl n):=.cons (NN n) (QC n)
def zg (n:Nat) {R:Type} (s prefix0:BA) (k:BA→Option R):Option R:=(Lg n s prefix0).bind fun v=>k v
def Fa (n:Nat) (s prefix0:BA):Option BA:=zg n s prefix0 some
theorem qS (n:Nat) {S:Type}:∀ s prefix0 (φ:_→Option S),(Fa n s prefix0).bind φ=zg n s prefix0 φ:=by
  intros;unfold Fa zg;first | (simp only [ja,aa,iB,bB,oL,oX,nB,Option.bind_some]) | rfl
def Uq (n:Nat):Hint Out:={ live:=fun c=>[],run:=fun c=>none,xm:=fun c q=>none }
theorem DJ (n:Nat):qa tys (ia Out (Fl n)) (Uq n) n (fa Tryz.f127) 0:=ma (fun _=>rfl) _ _ (by kernel_rfl)
theorem GL (n:Nat):Enters Tryz.prog 127:=enters_of (c:=fa Tryz.f127) Tryz.func127 (by kernel_rfl) (by kernel_rfl)
def Nw (n:Nat):Entry:=⟨127,pcT (.pair .str (.pair .str .unit)) (.one .str) (fun xs=>Fa n xs.1 xs.2.1),none,none⟩
theorem uO (n:Nat):EntryOk Tryz.prog gl (Nw n):=za (GL n) fun xs y h=>na tys_ok (oo n) mixed (hint:=Uq n) (n:=n) Tryz.func127 (Aa (DJ n)) (la (φ:=(fun y=>some (Out.ret (qb (.one .str) y)))) (by kernel_rfl) (qS n xs.1 xs.2.1 _) h)
def Tl (n:Nat):List Entry:=Nw n::Fl n
theorem bp (n:Nat):AllOk Tryz.prog gl (Tl n):=.cons (uO n) (oo n)
def jv (n:Nat) {R:Type} (line:BA) (k:(BA×Bool×Unit)→Option R):Option R:=if (line.toList==(⟨#[46]⟩:BA).toList)=true then k ((⟨#[]⟩:BA),(true,())) else (Fa n line (⟨#[46]⟩:BA)).bind fun v=>k (v,(false,()))
def jt (n:Nat) (line:BA):Option (BA×Bool×Unit):=jv n line some
theorem m6 (n:Nat) {S:Type}:∀ line (φ:_→Option S),(jt n line).bind φ=jv n line φ:=by
  intros;unfold jt jv;first | (simp only [ja,aa,iB,bB,oL,oX,nB,Option.bind_some]) | rfl
def VC (n:Nat):Hint Out:={ live:=fun c=>[],run:=fun c=>none,xm:=fun c q=>none }
theorem MT (n:Nat):qa tys (ia Out (Tl n)) (VC n) n (fa Tryz.f97) 0:=ma (fun _=>rfl) _ _ (by kernel_rfl)
theorem TW (n:Nat):Enters Tryz.prog 97:=enters_of (c:=fa Tryz.f97) Tryz.func97 (by kernel_rfl) (by kernel_rfl)
def HM (n:Nat):Entry:=⟨97,pcT (.pair .str .unit) (.many (.pair .str (.pair .bool .unit))) (fun xs=>jt n xs.1),none,none⟩
theorem RZ (n:Nat):EntryOk Tryz.prog gl (HM n):=za (TW n) fun xs y h=>na tys_ok (bp n) mixed (hint:=VC n) (n:=n) Tryz.func97 (Aa (MT n)) (la (φ:=(fun y=>some (Out.ret (qb (.many (.pair .str (.pair .bool .unit))) y)))) (by kernel_rfl) (m6 n xs.1 _) h)
def Ky (n:Nat):List Entry:=HM n::Tl n
theorem Ly (n:Nat):AllOk Tryz.prog gl (Ky n):=.cons (RZ n) (bp n)
def jk (n:Nat) {R:Type} (c c1 c2:Int) (c3:BA) (c4:Bool) (c5:Int) (c6:BA) (c7:Bool) (c8 c9:BA) (c10:Int) (c11:Bool) (l:U9) (r0:(Sq U0)) (r1:(Sq BA)) (k:(T0×BA×Unit)→Option R):Option R:=(jt n l.1).bind fun v=>if v.2.1=true then if (!l.2.1)=true then k ((c,(c1,(c2,((c3,(c4,())),(c5,(c6,(c7,((c8,(c9,())),(r0,(r1,(c10,(c11,())))))))))))),((⟨#[115,101,110,100]⟩:BA),())) else if c11=true then k ((c,(c1,(c2,((c3,(c4,())),(c5,(c6,(c7,((c8,(c9,())),(r0,(r1,(c10,(c11,())))))))))))),((⟨#[]⟩:BA),())) else if l.2.1=false then (Yk n v.1).bind fun v1=>if (!v1)=false then if (decide ((IntKind.wrap .i64 ((IntKind.wrap .i64 (c10+(v.1.size:Int)))+(2:Int)))>(8192:Int)))=true then k ((c,(c1,(c2,((c3,(c4,())),(c5,(c6,(c7,((c8,(c9,())),(r0,((⟨0,fun _=>ta .str⟩:Sq BA),((0:Int),(true,())))))))))))),((⟨#[]⟩:BA),())) else if wb (r1.n+1) 16=true then k ((c,(c1,(c2,((c3,(c4,())),(c5,(c6,(c7,((c8,(c9,())),(r0,((⟨(r1.n+1),fun q=>if q<r1.n then r1.at' q else (fun q=>List.getD (α:=BA) [v.1] q (ta .str)) (q - r1.n)⟩:Sq BA),((IntKind.wrap .i64 ((IntKind.wrap .i64 (c10+(v.1.size:Int)))+(2:Int))),(c11,())))))))))))),((⟨#[]⟩:BA),())) else none else k ((c,(c1,(c2,((c3,(c4,())),(c5,(c6,(c7,((c8,(c9,())),(r0,((⟨0,fun _=>ta .str⟩:Sq BA),((0:Int),(true,())))))))))))),((⟨#[]⟩:BA),()))
 else k ((c,(c1,(c2,((c3,(c4,())),(c5,(c6,(c7,((c8,(c9,())),(r0,((⟨0,fun _=>ta .str⟩:Sq BA),((0:Int),(true,())))))))))))),((⟨#[]⟩:BA),())) else if c11=true then k ((c,(c1,(c2,((c3,(c4,())),(c5,(c6,(c7,((c8,(c9,())),(r0,(r1,(c10,(c11,())))))))))))),((⟨#[]⟩:BA),())) else if l.2.1=false then (Yk n v.1).bind fun v2=>if (!v2)=false then if (decide ((IntKind.wrap .i64 ((IntKind.wrap .i64 (c10+(v.1.size:Int)))+(2:Int)))>(8192:Int)))=true then k ((c,(c1,(c2,((c3,(c4,())),(c5,(c6,(c7,((c8,(c9,())),(r0,((⟨0,fun _=>ta .str⟩:Sq BA),((0:Int),(true,())))))))))))),((⟨#[]⟩:BA),())) else if wb (r1.n+1) 16=true then k ((c,(c1,(c2,((c3,(c4,())),(c5,(c6,(c7,((c8,(c9,())),(r0,((⟨(r1.n+1),fun q=>if q<r1.n then r1.at' q else (fun q=>List.getD (α:=BA) [v.1] q (ta .str)) (q - r1.n)⟩:Sq BA),((IntKind.wrap .i64 ((IntKind.wrap .i64 (c10+(v.1.size:Int)))+(2:Int))),(c11,())))))))))))),((⟨#[]⟩:BA),())) else none else k ((c,(c1,(c2,((c3,(c4,())),(c5,(c6,(c7,((c8,(c9,())),(r0,((⟨0,fun _=>ta .str⟩:Sq BA),((0:Int),(true,())))))))))))),((⟨#[]⟩:BA),())) else k ((c,(c1,(c2,((c3,(c4,())),(c5,(c6,(c7,((c8,(c9,())),(r0,((⟨0,fun _=>ta .str⟩:Sq BA),((0:Int),(true,())))))))))))),((⟨#[]⟩:BA),()))
def bg (n:Nat) (c c1 c2:Int) (c3:BA) (c4:Bool) (c5:Int) (c6:BA) (c7:Bool) (c8 c9:BA) (c10:Int) (c11:Bool) (l:U9) (r0:(Sq U0)) (r1:(Sq BA)):Option (T0×BA×Unit):=jk n c c1 c2 c3 c4 c5 c6 c7 c8 c9 c10 c11 l r0 r1 some
theorem DT (n:Nat) {S:Type}:∀ c c1 c2 c3 c4 c5 c6 c7 c8 c9 c10 c11 l r0 r1 (φ:_→Option S),(bg n c c1 c2 c3 c4 c5 c6 c7 c8 c9 c10 c11 l r0 r1).bind φ=jk n c c1 c2 c3 c4 c5 c6 c7 c8 c9 c10 c11 l r0 r1 φ:=by
  intros;unfold bg jk;first | (simp only [ja,aa,iB,bB,oL,oX,nB,Option.bind_some]) | rfl
def et (n:Nat):Hint OutS:={ live:=fun c=>[],run:=fun c=>none,xm:=fun c q=>none,fz:=true }
theorem wK (n:Nat):qa tys (ia OutS (Ky n)) (et n) n (fa Tryz.f68) 0:=ma (fun _=>rfl) _ _ (by kernel_rfl)
theorem DN (n:Nat):Enters Tryz.prog 68:=enters_of (c:=fa Tryz.f68) Tryz.func68 (by kernel_rfl) (by kernel_rfl)
def Ey:List RSp:=[.agg [.dat (.int .i64),.dat (.int .i64),.dat (.int .i64),.dat .str,.dat .bool,.dat (.int .i64),.dat .str,.dat .bool,.dat .str,.dat .str,.row 0,.row 1,.dat (.int .i64),.dat .bool],.one (.dat (.pair .str (.pair .bool .unit)))]
def Dy:List RS:=[.row 25 2 (.pair .str (.pair .str .unit)) true true,.row 9 1 .str true true]
def EN:List Sl:=[.top,.top]
def FN:List RSp:=[.one (.dat K0),.one (.dat .str)]
def Dh:List RS:=[]
def Dr (y:(T0×BA×Unit)):OutS:=⟨false,bo (Sc Dh ()) EN (),fG (WC (Sc Dh ()) FN ((y.1,()),((y.2.1,()),()))),Fu (Sc Dh ()) Dh ()⟩
theorem rQ (n:Nat):EntryOk Tryz.prog gl ⟨68,Sf,none,some (csT Ey Dy (fun σ ρ=>bg n σ.1.1 σ.1.2.1 σ.1.2.2.1 σ.1.2.2.2.1 σ.1.2.2.2.2.1 σ.1.2.2.2.2.2.1 σ.1.2.2.2.2.2.2.1 σ.1.2.2.2.2.2.2.2.1 σ.1.2.2.2.2.2.2.2.2.1 σ.1.2.2.2.2.2.2.2.2.2.1 σ.1.2.2.2.2.2.2.2.2.2.2.1 σ.1.2.2.2.2.2.2.2.2.2.2.2.1 σ.2.1.1 ρ.1 ρ.2.1) Dr)⟩:=Be (DN n) fun σ ρ y h=>Hb tys_ok (Ly n) mixed (hint:=et n) (n:=n) Tryz.func68 (Aa (wK n)) (la (φ:=fun y=>some (Dr y)) (by kernel_rfl) (DT n σ.1.1 σ.1.2.1 σ.1.2.2.1 σ.1.2.2.2.1 σ.1.2.2.2.2.1 σ.1.2.2.2.2.2.1 σ.1.2.2.2.2.2.2.1 σ.1.2.2.2.2.2.2.2.1 σ.1.2.2.2.2.2.2.2.2.1 σ.1.2.2.2.2.2.2.2.2.2.1 σ.1.2.2.2.2.2.2.2.2.2.2.1 σ.1.2.2.2.2.2.2.2.2.2.2.2.1 σ.2.1.1 ρ.1 ρ.2.1 _) h)
def Wn (n:Nat):List Entry:=⟨68,Sf,none,some (csT Ey Dy (fun σ ρ=>bg n σ.1.1 σ.1.2.1 σ.1.2.2.1 σ.1.2.2.2.1 σ.1.2.2.2.2.1 σ.1.2.2.2.2.2.1 σ.1.2.2.2.2.2.2.1 σ.1.2.2.2.2.2.2.2.1 σ.1.2.2.2.2.2.2.2.2.1 σ.1.2.2.2.2.2.2.2.2.2.1 σ.1.2.2.2.2.2.2.2.2.2.2.1 σ.1.2.2.2.2.2.2.2.2.2.2.2.1 σ.2.1.1 ρ.1 ρ.2.1) Dr)⟩::Ky n
theorem Pp (n:Nat):AllOk Tryz.prog gl (Wn n):=.cons (rQ n) (Ly n)
def DS (n:Nat) {R:Type} (kind:Int) (k:BA→Option R):Option R:=if 0≤kind∧kind<(10:Int) then k (List.getD (α:=BA) [(⟨#[]⟩:BA),(⟨#[72,69,76,79]⟩:BA),(⟨#[69,72,76,79]⟩:BA),(⟨#[77,65,73,76]⟩:BA),(⟨#[82,67,80,84]⟩:BA),(⟨#[68,65,84,65]⟩:BA),(⟨#[82,83,69,84]⟩:BA),(⟨#[78,79,79,80]⟩:BA),(⟨#[81,85,73,84]⟩:BA),(⟨#[86,82,70,89]⟩:BA)] (Int.toNat kind) (ta .str)) else none
def CS (n:Nat) (kind:Int):Option BA:=DS n kind some
theorem dfb (n:Nat) {S:Type}:∀ kind (φ:_→Option S),(CS n kind).bind φ=DS n kind φ:=by
  intros;unfold CS DS;first | (simp only [ja,aa,iB,bB,oL,oX,nB,Option.bind_some]) | rfl
def nN (n:Nat):Hint Out:={ live:=fun c=>[],run:=fun c=>none,xm:=fun c q=>none }
theorem r4 (n:Nat):qa tys (ia Out (Wn n)) (nN n) n (fa Tryz.f151) 0:=ma (fun _=>rfl) _ _ (by kernel_rfl)
theorem Y7 (n:Nat):Enters Tryz.prog 151:=enters_of (c:=fa Tryz.f151) Tryz.func151 (by kernel_rfl) (by kernel_rfl)
def QV (n:Nat):Entry:=⟨151,pcT (.pair (.int .i64) .unit) (.one .str) (fun xs=>CS n xs.1),none,none⟩
theorem kcb (n:Nat):EntryOk Tryz.prog gl (QV n):=za (Y7 n) fun xs y h=>na tys_ok (Pp n) mixed (hint:=nN n) (n:=n) Tryz.func151 (Aa (r4 n)) (la (φ:=(fun y=>some (Out.ret (qb (.one .str) y)))) (by kernel_rfl) (dfb n xs.1 _) h)
def uu (n:Nat):List Entry:=QV n::Wn n
theorem JJ (n:Nat):AllOk Tryz.prog gl (uu n):=.cons (kcb n) (Pp n)
def tu (n:Nat) {R:Type} (s1 word1:BA) (t13 t14:Int) (kn:BA→BA→Int→Int→Option R) (ko:(Unit)→Option R) (kr:(Bool)→Option R) (kp:Int→Option R):Option R:=if (decide (t14<t13))=true then if 0≤t14∧t14<(s1.size:Int) then if (decide ((bt s1 t14)≥(97:Int)))=true then if (decide ((bt s1 t14)≤(122:Int)))=true then if 0≤t14∧t14<(word1.size:Int) then if ((IntKind.wrap .u8 ((bt s1 t14) - (32:Int))) !=(bt word1 t14))=true then kr false else kn s1 word1 t13 (IntKind.wrap .i64 (t14+(1:Int))) else none else if 0≤t14∧t14<(word1.size:Int) then if ((bt s1 t14) !=(bt word1 t14))=true then kr false else kn s1 word1 t13 (IntKind.wrap .i64 (t14+(1:Int))) else none else if 0≤t14∧t14<(word1.size:Int) then if ((bt s1 t14) !=(bt word1 t14))=true then kr false else kn s1 word1 t13 (IntKind.wrap .i64 (t14+(1:Int))) else none else none else ko ()
def Cg (n:Nat):Nat→BA→BA→Int→Int→Option (Lx (Unit) (Bool))
 | 0,_,_,_,_=>none
 | m+1,s1,word1,t13,t14=>tu n s1 word1 t13 t14 (Cg n m) (fun a=>some (.out a)) (fun a=>some (.ret a)) (fun p=>some (.pan p))
theorem W7 (n m:Nat) {S:Type}:∀ s1 word1 t13 t14 (φ:_→Option S),(Cg n (m+1) s1 word1 t13 t14).bind φ=tu n s1 word1 t13 t14 (fun s1 word1 t13 t14=>(Cg n m s1 word1 t13 t14).bind φ) (fun a=>φ (.out a)) (fun a=>φ (.ret a)) (fun p=>φ (.pan p)):=by
  intros;first | (simp only [Cg,tu,ja,aa,iB,bB,oL,oX,nB,Option.bind_some]) | rfl
def sA:List Sl:=.dat .str::.dat .str::tp 11 (.dat (.int .i64)::.dat (.int .i64)::tp 19 [])
def rA:List RS:=[]
def CO:List Sl:=tp 34 []
def BO:List RS:=[]
def EO:List Sl:=tp 4 (.dat .bool::tp 29 [])
def DO:List RS:=[]
def ai (K:XE→List AV→oa→Option Out):Lx (Unit) (Bool)→Option Out:=fun x=>onL x (fun a=>tc CO BO () () (K (.exit 0))) (fun a=>tc EO DO (a,()) () (K .ret)) (fun _=>none)
def qP (n:Nat) {R:Type} (s word:BA) (k:Bool→Option R):Option R:=if ((s.size:Int) !=(word.size:Int))=true then k false else (Cg n n s word (s.size:Int) (0:Int)).bind fun x_1=>onL x_1 (fun a_2=>k true) (fun a_3=>k a_3) (fun _=>none)
def xS (n:Nat) (s word:BA):Option Bool:=qP n s word some
theorem dhb (n:Nat) {S:Type}:∀ s word (φ:_→Option S),(xS n s word).bind φ=qP n s word φ:=by
  intros;unfold xS qP;first | (simp only [ja,aa,iB,bB,oL,oX,nB,Option.bind_some]) | rfl
def bw (n:Nat):Hint Out:={ live:=fun c=>(cond (Nat.beq c 0) (lv [0,1,13,14]) []),run:=fun c=>(cond (Nat.beq c 0) (some (Zg sA rA fun σ ρ K=>(Cg n n σ.1 σ.2.1 σ.2.2.1 σ.2.2.2.1).bind (ai K))) none),xm:=fun c q=>(cond (Nat.beq c 0&&Nat.beq (q.getD 1000000) 0&&q.isSome) (some []) (cond (Nat.beq c 1&&q.isNone) (some [(4,none)]) none)) }
def aw (n:Nat) (K:XE→List AV→oa→Option Out) (m:Nat) (s1:BA) (word1:BA) (t13:Int) (t14:Int):Option Out:=Nc tys (ia Out (uu n)) (bw n) n (wa [1,1,0,1,0,0] (fa Tryz.f150)) 0 sA rA K m (s1,(word1,(t13,(t14,())))) ()
theorem yS (n:Nat) (K:XE→List AV→oa→Option Out):∀ (m:Nat) s1 word1 t13 t14,aw n K m s1 word1 t13 t14=(Cg n m s1 word1 t13 t14).bind (ai K)
  | 0,_,_,_,_=>by kernel_rfl
  | m+1,s1,word1,t13,t14=>by
    have h1:aw n K (m+1) s1 word1 t13 t14=tu n s1 word1 t13 t14 (aw n K m) (fun a=>ai K (.out a)) (fun a=>ai K (.ret a)) (fun p=>ai K (.pan p)):=by kernel_rfl
    have h2:aw n K m=fun s1 word1 t13 t14=>(Cg n m s1 word1 t13 t14).bind (ai K):=by
      repeat (refine funext fun _=>?_)
      exact yS n K m _ _ _ _
    rw [h1,h2];exact (W7 n m _ _ _ _ (ai K)).symm
theorem Z3 (n:Nat):Bc tys (ia Out (uu n)) (bw n) n (wa [1,1,0,1,0,0] (fa Tryz.f150)) 0:=Ea (sp:=sA) (rp:=rA) (by kernel_rfl) fun K σ ρ=>yS n K n σ.1 σ.2.1 σ.2.2.1 σ.2.2.2.1
theorem X7 (n:Nat):qa tys (ia Out (uu n)) (bw n) n (fa Tryz.f150) 0:=⟨trivial,⟨⟨trivial,⟨⟨trivial,trivial⟩,trivial⟩⟩,⟨⟨trivial,⟨Z3 n,⟨trivial,⟨⟨trivial,trivial⟩,⟨⟨trivial,⟨trivial,⟨⟨trivial,⟨trivial,trivial⟩⟩,⟨trivial,⟨⟨trivial,trivial⟩,trivial⟩⟩⟩⟩⟩,trivial⟩⟩⟩⟩⟩,⟨trivial,trivial⟩⟩⟩⟩
theorem icb (n:Nat):Enters Tryz.prog 150:=enters_of (c:=fa Tryz.f150) Tryz.func150 (by kernel_rfl) (by kernel_rfl)
def m4 (n:Nat):Entry:=⟨150,pcT (.pair .str (.pair .str .unit)) (.one .bool) (fun xs=>xS n xs.1 xs.2.1),none,none⟩
theorem bfb (n:Nat):EntryOk Tryz.prog gl (m4 n):=za (icb n) fun xs y h=>na tys_ok (JJ n) mixed (hint:=bw n) (n:=n) Tryz.func150 (Aa (X7 n)) (la (φ:=(fun y=>some (Out.ret (qb (.one .bool) y)))) (by kernel_rfl) (dhb n xs.1 xs.2.1 _) h)
def tA (n:Nat):List Entry:=m4 n::uu n
theorem mN (n:Nat):AllOk Tryz.prog gl (tA n):=.cons (bfb n) (JJ n)
def su (n:Nat) {R:Type} (s1:BA) (k0:Int) (kn:BA→Int→Option R) (ko:(Unit)→Option R) (kr:(Int)→Option R) (kp:Int→Option R):Option R:=if (decide (k0≤(9:Int)))=true then (CS n k0).bind fun v=>(xS n s1 v).bind fun v1=>if v1=true then kr k0 else kn s1 (IntKind.wrap .i64 (k0+(1:Int))) else ko ()
def Jc (n:Nat):Nat→BA→Int→Option (Lx (Unit) (Int))
 | 0,_,_=>none
 | m+1,s1,k0=>su n s1 k0 (Jc n m) (fun a=>some (.out a)) (fun a=>some (.ret a)) (fun p=>some (.pan p))
theorem T7 (n m:Nat) {S:Type}:∀ s1 k0 (φ:_→Option S),(Jc n (m+1) s1 k0).bind φ=su n s1 k0 (fun s1 k0=>(Jc n m s1 k0).bind φ) (fun a=>φ (.out a)) (fun a=>φ (.ret a)) (fun p=>φ (.pan p)):=by
  intros;first | (simp only [Jc,su,ja,aa,iB,bB,oL,oX,nB,Option.bind_some]) | rfl
def pA:List Sl:=.dat .str::.top::.top::.dat (.int .i64)::tp 9 []
def oA:List RS:=[]
def yO:List Sl:=tp 13 []
def xO:List RS:=[]
def AO:List Sl:=.top::.top::.dat (.int .i64)::tp 10 []
def zO:List RS:=[]
def Zh (K:XE→List AV→oa→Option Out):Lx (Unit) (Int)→Option Out:=fun x=>onL x (fun a=>tc yO xO () () (K (.exit 0))) (fun a=>tc AO zO (a,()) () (K .ret)) (fun _=>none)
def pP (n:Nat) {R:Type} (s:BA) (k:Int→Option R):Option R:=(Jc n n s (1:Int)).bind fun x_1=>onL x_1 (fun a_2=>k (0:Int)) (fun a_3=>k a_3) (fun _=>none)
def PD (n:Nat) (s:BA):Option Int:=pP n s some
theorem chb (n:Nat) {S:Type}:∀ s (φ:_→Option S),(PD n s).bind φ=pP n s φ:=by
  intros;unfold PD pP;first | (simp only [ja,aa,iB,bB,oL,oX,nB,Option.bind_some]) | rfl
def Zv (n:Nat):Hint Out:={ live:=fun c=>(cond (Nat.beq c 0) [(0,none),(3,none)] []),run:=fun c=>(cond (Nat.beq c 0) (some (Zg pA oA fun σ ρ K=>(Jc n n σ.1 σ.2.1).bind (Zh K))) none),xm:=fun c q=>(cond (Nat.beq c 0&&Nat.beq (q.getD 1000000) 0&&q.isSome) (some []) (cond (Nat.beq c 1&&q.isNone) (some [(2,none)]) none)) }
def Yv (n:Nat) (K:XE→List AV→oa→Option Out) (m:Nat) (s1:BA) (k0:Int):Option Out:=Nc tys (ia Out (tA n)) (Zv n) n (wa [1,0,1,0,0] (fa Tryz.f129)) 0 pA oA K m (s1,(k0,())) ()
theorem vS (n:Nat) (K:XE→List AV→oa→Option Out):∀ (m:Nat) s1 k0,Yv n K m s1 k0=(Jc n m s1 k0).bind (Zh K)
  | 0,_,_=>by kernel_rfl
  | m+1,s1,k0=>by
    have h1:Yv n K (m+1) s1 k0=su n s1 k0 (Yv n K m) (fun a=>Zh K (.out a)) (fun a=>Zh K (.ret a)) (fun p=>Zh K (.pan p)):=by kernel_rfl
    have h2:Yv n K m=fun s1 k0=>(Jc n m s1 k0).bind (Zh K):=by
      repeat (refine funext fun _=>?_)
      exact vS n K m _ _
    rw [h1,h2];exact (T7 n m _ _ (Zh K)).symm
theorem X3 (n:Nat):Bc tys (ia Out (tA n)) (Zv n) n (wa [1,0,1,0,0] (fa Tryz.f129)) 0:=Ea (sp:=pA) (rp:=oA) (by kernel_rfl) fun K σ ρ=>vS n K n σ.1 σ.2.1
theorem V7 (n:Nat):qa tys (ia Out (tA n)) (Zv n) n (fa Tryz.f129) 0:=⟨trivial,⟨⟨trivial,⟨X3 n,⟨⟨trivial,⟨trivial,trivial⟩⟩,⟨⟨trivial,⟨⟨trivial,trivial⟩,trivial⟩⟩,trivial⟩⟩⟩⟩,⟨trivial,trivial⟩⟩⟩
theorem gcb (n:Nat):Enters Tryz.prog 129:=enters_of (c:=fa Tryz.f129) Tryz.func129 (by kernel_rfl) (by kernel_rfl)
def Y3 (n:Nat):Entry:=⟨129,pcT (.pair .str .unit) (.one (.int .i64)) (fun xs=>PD n xs.1),none,none⟩
theorem afb (n:Nat):EntryOk Tryz.prog gl (Y3 n):=za (gcb n) fun xs y h=>na tys_ok (mN n) mixed (hint:=Zv n) (n:=n) Tryz.func129 (Aa (V7 n)) (la (φ:=(fun y=>some (Out.ret (qb (.one (.int .i64)) y)))) (by kernel_rfl) (chb n xs.1 _) h)
def wS (n:Nat):List Entry:=Y3 n::tA n
theorem qA (n:Nat):AllOk Tryz.prog gl (wS n):=.cons (afb n) (mN n)
def rP (n:Nat) {R:Type} (ok:Bool) (e:Int) (k:(Unit)→Option R) (kp:Int→Option R):Option R:=if (!ok)=true then kp e else k ()
def Ia (n:Nat) (ok:Bool) (e:Int):Option (Except Int (Unit)):=rP n ok e (fun y=>some (.ok y)) (fun p=>some (.error p))
theorem jab (n:Nat) {S:Type}:∀ ok e (φ:_→Option S),(Ia n ok e).bind φ=rP n ok e (fun y=>φ (.ok y)) (fun p=>φ (.error p)):=by
  intros;unfold Ia rP;first | (simp only [ja,aa,iB,bB,oL,oX,nB,Option.bind_some]) | rfl
def gG (n:Nat):Hint Out:={ live:=fun c=>[],run:=fun c=>none,xm:=fun c q=>none }
theorem BS (n:Nat):qa tys (ia Out (wS n)) (gG n) n (fa Tryz.f128) 0:=ma (fun _=>rfl) _ _ (by kernel_rfl)
theorem jcb (n:Nat):Enters Tryz.prog 128:=enters_of (c:=fa Tryz.f128) Tryz.func128 (by kernel_rfl) (by kernel_rfl)
def o4 (n:Nat):Entry:=⟨128,pcX 144 (.pair .bool (.pair (.int .i64) .unit)) (.many .unit) (fun xs=>Ia n xs.1 xs.2.1),none,none⟩
theorem cfb (n:Nat):EntryOk Tryz.prog gl (o4 n):=DH (jcb n) (fun xs y h=>na tys_ok (qA n) mixed (hint:=gG n) (n:=n) Tryz.func128 (Aa (BS n)) (la (φ:=(fun r=>onX r (fun p=>some (Out.pan (ph 144 p))) fun y=>some (Out.ret (qb (.many .unit) y)))) (by kernel_rfl) (jab n xs.1 xs.2.1 _) h)) (fun xs p h=>na tys_ok (qA n) mixed (hint:=gG n) (n:=n) Tryz.func128 (Aa (BS n)) (la (φ:=(fun r=>onX r (fun p=>some (Out.pan (ph 144 p))) fun y=>some (Out.ret (qb (.many .unit) y)))) (by kernel_rfl) (jab n xs.1 xs.2.1 _) h))
def AS (n:Nat):List Entry:=o4 n::wS n
theorem uA (n:Nat):AllOk Tryz.prog gl (AS n):=.cons (cfb n) (qA n)
def HJ (n:Nat) {R:Type} (s word:BA) (k:BA→Option R) (kp:Int→Option R):Option R:=if (decide ((s.size:Int)≥(word.size:Int)))=true then if 0≤(word.size:Int)∧(word.size:Int)≤(s.size:Int) then (xS n (s.extract (Int.toNat (0:Int)) (Int.toNat (word.size:Int))) word).bind fun v=>(Ia n v (8:Int)).bind fun x_1=>onX x_1 (fun p=>kp p) (fun v1=>if 0≤(word.size:Int)∧(word.size:Int)≤(s.size:Int) then k (s.extract (Int.toNat (word.size:Int)) (Int.toNat (s.size:Int))) else none) else none else (Ia n false (8:Int)).bind fun x_2=>onX x_2 (fun p1=>kp p1) (fun v2=>if 0≤(word.size:Int)∧(word.size:Int)≤(s.size:Int) then k (s.extract (Int.toNat (word.size:Int)) (Int.toNat (s.size:Int))) else none)
def vh (n:Nat) (s word:BA):Option (Except Int BA):=HJ n s word (fun y=>some (.ok y)) (fun p=>some (.error p))
theorem V3 (n:Nat) {S:Type}:∀ s word (φ:_→Option S),(vh n s word).bind φ=HJ n s word (fun y=>φ (.ok y)) (fun p=>φ (.error p)):=by
  intros;unfold vh HJ;first | (simp only [ja,aa,iB,bB,oL,oX,nB,Option.bind_some]) | rfl
def nA (n:Nat):Hint Out:={ live:=fun c=>[],run:=fun c=>none,xm:=fun c q=>none }
theorem lN (n:Nat):qa tys (ia Out (AS n)) (nA n) n (fa Tryz.f131) 0:=ma (fun _=>rfl) _ _ (by kernel_rfl)
theorem S7 (n:Nat):Enters Tryz.prog 131:=enters_of (c:=fa Tryz.f131) Tryz.func131 (by kernel_rfl) (by kernel_rfl)
def OV (n:Nat):Entry:=⟨131,pcX 144 (.pair .str (.pair .str .unit)) (.one .str) (fun xs=>vh n xs.1 xs.2.1),none,none⟩
theorem fcb (n:Nat):EntryOk Tryz.prog gl (OV n):=DH (S7 n) (fun xs y h=>na tys_ok (uA n) mixed (hint:=nA n) (n:=n) Tryz.func131 (Aa (lN n)) (la (φ:=(fun r=>onX r (fun p=>some (Out.pan (ph 144 p))) fun y=>some (Out.ret (qb (.one .str) y)))) (by kernel_rfl) (V3 n xs.1 xs.2.1 _) h)) (fun xs p h=>na tys_ok (uA n) mixed (hint:=nA n) (n:=n) Tryz.func131 (Aa (lN n)) (la (φ:=(fun r=>onX r (fun p=>some (Out.pan (ph 144 p))) fun y=>some (Out.ret (qb (.one .str) y)))) (by kernel_rfl) (V3 n xs.1 xs.2.1 _) h))
def ru (n:Nat):List Entry:=OV n::AS n
theorem IJ (n:Nat):AllOk Tryz.prog gl (ru n):=.cons (fcb n) (uA n)
def Ta (n:Nat) {R:Type} (s1:BA) (c1 i:Int) (kn:BA→Int→Int→Option R) (ko:(Unit)→Option R) (kr:(Int)→Option R) (kp:Int→Option R):Option R:=if (decide (i≥(0:Int)))=true then if 0≤i∧i<(s1.size:Int) then if ((bt s1 i)==c1)=true then kr i else kn s1 c1 (IntKind.wrap .i64 (i - (1:Int))) else none else ko ()
def Ba (n:Nat):Nat→BA→Int→Int→Option (Lx (Unit) (Int))
 | 0,_,_,_=>none
 | m+1,s1,c1,i=>Ta n s1 c1 i (Ba n m) (fun a=>some (.out a)) (fun a=>some (.ret a)) (fun p=>some (.pan p))
theorem co (n m:Nat) {S:Type}:∀ s1 c1 i (φ:_→Option S),(Ba n (m+1) s1 c1 i).bind φ=Ta n s1 c1 i (fun s1 c1 i=>(Ba n m s1 c1 i).bind φ) (fun a=>φ (.out a)) (fun a=>φ (.ret a)) (fun p=>φ (.pan p)):=by
  intros;first | (simp only [Ba,Ta,ja,aa,iB,bB,oL,oX,nB,Option.bind_some]) | rfl
def Mc:List Sl:=.dat .str::.dat (.int .u8)::.top::.top::.top::.dat (.int .i64)::tp 13 []
def Lc:List RS:=[]
def mj:List Sl:=tp 19 []
def lj:List RS:=[]
def pj:List Sl:=tp 4 (.dat (.int .i64)::tp 14 [])
def nj:List RS:=[]
def Ka (K:XE→List AV→oa→Option Out):Lx (Unit) (Int)→Option Out:=fun x=>onL x (fun a=>tc mj lj () () (K (.exit 0))) (fun a=>tc pj nj (a,()) () (K .ret)) (fun _=>none)
def Cc (n:Nat) {R:Type} (s:BA) (c:Int) (k:Int→Option R):Option R:=(Ba n n s c (IntKind.wrap .i64 ((s.size:Int) - (1:Int)))).bind fun x_1=>onL x_1 (fun a_2=>k (-1:Int)) (fun a_3=>k a_3) (fun _=>none)
def cc (n:Nat) (s:BA) (c:Int):Option Int:=Cc n s c some
theorem ot (n:Nat) {S:Type}:∀ s c (φ:_→Option S),(cc n s c).bind φ=Cc n s c φ:=by
  intros;unfold cc Cc;first | (simp only [ja,aa,iB,bB,oL,oX,nB,Option.bind_some]) | rfl
def Qb (n:Nat):Hint Out:={ live:=fun c=>(cond (Nat.beq c 0) (lv [0,1,5]) []),run:=fun c=>(cond (Nat.beq c 0) (some (Zg Mc Lc fun σ ρ K=>(Ba n n σ.1 σ.2.1 σ.2.2.1).bind (Ka K))) none),xm:=fun c q=>(cond (Nat.beq c 0&&Nat.beq (q.getD 1000000) 0&&q.isSome) (some []) (cond (Nat.beq c 1&&q.isNone) (some [(4,none)]) none)) }
def Pb (n:Nat) (K:XE→List AV→oa→Option Out) (m:Nat) (s1:BA) (c1:Int) (i:Int):Option Out:=Nc tys (ia Out (ru n)) (Qb n) n (wa [1,0,1,0,0] (fa Tryz.f175)) 0 Mc Lc K m (s1,(c1,(i,()))) ()
theorem fg (n:Nat) (K:XE→List AV→oa→Option Out):∀ (m:Nat) s1 c1 i,Pb n K m s1 c1 i=(Ba n m s1 c1 i).bind (Ka K)
  | 0,_,_,_=>by kernel_rfl
  | m+1,s1,c1,i=>by
    have h1:Pb n K (m+1) s1 c1 i=Ta n s1 c1 i (Pb n K m) (fun a=>Ka K (.out a)) (fun a=>Ka K (.ret a)) (fun p=>Ka K (.pan p)):=by kernel_rfl
    have h2:Pb n K m=fun s1 c1 i=>(Ba n m s1 c1 i).bind (Ka K):=by
      repeat (refine funext fun _=>?_)
      exact fg n K m _ _ _
    rw [h1,h2];exact (co n m _ _ _ (Ka K)).symm
theorem Jm (n:Nat):Bc tys (ia Out (ru n)) (Qb n) n (wa [1,0,1,0,0] (fa Tryz.f175)) 0:=Ea (sp:=Mc) (rp:=Lc) (by kernel_rfl) fun K σ ρ=>fg n K n σ.1 σ.2.1 σ.2.2.1
theorem eo (n:Nat):qa tys (ia Out (ru n)) (Qb n) n (fa Tryz.f175) 0:=⟨trivial,⟨⟨trivial,⟨Jm n,⟨⟨trivial,⟨trivial,trivial⟩⟩,⟨⟨trivial,⟨⟨trivial,trivial⟩,trivial⟩⟩,trivial⟩⟩⟩⟩,⟨trivial,trivial⟩⟩⟩
theorem Dp (n:Nat):Enters Tryz.prog 175:=enters_of (c:=fa Tryz.f175) Tryz.func175 (by kernel_rfl) (by kernel_rfl)
def yh (n:Nat):Entry:=⟨175,pcT (.pair .str (.pair (.int .u8) .unit)) (.one (.int .i64)) (fun xs=>cc n xs.1 xs.2.1),none,none⟩
theorem Er (n:Nat):EntryOk Tryz.prog gl (yh n):=za (Dp n) fun xs y h=>na tys_ok (IJ n) mixed (hint:=Qb n) (n:=n) Tryz.func175 (Aa (eo n)) (la (φ:=(fun y=>some (Out.ret (qb (.one (.int .i64)) y)))) (by kernel_rfl) (ot n xs.1 xs.2.1 _) h)
def Qd (n:Nat):List Entry:=yh n::ru n
theorem Jf (n:Nat):AllOk Tryz.prog gl (Qd n):=.cons (Er n) (IJ n)
def Lf (n:Nat) {R:Type} (s:BA) (c:Int) (k:Int→Option R):Option R:=(cc n s c).bind fun v=>k v
def Dd (n:Nat) (s:BA) (c:Int):Option Int:=Lf n s c some
theorem BJ (n:Nat) {S:Type}:∀ s c (φ:_→Option S),(Dd n s c).bind φ=Lf n s c φ:=by
  intros;unfold Dd Lf;first | (simp only [ja,aa,iB,bB,oL,oX,nB,Option.bind_some]) | rfl
def ql (n:Nat):Hint Out:={ live:=fun c=>[],run:=fun c=>none,xm:=fun c q=>none }
theorem gA (n:Nat):qa tys (ia Out (Qd n)) (ql n) n (fa Tryz.f152) 0:=ma (fun _=>rfl) _ _ (by kernel_rfl)
theorem tC (n:Nat):Enters Tryz.prog 152:=enters_of (c:=fa Tryz.f152) Tryz.func152 (by kernel_rfl) (by kernel_rfl)
def ap (n:Nat):Entry:=⟨152,pcT (.pair .str (.pair (.int .u8) .unit)) (.one (.int .i64)) (fun xs=>Dd n xs.1 xs.2.1),none,none⟩
theorem eG (n:Nat):EntryOk Tryz.prog gl (ap n):=za (tC n) fun xs y h=>na tys_ok (Jf n) mixed (hint:=ql n) (n:=n) Tryz.func152 (Aa (gA n)) (la (φ:=(fun y=>some (Out.ret (qb (.one (.int .i64)) y)))) (by kernel_rfl) (BJ n xs.1 xs.2.1 _) h)
def Yh (n:Nat):List Entry:=ap n::Qd n
theorem uj (n:Nat):AllOk Tryz.prog gl (Yh n):=.cons (eG n) (Jf n)
def yG (n:Nat) {R:Type} (s:BA) (k:(U0×Bool×Int×Unit)→Option R):Option R:=if (s.toList==(⟨#[60,62]⟩:BA).toList)=true then k (((⟨#[]⟩:BA),((⟨#[]⟩:BA),())),(true,((0:Int),()))) else if (decide ((s.size:Int)<(2:Int)))=false then if 0≤(0:Int)∧(0:Int)<(s.size:Int) then if ((bt s (0:Int)) !=(60:Int))=false then if 0≤(IntKind.wrap .i64 ((s.size:Int) - (1:Int)))∧(IntKind.wrap .i64 ((s.size:Int) - (1:Int)))<(s.size:Int) then if ((bt s (IntKind.wrap .i64 ((s.size:Int) - (1:Int)))) !=(62:Int))=true then k (((⟨#[]⟩:BA),((⟨#[]⟩:BA),())),(false,((8:Int),()))) else if 0≤(IntKind.wrap .i64 ((s.size:Int) - (1:Int)))∧(IntKind.wrap .i64 ((s.size:Int) - (1:Int)))≤(s.size:Int) then if 0≤(1:Int)∧(1:Int)≤(IntKind.wrap .i64 ((s.size:Int) - (1:Int))) then (sm n (s.extract (Int.toNat (1:Int)) (Int.toNat (IntKind.wrap .i64 ((s.size:Int) - (1:Int)))))).bind fun v=>k ((v.1.1,(v.1.2.1,())),(false,(v.2.1,()))) else none else none else none else k (((⟨#[]⟩:BA),((⟨#[]⟩:BA),())),(false,((8:Int),()))) else none else k (((⟨#[]⟩:BA),((⟨#[]⟩:BA),())),(false,((8:Int),())))
def VD (n:Nat) (s:BA):Option (U0×Bool×Int×Unit):=yG n s some
theorem Ocb (n:Nat) {S:Type}:∀ s (φ:_→Option S),(VD n s).bind φ=yG n s φ:=by
  intros;unfold VD yG;first | (simp only [ja,aa,iB,bB,oL,oX,nB,Option.bind_some]) | rfl
def nM (n:Nat):Hint Out:={ live:=fun c=>[],run:=fun c=>none,xm:=fun c q=>none }
theorem bZ (n:Nat):qa tys (ia Out (Yh n)) (nM n) n (fa Tryz.f153) 0:=ma (fun _=>rfl) _ _ (by kernel_rfl)
theorem w5 (n:Nat):Enters Tryz.prog 153:=enters_of (c:=fa Tryz.f153) Tryz.func153 (by kernel_rfl) (by kernel_rfl)
def VU (n:Nat):Entry:=⟨153,pcT (.pair .str .unit) (.many K8) (fun xs=>VD n xs.1),none,none⟩
theorem Eab (n:Nat):EntryOk Tryz.prog gl (VU n):=za (w5 n) fun xs y h=>na tys_ok (uj n) mixed (hint:=nM n) (n:=n) Tryz.func153 (Aa (bZ n)) (la (φ:=(fun y=>some (Out.ret (qb (.many K8) y)))) (by kernel_rfl) (Ocb n xs.1 _) h)
def mK (n:Nat):List Entry:=VU n::Yh n
theorem Ku (n:Nat):AllOk Tryz.prog gl (mK n):=.cons (Eab n) (uj n)
def tP (n:Nat) {R:Type} (s:BA) (k:(U0×Bool×BA×Unit)→Option R) (kp:Int→Option R):Option R:=(Fa n s (⟨#[32]⟩:BA)).bind fun v=>(Dd n v (62:Int)).bind fun v1=>(Ia n (decide (v1≥(0:Int))) (8:Int)).bind fun x_1=>onX x_1 (fun p=>kp p) (fun v2=>if 0≤(IntKind.wrap .i64 (v1+(1:Int)))∧(IntKind.wrap .i64 (v1+(1:Int)))≤(v.size:Int) then (VD n (v.extract (Int.toNat (0:Int)) (Int.toNat (IntKind.wrap .i64 (v1+(1:Int)))))).bind fun v3=>(Ia n (v3.2.2.1==(0:Int)) v3.2.2.1).bind fun x_2=>onX x_2 (fun p1=>kp p1) (fun v4=>if 0≤(IntKind.wrap .i64 (v1+(1:Int)))∧(IntKind.wrap .i64 (v1+(1:Int)))≤(v.size:Int) then k ((v3.1.1,(v3.1.2.1,())),(v3.2.1,((v.extract (Int.toNat (IntKind.wrap .i64 (v1+(1:Int)))) (Int.toNat (v.size:Int))),()))) else none) else none)
def gm (n:Nat) (s:BA):Option (Except Int (U0×Bool×BA×Unit)):=tP n s (fun y=>some (.ok y)) (fun p=>some (.error p))
theorem kab (n:Nat) {S:Type}:∀ s (φ:_→Option S),(gm n s).bind φ=tP n s (fun y=>φ (.ok y)) (fun p=>φ (.error p)):=by
  intros;unfold gm tP;first | (simp only [ja,aa,iB,bB,oL,oX,nB,Option.bind_some]) | rfl
def iG (n:Nat):Hint Out:={ live:=fun c=>[],run:=fun c=>none,xm:=fun c q=>none,sch:=fun c=>(cond (Nat.beq c 6) (some [(1,0),(2,0),(3,0),(4,0),(5,0),(0,1),(6,2),(7,0),(8,0)]) none) }
theorem GS (n:Nat):qa tys (ia Out (mK n)) (iG n) n (fa Tryz.f130) 0:=ma (fun _=>rfl) _ _ (by kernel_rfl)
theorem mcb (n:Nat):Enters Tryz.prog 130:=enters_of (c:=fa Tryz.f130) Tryz.func130 (by kernel_rfl) (by kernel_rfl)
def A4 (n:Nat):Entry:=⟨130,pcX 144 (.pair .str .unit) (.many K9) (fun xs=>gm n xs.1),none,none⟩
theorem ffb (n:Nat):EntryOk Tryz.prog gl (A4 n):=DH (mcb n) (fun xs y h=>na tys_ok (Ku n) mixed (hint:=iG n) (n:=n) Tryz.func130 (Aa (GS n)) (la (φ:=(fun r=>onX r (fun p=>some (Out.pan (ph 144 p))) fun y=>some (Out.ret (qb (.many K9) y)))) (by kernel_rfl) (kab n xs.1 _) h)) (fun xs p h=>na tys_ok (Ku n) mixed (hint:=iG n) (n:=n) Tryz.func130 (Aa (GS n)) (la (φ:=(fun r=>onX r (fun p=>some (Out.pan (ph 144 p))) fun y=>some (Out.ret (qb (.many K9) y)))) (by kernel_rfl) (kab n xs.1 _) h))
def vA (n:Nat):List Entry:=A4 n::mK n
theorem wA (n:Nat):AllOk Tryz.prog gl (vA n):=.cons (ffb n) (Ku n)
def ep (n:Nat) {R:Type} (s1:BA) (n0 t19 t20:Int) (kn:BA→Int→Int→Int→Option R) (ko:(Int)→Option R) (kr:Unit→Option R) (kp:Int→Option R):Option R:=if (decide (t20<t19))=true then if 0≤t20∧t20<(s1.size:Int) then if (decide ((bt s1 t20)≥(48:Int)))=true then if 0≤t20∧t20<(s1.size:Int) then (Ia n (decide ((bt s1 t20)≤(57:Int))) (8:Int)).bind fun x_1=>onX x_1 (fun p2=>kp p2) (fun v2=>if 0≤t20∧t20<(s1.size:Int) then kn s1 (IntKind.wrap .i64 ((IntKind.wrap .i64 ((10:Int)*n0))+(IntKind.wrap .i64 (IntKind.wrap .u8 ((bt s1 t20) - (48:Int)))))) t19 (IntKind.wrap .i64 (t20+(1:Int))) else none) else none else (Ia n false (8:Int)).bind fun x_2=>onX x_2 (fun p3=>kp p3) (fun v3=>if 0≤t20∧t20<(s1.size:Int) then kn s1 (IntKind.wrap .i64 ((IntKind.wrap .i64 ((10:Int)*n0))+(IntKind.wrap .i64 (IntKind.wrap .u8 ((bt s1 t20) - (48:Int)))))) t19 (IntKind.wrap .i64 (t20+(1:Int))) else none) else none else ko n0
def ve (n:Nat):Nat→BA→Int→Int→Int→Option (Lx (Int) Unit)
 | 0,_,_,_,_=>none
 | m+1,s1,n0,t19,t20=>ep n s1 n0 t19 t20 (ve n m) (fun a=>some (.out a)) (fun a=>some (.ret a)) (fun p=>some (.pan p))
theorem b8 (n m:Nat) {S:Type}:∀ s1 n0 t19 t20 (φ:_→Option S),(ve n (m+1) s1 n0 t19 t20).bind φ=ep n s1 n0 t19 t20 (fun s1 n0 t19 t20=>(ve n m s1 n0 t19 t20).bind φ) (fun a=>φ (.out a)) (fun a=>φ (.ret a)) (fun p=>φ (.pan p)):=by
  intros;first | (simp only [ve,ep,ja,aa,iB,bB,oL,oX,nB,Option.bind_some]) | rfl
def yA:List Sl:=.dat .str::.top::.top::.dat (.int .i64)::tp 15 (.dat (.int .i64)::.dat (.int .i64)::tp 26 [])
def xA:List RS:=[]
def GO:List Sl:=.top::.top::.top::.dat (.int .i64)::tp 43 []
def FO:List RS:=[]
def bi (K:XE→List AV→oa→Option Out):Lx (Int) Unit→Option Out:=fun x=>onL x (fun a=>tc GO FO (a,()) () (K (.exit 0))) (fun _=>none) (fun p=>K (.panic (ph 144 p)) (List.replicate 47 .top) [])
def vP (n:Nat) {R:Type} (s:BA) (k:Int→Option R) (kp:Int→Option R):Option R:=if (s.toList==(⟨#[]⟩:BA).toList)=true then k (-1:Int) else (vh n s (⟨#[32,83,73,90,69,61]⟩:BA)).bind fun x_1=>onX x_1 (fun p=>kp p) (fun v=>if (decide ((v.size:Int)≥(1:Int)))=true then (Ia n (decide ((v.size:Int)≤(10:Int))) (8:Int)).bind fun x_2=>onX x_2 (fun p1=>kp p1) (fun v1=>(ve n n v (0:Int) (v.size:Int) (0:Int)).bind fun x_3=>onL x_3 (fun a_4=>(Ia n (decide (a_4≤(1073741824:Int))) (8:Int)).bind fun x_5=>onX x_5 (fun p4=>kp p4) (fun v4=>k a_4)) (fun _=>none) (fun p5=>kp p5)) else (Ia n false (8:Int)).bind fun x_6=>onX x_6 (fun p6=>kp p6) (fun v5=>(ve n n v (0:Int) (v.size:Int) (0:Int)).bind fun x_7=>onL x_7 (fun a_8=>(Ia n (decide (a_8≤(1073741824:Int))) (8:Int)).bind fun x_9=>onX x_9 (fun p7=>kp p7) (fun v6=>k a_8)) (fun _=>none) (fun p8=>kp p8)))
def QD (n:Nat) (s:BA):Option (Except Int Int):=vP n s (fun y=>some (.ok y)) (fun p=>some (.error p))
theorem mab (n:Nat) {S:Type}:∀ s (φ:_→Option S),(QD n s).bind φ=vP n s (fun y=>φ (.ok y)) (fun p=>φ (.error p)):=by
  intros;unfold QD vP;first | (simp only [ja,aa,iB,bB,oL,oX,nB,Option.bind_some]) | rfl
def fp (n:Nat):Hint Out:={ live:=fun c=>(cond (Nat.beq c 0) (lv [0,3,19,20]) []),run:=fun c=>(cond (Nat.beq c 0) (some (Zg yA xA fun σ ρ K=>(ve n n σ.1 σ.2.1 σ.2.2.1 σ.2.2.2.1).bind (bi K))) none),xm:=fun c q=>(cond (Nat.beq c 0&&Nat.beq (q.getD 1000000) 0&&q.isSome) (some [(3,none)]) none) }
def cw (n:Nat) (K:XE→List AV→oa→Option Out) (m:Nat) (s1:BA) (n0:Int) (t19:Int) (t20:Int):Option Out:=Nc tys (ia Out (vA n)) (fp n) n (wa [1,1,1,1,1,0,1,0,0] (fa Tryz.f132)) 0 yA xA K m (s1,(n0,(t19,(t20,())))) ()
theorem IS (n:Nat) (K:XE→List AV→oa→Option Out):∀ (m:Nat) s1 n0 t19 t20,cw n K m s1 n0 t19 t20=(ve n m s1 n0 t19 t20).bind (bi K)
  | 0,_,_,_,_=>by kernel_rfl
  | m+1,s1,n0,t19,t20=>by
    have h1:cw n K (m+1) s1 n0 t19 t20=ep n s1 n0 t19 t20 (cw n K m) (fun a=>bi K (.out a)) (fun a=>bi K (.ret a)) (fun p=>bi K (.pan p)):=by kernel_rfl
    have h2:cw n K m=fun s1 n0 t19 t20=>(ve n m s1 n0 t19 t20).bind (bi K):=by
      repeat (refine funext fun _=>?_)
      exact IS n K m _ _ _ _
    rw [h1,h2];exact (b8 n m _ _ _ _ (bi K)).symm
theorem C4 (n:Nat):Bc tys (ia Out (vA n)) (fp n) n (wa [1,1,1,1,1,0,1,0,0] (fa Tryz.f132)) 0:=Ea (sp:=yA) (rp:=xA) (by kernel_rfl) fun K σ ρ=>IS n K n σ.1 σ.2.1 σ.2.2.1 σ.2.2.2.1
theorem JS (n:Nat):qa tys (ia Out (vA n)) (fp n) n (fa Tryz.f132) 0:=⟨trivial,⟨⟨trivial,⟨⟨trivial,trivial⟩,trivial⟩⟩,⟨trivial,⟨trivial,⟨trivial,⟨⟨trivial,⟨C4 n,⟨trivial,⟨⟨trivial,trivial⟩,⟨⟨trivial,⟨trivial,trivial⟩⟩,trivial⟩⟩⟩⟩⟩,⟨trivial,⟨trivial,trivial⟩⟩⟩⟩⟩⟩⟩⟩
theorem ocb (n:Nat):Enters Tryz.prog 132:=enters_of (c:=fa Tryz.f132) Tryz.func132 (by kernel_rfl) (by kernel_rfl)
def D4 (n:Nat):Entry:=⟨132,pcX 144 (.pair .str .unit) (.one (.int .i64)) (fun xs=>QD n xs.1),none,none⟩
theorem hfb (n:Nat):EntryOk Tryz.prog gl (D4 n):=DH (ocb n) (fun xs y h=>na tys_ok (wA n) mixed (hint:=fp n) (n:=n) Tryz.func132 (Aa (JS n)) (la (φ:=(fun r=>onX r (fun p=>some (Out.pan (ph 144 p))) fun y=>some (Out.ret (qb (.one (.int .i64)) y)))) (by kernel_rfl) (mab n xs.1 _) h)) (fun xs p h=>na tys_ok (wA n) mixed (hint:=fp n) (n:=n) Tryz.func132 (Aa (JS n)) (la (φ:=(fun r=>onX r (fun p=>some (Out.pan (ph 144 p))) fun y=>some (Out.ret (qb (.one (.int .i64)) y)))) (by kernel_rfl) (mab n xs.1 _) h))
def AA (n:Nat):List Entry:=D4 n::vA n
theorem qN (n:Nat):AllOk Tryz.prog gl (AA n):=.cons (hfb n) (wA n)
def Jn (n:Nat) {R:Type} (s1:BA) (blank:Bool) (t6 t7:Int) (kn:BA→Bool→Int→Int→Option R) (ko:(BA×Bool)→Option R) (kr:(Bool)→Option R) (kp:Int→Option R):Option R:=if (decide (t7<t6))=true then if 0≤t7∧t7<(s1.size:Int) then if (decide ((bt s1 t7)<(32:Int)))=false then if 0≤t7∧t7<(s1.size:Int) then if (decide ((bt s1 t7)>(126:Int)))=false then if 0≤t7∧t7<(s1.size:Int) then if ((bt s1 t7)==(32:Int))=true then if blank=true then kr false else if 0≤t7∧t7<(s1.size:Int) then kn s1 ((bt s1 t7)==(32:Int)) t6 (IntKind.wrap .i64 (t7+(1:Int))) else none else if 0≤t7∧t7<(s1.size:Int) then kn s1 ((bt s1 t7)==(32:Int)) t6 (IntKind.wrap .i64 (t7+(1:Int))) else none else none else kr false else none else kr false else none else ko (s1,blank)
def we (n:Nat):Nat→BA→Bool→Int→Int→Option (Lx (BA×Bool) (Bool))
 | 0,_,_,_,_=>none
 | m+1,s1,blank,t6,t7=>Jn n s1 blank t6 t7 (we n m) (fun a=>some (.out a)) (fun a=>some (.ret a)) (fun p=>some (.pan p))
theorem E4 (n m:Nat) {S:Type}:∀ s1 blank t6 t7 (φ:_→Option S),(we n (m+1) s1 blank t6 t7).bind φ=Jn n s1 blank t6 t7 (fun s1 blank t6 t7=>(we n m s1 blank t6 t7).bind φ) (fun a=>φ (.out a)) (fun a=>φ (.ret a)) (fun p=>φ (.pan p)):=by
  intros;first | (simp only [we,Jn,ja,aa,iB,bB,oL,oX,nB,Option.bind_some]) | rfl
def fw:List Sl:=.dat .str::.top::.top::.dat .bool::.top::.top::.dat (.int .i64)::.dat (.int .i64)::tp 33 []
def dw:List RS:=[]
def LL:List Sl:=.dat .str::.top::.top::.dat .bool::tp 37 []
def KL:List RS:=[]
def NL:List Sl:=.top::.top::.dat .bool::tp 38 []
def ML:List RS:=[]
def Dg (K:XE→List AV→oa→Option Out):Lx (BA×Bool) (Bool)→Option Out:=fun x=>onL x (fun a=>tc LL KL (a.1,(a.2,())) () (K (.exit 0))) (fun a=>tc NL ML (a,()) () (K .ret)) (fun _=>none)
def KJ (n:Nat) {R:Type} (s:BA) (k:Bool→Option R):Option R:=(we n n s true (s.size:Int) (0:Int)).bind fun x_1=>onL x_1 (fun a_2=>if (!a_2.2)=true then k (decide ((a_2.1.size:Int)≤(64:Int))) else k false) (fun a_3=>k a_3) (fun _=>none)
def kG (n:Nat) (s:BA):Option Bool:=KJ n s some
theorem ifb (n:Nat) {S:Type}:∀ s (φ:_→Option S),(kG n s).bind φ=KJ n s φ:=by
  intros;unfold kG KJ;first | (simp only [ja,aa,iB,bB,oL,oX,nB,Option.bind_some]) | rfl
def Zq (n:Nat):Hint Out:={ live:=fun c=>(cond (Nat.beq c 0) (lv [0,3,6,7]) []),run:=fun c=>(cond (Nat.beq c 0) (some (Zg fw dw fun σ ρ K=>(we n n σ.1 σ.2.1 σ.2.2.1 σ.2.2.2.1).bind (Dg K))) none),xm:=fun c q=>(cond (Nat.beq c 0&&Nat.beq (q.getD 1000000) 0&&q.isSome) (some [(0,none),(3,none)]) (cond (Nat.beq c 1&&q.isNone) (some [(2,none)]) none)) }
def Yq (n:Nat) (K:XE→List AV→oa→Option Out) (m:Nat) (s1:BA) (blank:Bool) (t6:Int) (t7:Int):Option Out:=Nc tys (ia Out (AA n)) (Zq n) n (wa [1,1,0,1,0,0] (fa Tryz.f135)) 0 fw dw K m (s1,(blank,(t6,(t7,())))) ()
theorem rN (n:Nat) (K:XE→List AV→oa→Option Out):∀ (m:Nat) s1 blank t6 t7,Yq n K m s1 blank t6 t7=(we n m s1 blank t6 t7).bind (Dg K)
  | 0,_,_,_,_=>by kernel_rfl
  | m+1,s1,blank,t6,t7=>by
    have h1:Yq n K (m+1) s1 blank t6 t7=Jn n s1 blank t6 t7 (Yq n K m) (fun a=>Dg K (.out a)) (fun a=>Dg K (.ret a)) (fun p=>Dg K (.pan p)):=by kernel_rfl
    have h2:Yq n K m=fun s1 blank t6 t7=>(we n m s1 blank t6 t7).bind (Dg K):=by
      repeat (refine funext fun _=>?_)
      exact rN n K m _ _ _ _
    rw [h1,h2];exact (E4 n m _ _ _ _ (Dg K)).symm
theorem yY (n:Nat):Bc tys (ia Out (AA n)) (Zq n) n (wa [1,1,0,1,0,0] (fa Tryz.f135)) 0:=Ea (sp:=fw) (rp:=dw) (by kernel_rfl) fun K σ ρ=>rN n K n σ.1 σ.2.1 σ.2.2.1 σ.2.2.2.1
theorem F4 (n:Nat):qa tys (ia Out (AA n)) (Zq n) n (fa Tryz.f135) 0:=⟨trivial,⟨trivial,⟨⟨trivial,⟨yY n,⟨trivial,⟨⟨trivial,trivial⟩,⟨⟨trivial,⟨⟨trivial,⟨⟨trivial,trivial⟩,trivial⟩⟩,trivial⟩⟩,trivial⟩⟩⟩⟩⟩,⟨trivial,trivial⟩⟩⟩⟩
theorem d8 (n:Nat):Enters Tryz.prog 135:=enters_of (c:=fa Tryz.f135) Tryz.func135 (by kernel_rfl) (by kernel_rfl)
def SV (n:Nat):Entry:=⟨135,pcT (.pair .str .unit) (.one .bool) (fun xs=>kG n xs.1),none,none⟩
theorem pcb (n:Nat):EntryOk Tryz.prog gl (SV n):=za (d8 n) fun xs y h=>na tys_ok (qN n) mixed (hint:=Zq n) (n:=n) Tryz.func135 (Aa (F4 n)) (la (φ:=(fun y=>some (Out.ret (qb (.one .bool) y)))) (by kernel_rfl) (ifb n xs.1 _) h)
def OL (n:Nat):List Entry:=SV n::AA n
theorem LJ (n:Nat):AllOk Tryz.prog gl (OL n):=.cons (pcb n) (qN n)
def sP (n:Nat) {R:Type} (v:T1) (k:(T1×Bool×Unit)→Option R):Option R:=if (v.1==(1:Int))=true then (Tc n v.2.1).bind fun v1=>k ((v.1,(v.2.1,(false,(((⟨#[]⟩:BA),((⟨#[]⟩:BA),())),((0:Int),()))))),(v1,())) else if (v.1==(2:Int))=true then (Tc n v.2.1).bind fun v2=>k ((v.1,(v.2.1,(false,(((⟨#[]⟩:BA),((⟨#[]⟩:BA),())),((0:Int),()))))),(v2,())) else if (v.1==(3:Int))=true then dup 1 (if (!v.2.2.1)=true then if v.2.2.1=false then (Sx n (v.2.2.2.1.1,(v.2.2.2.1.2.1,()))).bind fun v3=>if v3=true then if (decide (v.2.2.2.2.1≥(-1:Int)))=true then dup 1 (k ((v.1,((⟨#[]⟩:BA),(v.2.2.1,((v.2.2.2.1.1,(v.2.2.2.1.2.1,())),(v.2.2.2.2.1,()))))),((decide (v.2.2.2.2.1≤(1073741824:Int))),()))) else dup 1 (k ((v.1,((⟨#[]⟩:BA),(v.2.2.1,((v.2.2.2.1.1,(v.2.2.2.1.2.1,())),(v.2.2.2.2.1,()))))),(false,()))) else dup 1 (k ((v.1,((⟨#[]⟩:BA),(v.2.2.1,((v.2.2.2.1.1,(v.2.2.2.1.2.1,())),(v.2.2.2.2.1,()))))),(false,()))) else if (decide (v.2.2.2.2.1≥(-1:Int)))=true then dup 1 (k ((v.1,((⟨#[]⟩:BA),(v.2.2.1,((v.2.2.2.1.1,(v.2.2.2.1.2.1,())),(v.2.2.2.2.1,()))))),((decide (v.2.2.2.2.1≤(1073741824:Int))),()))) else dup 1 (k ((v.1,((⟨#[]⟩:BA),(v.2.2.1,((v.2.2.2.1.1,(v.2.2.2.1.2.1,())),(v.2.2.2.2.1,()))))),(false,()))) else if v.2.2.1=false then (Sx n (v.2.2.2.1.1,(v.2.2.2.1.2.1,()))).bind fun v4=>
 if v4=true then if (decide (v.2.2.2.2.1≥(-1:Int)))=true then dup 1 (k ((v.1,((⟨#[]⟩:BA),(v.2.2.1,(((⟨#[]⟩:BA),((⟨#[]⟩:BA),())),(v.2.2.2.2.1,()))))),((decide (v.2.2.2.2.1≤(1073741824:Int))),()))) else dup 1 (k ((v.1,((⟨#[]⟩:BA),(v.2.2.1,(((⟨#[]⟩:BA),((⟨#[]⟩:BA),())),(v.2.2.2.2.1,()))))),(false,()))) else dup 1 (k ((v.1,((⟨#[]⟩:BA),(v.2.2.1,(((⟨#[]⟩:BA),((⟨#[]⟩:BA),())),(v.2.2.2.2.1,()))))),(false,()))) else if (decide (v.2.2.2.2.1≥(-1:Int)))=true then dup 1 (k ((v.1,((⟨#[]⟩:BA),(v.2.2.1,(((⟨#[]⟩:BA),((⟨#[]⟩:BA),())),(v.2.2.2.2.1,()))))),((decide (v.2.2.2.2.1≤(1073741824:Int))),()))) else dup 1 (k ((v.1,((⟨#[]⟩:BA),(v.2.2.1,(((⟨#[]⟩:BA),((⟨#[]⟩:BA),())),(v.2.2.2.2.1,()))))),(false,())))) else if (v.1==(4:Int))=true then (Sx n (v.2.2.2.1.1,(v.2.2.2.1.2.1,()))).bind fun v7=>k ((v.1,((⟨#[]⟩:BA),(false,((v.2.2.2.1.1,(v.2.2.2.1.2.1,())),((0:Int),()))))),(v7,())) else if (v.1==(7:Int))=true then (kG n v.2.1).bind fun v8=>if v8=false then if (v.2.1.toList==(⟨#[]⟩:BA).toList)=true then dup 1 (k ((v.1,(v.2.1,(false,(((⟨#[]⟩:BA),((⟨#[]⟩:BA),())),((0:Int),()))))),((v.1==(7:Int)),()))) else dup 1 (k ((v.1,(v.2.1,(false,(((⟨#[]⟩:BA),((⟨#[]⟩:BA),())),((0:Int),()))))),(false,())))
 else dup 1 (k ((v.1,(v.2.1,(false,(((⟨#[]⟩:BA),((⟨#[]⟩:BA),())),((0:Int),()))))),(true,()))) else if (v.1==(9:Int))=true then (kG n v.2.1).bind fun v9=>if v9=false then if (v.2.1.toList==(⟨#[]⟩:BA).toList)=true then dup 1 (k ((v.1,(v.2.1,(false,(((⟨#[]⟩:BA),((⟨#[]⟩:BA),())),((0:Int),()))))),((v.1==(7:Int)),()))) else dup 1 (k ((v.1,(v.2.1,(false,(((⟨#[]⟩:BA),((⟨#[]⟩:BA),())),((0:Int),()))))),(false,()))) else dup 1 (k ((v.1,(v.2.1,(false,(((⟨#[]⟩:BA),((⟨#[]⟩:BA),())),((0:Int),()))))),(true,()))) else if (v.1==(5:Int))=true then k ((v.1,((⟨#[]⟩:BA),(false,(((⟨#[]⟩:BA),((⟨#[]⟩:BA),())),((0:Int),()))))),(true,())) else if (v.1==(6:Int))=true then k ((v.1,((⟨#[]⟩:BA),(false,(((⟨#[]⟩:BA),((⟨#[]⟩:BA),())),((0:Int),()))))),(true,())) else if (v.1==(8:Int))=true then k ((v.1,((⟨#[]⟩:BA),(false,(((⟨#[]⟩:BA),((⟨#[]⟩:BA),())),((0:Int),()))))),(true,())) else k ((v.1,((⟨#[]⟩:BA),(false,(((⟨#[]⟩:BA),((⟨#[]⟩:BA),())),((0:Int),()))))),(false,()))
def u4 (n:Nat) (v:T1):Option (T1×Bool×Unit):=sP n v some
theorem ehb (n:Nat) {S:Type}:∀ v (φ:_→Option S),(u4 n v).bind φ=sP n v φ:=by
  intros;unfold u4 sP;first | (simp only [ja,aa,iB,bB,oL,oX,nB,Option.bind_some]) | rfl
def FS (n:Nat):Hint Out:={ live:=fun c=>[],run:=fun c=>none,xm:=fun c q=>none,sch:=fun c=>(cond (Nat.beq c 18) (some [(1,0),(0,1),(2,1),(3,3),(4,0),(5,0),(6,3),(7,0),(8,0),(9,0),(14,5),(10,7),(11,6),(12,6),(13,6),(15,6)]) (cond (Nat.beq c 14) (some [(1,0),(0,1),(2,1),(3,3),(4,2),(5,0)]) (cond (Nat.beq c 11) (some [(1,0),(0,1),(2,1),(3,0),(4,0),(5,1),(6,3),(7,0),(8,0),(9,0),(10,3),(11,0),(12,0),(13,0),(14,0),(18,5),(15,7),(16,6),(17,6),(19,6)]) (cond (Nat.beq c 8) (some [(0,0),(2,0),(1,1),(4,0),(5,5),(3,7),(6,6),(7,2)]) (cond (Nat.beq c 6) (some [(1,0),(0,1),(2,1),(3,3),(4,2),(5,0)]) none))))) }
theorem Z7 (n:Nat):qa tys (ia Out (OL n)) (FS n) n (fa Tryz.f102) 0:=ma (fun _=>rfl) _ _ (by kernel_rfl)
theorem lcb (n:Nat):Enters Tryz.prog 102:=enters_of (c:=fa Tryz.f102) Tryz.func102 (by kernel_rfl) (by kernel_rfl)
def y4 (n:Nat):Entry:=⟨102,pcT K11 (.many K10) (fun xs=>u4 n xs.1),none,none⟩
theorem efb (n:Nat):EntryOk Tryz.prog gl (y4 n):=za (lcb n) fun xs y h=>na tys_ok (LJ n) mixed (hint:=FS n) (n:=n) Tryz.func102 (Aa (Z7 n)) (la (φ:=(fun y=>some (Out.ret (qb (.many K10) y)))) (by kernel_rfl) (ehb n xs.1 _) h)
def ES (n:Nat):List Entry:=y4 n::OL n
theorem oN (n:Nat):AllOk Tryz.prog gl (ES n):=.cons (efb n) (LJ n)
def vY (n:Nat) {R:Type} (v:T1) (k:Bool→Option R):Option R:=(u4 n (v.1,(v.2.1,(v.2.2.1,((v.2.2.2.1.1,(v.2.2.2.1.2.1,())),(v.2.2.2.2.1,())))))).bind fun v1=>if v1.2.1=true then k ((v1.1.1==v.1)&&((v1.1.2.1.toList==v.2.1.toList)&&((v1.1.2.2.1==v.2.2.1)&&(((v1.1.2.2.2.1.1.toList==v.2.2.2.1.1.toList)&&((v1.1.2.2.2.1.2.1.toList==v.2.2.2.1.2.1.toList)&&true))&&((v1.1.2.2.2.2.1==v.2.2.2.2.1)&&true))))) else k false
def uh (n:Nat) (v:T1):Option Bool:=vY n v some
theorem Gjb (n:Nat) {S:Type}:∀ v (φ:_→Option S),(uh n v).bind φ=vY n v φ:=by
  intros;unfold uh vY;first | (simp only [ja,aa,iB,bB,oL,oX,nB,Option.bind_some]) | rfl
def MV (n:Nat):Hint Out:={ live:=fun c=>[],run:=fun c=>none,xm:=fun c q=>none }
theorem dcb (n:Nat):qa tys (ia Out (ES n)) (MV n) n (fa Tryz.f74) 0:=ma (fun _=>rfl) _ _ (by kernel_rfl)
theorem Xeb (n:Nat):Enters Tryz.prog 74:=enters_of (c:=fa Tryz.f74) Tryz.func74 (by kernel_rfl) (by kernel_rfl)
def iab (n:Nat):Entry:=⟨74,pcT K11 (.one .bool) (fun xs=>uh n xs.1),none,none⟩
theorem bhb (n:Nat):EntryOk Tryz.prog gl (iab n):=za (Xeb n) fun xs y h=>na tys_ok (oN n) mixed (hint:=MV n) (n:=n) Tryz.func74 (Aa (dcb n)) (la (φ:=(fun y=>some (Out.ret (qb (.one .bool) y)))) (by kernel_rfl) (Gjb n xs.1 _) h)
def wY (n:Nat):List Entry:=iab n::ES n
theorem tS (n:Nat):AllOk Tryz.prog gl (wY n):=.cons (bhb n) (oN n)
end
end Go.Proofs.YtdohilmgblkppaaGreatDoor.AM
