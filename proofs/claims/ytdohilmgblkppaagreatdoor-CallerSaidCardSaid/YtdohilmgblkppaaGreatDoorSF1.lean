/- Typed functions that tell what the Go functions of this seat answer, and proofs of it, by program (gen.py). -/
import Derived.Test.YtdohilmgblkppaaGreatDoorSF0
set_option linter.all false
set_option linter.unusedVariables false
set_option linter.unusedSimpArgs false
set_option maxRecDepth 1000000
set_option maxHeartbeats 0
namespace Go.Proofs.YtdohilmgblkppaaGreatDoor.AM
open Go Go.RowKit
noncomputable section
def sf (n:Nat) {R:Type} (s1 sep1:BA) (sepSave1 n01 i:Int) (a:(Sq BA)) (kn:BA→BA→Int→Int→Int→(Sq BA)→Option R) (ko:(BA×Int×(Sq BA))→Option R) (kr:Unit→Option R) (kp:Int→Option R):Option R:=if (decide (i<n01))=true then (Bl n s1 sep1).bind fun v1=>if (decide (v1<(0:Int)))=true then ko (s1,i,a) else if 0≤(IntKind.wrap .i64 (v1+sepSave1))∧(IntKind.wrap .i64 (v1+sepSave1))≤(s1.size:Int) then if 0≤i∧i<(a.n:Int) then if 0≤(IntKind.wrap .i64 (v1+(sep1.size:Int)))∧(IntKind.wrap .i64 (v1+(sep1.size:Int)))≤(s1.size:Int) then kn (s1.extract (Int.toNat (IntKind.wrap .i64 (v1+(sep1.size:Int)))) (Int.toNat (s1.size:Int))) sep1 sepSave1 n01 (IntKind.wrap .i64 (i+(1:Int))) (⟨a.n,fun q=>if q=(Int.toNat i)∧q<a.n then (s1.extract (Int.toNat (0:Int)) (Int.toNat (IntKind.wrap .i64 (v1+sepSave1)))) else a.at' q⟩:Sq BA) else none else none else none else ko (s1,i,a)
def Za (n:Nat):Nat→BA→BA→Int→Int→Int→(Sq BA)→Option (Lx (BA×Int×(Sq BA)) Unit)
 | 0,_,_,_,_,_,_=>none
 | m+1,s1,sep1,sepSave1,n01,i,a=>sf n s1 sep1 sepSave1 n01 i a (Za n m) (fun a=>some (.out a)) (fun a=>some (.ret a)) (fun p=>some (.pan p))
theorem XR (n m:Nat) {S:Type}:∀ s1 sep1 sepSave1 n01 i a (φ:_→Option S),(Za n (m+1) s1 sep1 sepSave1 n01 i a).bind φ=sf n s1 sep1 sepSave1 n01 i a (fun s1 sep1 sepSave1 n01 i a=>(Za n m s1 sep1 sepSave1 n01 i a).bind φ) (fun a=>φ (.out a)) (fun a=>φ (.ret a)) (fun p=>φ (.pan p)):=by
  intros;first | (simp only [Za,sf,ja,fa,iB,bB,oL,oX,nB,Option.bind_some]) | rfl
def Gk:List Sl:=.dat .str::.dat .str::.dat (.int .i64)::.dat (.int .i64)::tp 5 (.row 0::.dat (.int .i64)::tp 55 [])
def Fk:List RS:=[.row 9 1 .str false false]
def MC:List Sl:=.dat .str::tp 8 (.row 0::.dat (.int .i64)::tp 55 [])
def LC:List RS:=[.row 9 1 .str false false]
def Ac (K:XE→List AV→oa→Option Out):Lx (BA×Int×(Sq BA)) Unit→Option Out:=fun x=>onL x (fun a=>yb MC LC (a.1,(a.2.1,())) (a.2.2,()) (K (.exit 0))) (fun _=>none) (fun _=>none)
def Ho (n:Nat) {R:Type} (s sep:BA) (sepSave n0:Int) (k:(Sq BA)→Option R):Option R:=if (n0==(0:Int))=true then k (⟨0,fun _=>ta .str⟩:Sq BA) else if (sep.toList==(⟨#[]⟩:BA).toList)=true then none else if (decide (n0<(0:Int)))=true then (iE n s sep).bind fun v=>if 0≤(if (IntKind.wrap .i64 ((s.size:Int)+(1:Int)))<(IntKind.wrap .i64 (v+(1:Int))) then (IntKind.wrap .i64 ((s.size:Int)+(1:Int))) else (IntKind.wrap .i64 (v+(1:Int))))∧(if (IntKind.wrap .i64 ((s.size:Int)+(1:Int)))<(IntKind.wrap .i64 (v+(1:Int))) then (IntKind.wrap .i64 ((s.size:Int)+(1:Int))) else (IntKind.wrap .i64 (v+(1:Int))))≤(if (IntKind.wrap .i64 ((s.size:Int)+(1:Int)))<(IntKind.wrap .i64 (v+(1:Int))) then (IntKind.wrap .i64 ((s.size:Int)+(1:Int))) else (IntKind.wrap .i64 (v+(1:Int)))) then if ib (Int.toNat (if (IntKind.wrap .i64 ((s.size:Int)+(1:Int)))<(IntKind.wrap .i64 (v+(1:Int))) then (IntKind.wrap .i64 ((s.size:Int)+(1:Int))) else (IntKind.wrap .i64 (v+(1:Int))))) 16=true then (Za n n s sep sepSave (IntKind.wrap .i64 ((if (IntKind.wrap .i64 ((s.size:Int)+(1:Int)))<(IntKind.wrap .i64 (v+(1:Int))) then (IntKind.wrap .i64 ((s.size:Int)+(1:Int))) else (IntKind.wrap .i64 (v+(1:Int)))) - (1:Int))) (0:Int) (⟨(Int.toNat (if (IntKind.wrap .i64 ((s.size:Int)+(1:Int)))<(IntKind.wrap .i64 (v+(1:Int))) then (IntKind.wrap .i64 ((s.size:Int)+(1:Int))) else (IntKind.wrap .i64 (v+(1:Int))))),fun _=>(⟨#[]⟩:BA)⟩:Sq BA)).bind fun x_1=>onL x_1
 (fun a_2=>if 0≤a_2.2.1∧a_2.2.1<(a_2.2.2.n:Int) then if 0≤(IntKind.wrap .i64 (a_2.2.1+(1:Int)))∧(IntKind.wrap .i64 (a_2.2.1+(1:Int)))≤(a_2.2.2.n:Int) then k (⟨((Int.toNat (IntKind.wrap .i64 (a_2.2.1+(1:Int)))) - (Int.toNat (0:Int))),fun i=>(fun q=>if q=(Int.toNat a_2.2.1)∧q<a_2.2.2.n then a_2.1 else a_2.2.2.at' q) ((Int.toNat (0:Int))+i)⟩:Sq BA) else none else none) (fun _=>none) (fun _=>none) else none else none else if 0≤(if (IntKind.wrap .i64 ((s.size:Int)+(1:Int)))<n0 then (IntKind.wrap .i64 ((s.size:Int)+(1:Int))) else n0)∧(if (IntKind.wrap .i64 ((s.size:Int)+(1:Int)))<n0 then (IntKind.wrap .i64 ((s.size:Int)+(1:Int))) else n0)≤(if (IntKind.wrap .i64 ((s.size:Int)+(1:Int)))<n0 then (IntKind.wrap .i64 ((s.size:Int)+(1:Int))) else n0) then if ib (Int.toNat (if (IntKind.wrap .i64 ((s.size:Int)+(1:Int)))<n0 then (IntKind.wrap .i64 ((s.size:Int)+(1:Int))) else n0)) 16=true then (Za n n s sep sepSave (IntKind.wrap .i64 ((if (IntKind.wrap .i64 ((s.size:Int)+(1:Int)))<n0 then (IntKind.wrap .i64 ((s.size:Int)+(1:Int))) else n0) - (1:Int))) (0:Int) (⟨(Int.toNat (if (IntKind.wrap .i64 ((s.size:Int)+(1:Int)))<n0 then (IntKind.wrap .i64 ((s.size:Int)+(1:Int))) else n0)),fun _=>(⟨#[]⟩:BA)⟩:Sq BA)).bind fun x_3=>onL x_3 (fun a_4=>if 0≤a_4.2.1∧a_4.2.1<(a_4.2.2.n:Int) then if 0≤(IntKind.wrap .i64 (a_4.2.1+(1:Int)))∧(IntKind.wrap .i64 (a_4.2.1+(1:Int)))≤(a_4.2.2.n:Int) then
 k (⟨((Int.toNat (IntKind.wrap .i64 (a_4.2.1+(1:Int)))) - (Int.toNat (0:Int))),fun i=>(fun q=>if q=(Int.toNat a_4.2.1)∧q<a_4.2.2.n then a_4.1 else a_4.2.2.at' q) ((Int.toNat (0:Int))+i)⟩:Sq BA) else none else none) (fun _=>none) (fun _=>none) else none else none
def rq (n:Nat) (s sep:BA) (sepSave n0:Int):Option (Sq BA):=Ho n s sep sepSave n0 some
theorem G5 (n:Nat) {S:Type}:∀ s sep sepSave n0 (φ:_→Option S),(rq n s sep sepSave n0).bind φ=Ho n s sep sepSave n0 φ:=by
  intros;unfold rq Ho;first | (simp only [ja,fa,iB,bB,oL,oX,nB,Option.bind_some]) | rfl
def xh (n:Nat):Hint Out:={ live:=fun c=>(cond (Nat.beq c 0) [(0,none),(1,none),(2,none),(3,none),(9,some (.sl .str)),(10,none)] []),run:=fun c=>(cond (Nat.beq c 0) (some (ef Gk Fk fun σ ρ K=>(Za n n σ.1 σ.2.1 σ.2.2.1 σ.2.2.2.1 σ.2.2.2.2.1 ρ.1).bind (Ac K))) none),xm:=fun c q=>(cond (Nat.beq c 0&&Nat.beq (q.getD 1000000) 0&&q.isSome) (some [(0,none),(9,some (.sl .str)),(10,none)]) (cond (Nat.beq c 1&&Nat.beq (q.getD 1000000) 0&&q.isSome) (some [(0,none),(9,some (.sl .str)),(10,none)]) none)) }
def wh (n:Nat) (K:XE→List AV→oa→Option Out) (m:Nat) (s1:BA) (sep1:BA) (sepSave1:Int) (n01:Int) (i:Int) (a:(Sq BA)):Option Out:=Kb tys (ia Out (lq n)) (xh n) n (ra [1,1,1,1,1,1,1,1,0,0,0] (ba Tryz.f164)) 0 Gk Fk K m (s1,(sep1,(sepSave1,(n01,(i,()))))) (a,())
theorem ez (n:Nat) (K:XE→List AV→oa→Option Out):∀ (m:Nat) s1 sep1 sepSave1 n01 i a,wh n K m s1 sep1 sepSave1 n01 i a=(Za n m s1 sep1 sepSave1 n01 i a).bind (Ac K)
  | 0,_,_,_,_,_,_=>by kernel_rfl
  | m+1,s1,sep1,sepSave1,n01,i,a=>by
    have h1:wh n K (m+1) s1 sep1 sepSave1 n01 i a=sf n s1 sep1 sepSave1 n01 i a (wh n K m) (fun a=>Ac K (.out a)) (fun a=>Ac K (.ret a)) (fun p=>Ac K (.pan p)):=by kernel_rfl
    have h2:wh n K m=fun s1 sep1 sepSave1 n01 i a=>(Za n m s1 sep1 sepSave1 n01 i a).bind (Ac K):=by
      repeat (refine funext fun _=>?_)
      exact ez n K m _ _ _ _ _ _
    rw [h1,h2];exact (XR n m _ _ _ _ _ _ (Ac K)).symm
theorem QO (n:Nat):ub tys (ia Out (lq n)) (xh n) n (ra [1,1,1,1,1,1,1,1,0,0,0] (ba Tryz.f164)) 0:=Aa (sp:=Gk) (rp:=Fk) (by kernel_rfl) fun K σ ρ=>ez n K n σ.1 σ.2.1 σ.2.2.1 σ.2.2.2.1 σ.2.2.2.2.1 ρ.1
theorem YR (n:Nat):qa tys (ia Out (lq n)) (xh n) n (ba Tryz.f164) 0:=⟨aa,⟨⟨aa,⟨⟨aa,aa⟩,aa⟩⟩,⟨⟨aa,⟨⟨aa,aa⟩,aa⟩⟩,⟨⟨aa,⟨aa,aa⟩⟩,⟨aa,⟨aa,⟨aa,⟨aa,⟨⟨QO n,⟨⟨aa,⟨aa,aa⟩⟩,⟨aa,⟨⟨aa,⟨aa,aa⟩⟩,⟨aa,⟨aa,aa⟩⟩⟩⟩⟩⟩,⟨aa,⟨aa,aa⟩⟩⟩⟩⟩⟩⟩⟩⟩⟩⟩
theorem uW (n:Nat):Enters Tryz.prog 164:=enters_of (c:=ba Tryz.f164) Tryz.func164 (by kernel_rfl) (by kernel_rfl)
def sG (n:Nat):Entry:=⟨164,pcT K7 (.one (.sl .str)) (fun xs=>rq n xs.1 xs.2.1 xs.2.2.1 xs.2.2.2.1),none,none⟩
theorem QY (n:Nat):EntryOk Tryz.prog gl (sG n):=wa (uW n) fun xs y h=>ma tys_ok (qG n) mixed (hint:=xh n) (n:=n) Tryz.func164 (ya (YR n)) (la (φ:=(fun y=>some (Out.ret (Ya (.one (.sl .str)) y)))) (by kernel_rfl) (G5 n xs.1 xs.2.1 xs.2.2.1 xs.2.2.2.1 _) h)
def Ju (n:Nat):List Entry:=sG n::lq n
theorem mw (n:Nat):AllOk Tryz.prog gl (Ju n):=.cons (QY n) (qG n)
def mE (n:Nat) {R:Type} (s sep:BA) (k:(Sq BA)→Option R):Option R:=(rq n s sep (0:Int) (-1:Int)).bind fun v=>k v
def lE (n:Nat) (s sep:BA):Option (Sq BA):=mE n s sep some
theorem ugb (n:Nat) {S:Type}:∀ s sep (φ:_→Option S),(lE n s sep).bind φ=mE n s sep φ:=by
  intros;unfold lE mE;first | (simp only [ja,fa,iB,bB,oL,oX,nB,Option.bind_some]) | rfl
def BM (n:Nat):Hint Out:={ live:=fun c=>[],run:=fun c=>none,xm:=fun c q=>none }
theorem F5 (n:Nat):qa tys (ia Out (Ju n)) (BM n) n (ba Tryz.f142) 0:=na (fun _=>rfl) _ _ (by kernel_rfl)
theorem X9 (n:Nat):Enters Tryz.prog 142:=enters_of (c:=ba Tryz.f142) Tryz.func142 (by kernel_rfl) (by kernel_rfl)
def rW (n:Nat):Entry:=⟨142,pcT (.pair .str (.pair .str .unit)) (.one (.sl .str)) (fun xs=>lE n xs.1 xs.2.1),none,none⟩
theorem Vcb (n:Nat):EntryOk Tryz.prog gl (rW n):=wa (X9 n) fun xs y h=>ma tys_ok (mw n) mixed (hint:=BM n) (n:=n) Tryz.func142 (ya (F5 n)) (la (φ:=(fun y=>some (Out.ret (Ya (.one (.sl .str)) y)))) (by kernel_rfl) (ugb n xs.1 xs.2.1 _) h)
def sW (n:Nat):List Entry:=rW n::Ju n
theorem PY (n:Nat):AllOk Tryz.prog gl (sW n):=.cons (Vcb n) (mw n)
def NC (n:Nat):List Entry:=⟨143,fun {R}=>jib (R:=R) 196,none,none⟩::sW n
theorem DM (n:Nat):AllOk Tryz.prog gl (NC n):=.cons cmb (PY n)
def mg (n:Nat):List Entry:=⟨82,pcT (.pair (.int .i64) .unit) (.one .str) (fun xs=>P2 xs.1),none,none⟩::NC n
theorem Ts (n:Nat):AllOk Tryz.prog gl (mg n):=.cons Amb (DM n)
def vg (n:Nat) {R:Type} (l t10:(Sq BA)) (t11 t12:Int) (kn:(Sq BA)→(Sq BA)→Int→Int→Option R) (ko:((Sq BA))→Option R) (kr:(Bool)→Option R) (kp:Int→Option R):Option R:=if (decide (t12<t11))=true then if 0≤t12∧t12<(t10.n:Int) then (Pjb (t10.at' (Int.toNat t12))).bind fun v1=>if v1.2=true then if (decide (v1.1<(0:Int)))=false then if (decide (v1.1>(255:Int)))=false then (P2 v1.1).bind fun v2=>if (!(v2.toList==(t10.at' (Int.toNat t12)).toList))=true then kr false else kn l t10 t11 (IntKind.wrap .i64 (t12+(1:Int))) else kr false else kr false else kr false else none else ko l
def zb (n:Nat):Nat→(Sq BA)→(Sq BA)→Int→Int→Option (Lx ((Sq BA)) (Bool))
 | 0,_,_,_,_=>none
 | m+1,l,t10,t11,t12=>vg n l t10 t11 t12 (zb n m) (fun a=>some (.out a)) (fun a=>some (.ret a)) (fun p=>some (.pan p))
theorem pT (n m:Nat) {S:Type}:∀ l t10 t11 t12 (φ:_→Option S),(zb n (m+1) l t10 t11 t12).bind φ=vg n l t10 t11 t12 (fun l t10 t11 t12=>(zb n m l t10 t11 t12).bind φ) (fun a=>φ (.out a)) (fun a=>φ (.ret a)) (fun p=>φ (.pan p)):=by
  intros;first | (simp only [zb,vg,ja,fa,iB,bB,oL,oX,nB,Option.bind_some]) | rfl
def gm:List Sl:=.top::.top::.top::.dat (.sl .str)::tp 6 (.dat (.sl .str)::.dat (.int .i64)::.dat (.int .i64)::tp 28 [])
def fm:List RS:=[]
def sE:List Sl:=.top::.top::.top::.dat (.sl .str)::tp 37 []
def rE:List RS:=[]
def vE:List Sl:=.top::.top::.dat .bool::tp 38 []
def uE:List RS:=[]
def Rc (K:XE→List AV→oa→Option Out):Lx ((Sq BA)) (Bool)→Option Out:=fun x=>onL x (fun a=>yb sE rE (a,()) () (K (.exit 0))) (fun a=>yb vE uE (a,()) () (K .ret)) (fun _=>none)
def Rq (n:Nat) {R:Type} (s:BA) (k:Bool→Option R):Option R:=(lE n s (⟨#[46]⟩:BA)).bind fun v=>(zb n n v v (v.n:Int) (0:Int)).bind fun x_1=>onL x_1 (fun a_2=>k ((a_2.n:Int)==(4:Int))) (fun a_3=>k a_3) (fun _=>none)
def Sj (n:Nat) (s:BA):Option Bool:=Rq n s some
theorem C6 (n:Nat) {S:Type}:∀ s (φ:_→Option S),(Sj n s).bind φ=Rq n s φ:=by
  intros;unfold Sj Rq;first | (simp only [ja,fa,iB,bB,oL,oX,nB,Option.bind_some]) | rfl
def ui (n:Nat):Hint Out:={ live:=fun c=>(cond (Nat.beq c 0) [(3,some (.sl .str)),(10,some (.sl .str)),(11,none),(12,none)] []),run:=fun c=>(cond (Nat.beq c 0) (some (ef gm fm fun σ ρ K=>(zb n n σ.1 σ.2.1 σ.2.2.1 σ.2.2.2.1).bind (Rc K))) none),xm:=fun c q=>(cond (Nat.beq c 0&&Nat.beq (q.getD 1000000) 0&&q.isSome) (some [(3,some (.sl .str))]) (cond (Nat.beq c 1&&q.isNone) (some [(2,none)]) none)) }
def ti (n:Nat) (K:XE→List AV→oa→Option Out) (m:Nat) (l:(Sq BA)) (t10:(Sq BA)) (t11:Int) (t12:Int):Option Out:=Kb tys (ia Out (mg n)) (ui n) n (ra [1,1,0,1,0,0] (ba Tryz.f120)) 0 gm fm K m (l,(t10,(t11,(t12,())))) ()
theorem dA (n:Nat) (K:XE→List AV→oa→Option Out):∀ (m:Nat) l t10 t11 t12,ti n K m l t10 t11 t12=(zb n m l t10 t11 t12).bind (Rc K)
  | 0,_,_,_,_=>by kernel_rfl
  | m+1,l,t10,t11,t12=>by
    have h1:ti n K (m+1) l t10 t11 t12=vg n l t10 t11 t12 (ti n K m) (fun a=>Rc K (.out a)) (fun a=>Rc K (.ret a)) (fun p=>Rc K (.pan p)):=by kernel_rfl
    have h2:ti n K m=fun l t10 t11 t12=>(zb n m l t10 t11 t12).bind (Rc K):=by
      repeat (refine funext fun _=>?_)
      exact dA n K m _ _ _ _
    rw [h1,h2];exact (pT n m _ _ _ _ (Rc K)).symm
theorem OQ (n:Nat):ub tys (ia Out (mg n)) (ui n) n (ra [1,1,0,1,0,0] (ba Tryz.f120)) 0:=Aa (sp:=gm) (rp:=fm) (by kernel_rfl) fun K σ ρ=>dA n K n σ.1 σ.2.1 σ.2.2.1 σ.2.2.2.1
theorem qT (n:Nat):qa tys (ia Out (mg n)) (ui n) n (ba Tryz.f120) 0:=⟨aa,⟨aa,⟨⟨aa,⟨OQ n,⟨aa,⟨⟨aa,aa⟩,⟨⟨aa,⟨aa,⟨aa,⟨⟨aa,aa⟩,aa⟩⟩⟩⟩,aa⟩⟩⟩⟩⟩,⟨aa,aa⟩⟩⟩⟩
theorem kX (n:Nat):Enters Tryz.prog 120:=enters_of (c:=ba Tryz.f120) Tryz.func120 (by kernel_rfl) (by kernel_rfl)
def wJ (n:Nat):Entry:=⟨120,pcT (.pair .str .unit) (.one .bool) (fun xs=>Sj n xs.1),none,none⟩
theorem xJ (n:Nat):EntryOk Tryz.prog gl (wJ n):=wa (kX n) fun xs y h=>ma tys_ok (Ts n) mixed (hint:=ui n) (n:=n) Tryz.func120 (ya (qT n)) (la (φ:=(fun y=>some (Out.ret (Ya (.one .bool) y)))) (by kernel_rfl) (C6 n xs.1 _) h)
def Nw (n:Nat):List Entry:=wJ n::mg n
theorem Fy (n:Nat):AllOk Tryz.prog gl (Nw n):=.cons (xJ n) (Ts n)
def KJ (n:Nat) {R:Type} (c:Int) (k:Bool→Option R):Option R:=if (decide (c≥(97:Int)))=true then if (decide (c≤(122:Int)))=false then if (decide (c≥(48:Int)))=true then k (decide (c≤(57:Int))) else k false else k true else if (decide (c≥(48:Int)))=true then k (decide (c≤(57:Int))) else k false
def HG (n:Nat) (c:Int):Option Bool:=KJ n c some
theorem Zgb (n:Nat) {S:Type}:∀ c (φ:_→Option S),(HG n c).bind φ=KJ n c φ:=by
  intros;unfold HG KJ;first | (simp only [ja,fa,iB,bB,oL,oX,nB,Option.bind_some]) | rfl
def FP (n:Nat):Hint Out:={ live:=fun c=>[],run:=fun c=>none,xm:=fun c q=>none }
theorem J6 (n:Nat):qa tys (ia Out (Nw n)) (FP n) n (ba Tryz.f145) 0:=na (fun _=>rfl) _ _ (by kernel_rfl)
theorem bbb (n:Nat):Enters Tryz.prog 145:=enters_of (c:=ba Tryz.f145) Tryz.func145 (by kernel_rfl) (by kernel_rfl)
def dZ (n:Nat):Entry:=⟨145,pcT (.pair (.int .u8) .unit) (.one .bool) (fun xs=>HG n xs.1),none,none⟩
theorem afb (n:Nat):EntryOk Tryz.prog gl (dZ n):=wa (bbb n) fun xs y h=>ma tys_ok (Fy n) mixed (hint:=FP n) (n:=n) Tryz.func145 (ya (J6 n)) (la (φ:=(fun y=>some (Out.ret (Ya (.one .bool) y)))) (by kernel_rfl) (Zgb n xs.1 _) h)
def fv (n:Nat):List Entry:=dZ n::Nw n
theorem LJ (n:Nat):AllOk Tryz.prog gl (fv n):=.cons (afb n) (Fy n)
def Rj (n:Nat) {R:Type} (s1:BA) (t5 t6:Int) (kn:BA→Int→Int→Option R) (ko:(BA)→Option R) (kr:(Bool)→Option R) (kp:Int→Option R):Option R:=if (decide (t6<t5))=true then if 0≤t6∧t6<(s1.size:Int) then (HG n (bt s1 t6)).bind fun v=>if (!v)=true then if 0≤t6∧t6<(s1.size:Int) then if ((bt s1 t6) !=(45:Int))=false then if (t6==(0:Int))=false then if (t6==(IntKind.wrap .i64 ((s1.size:Int) - (1:Int))))=true then kr false else kn s1 t5 (IntKind.wrap .i64 (t6+(1:Int))) else kr false else kr false else none else kn s1 t5 (IntKind.wrap .i64 (t6+(1:Int))) else none else ko s1
def Qc (n:Nat):Nat→BA→Int→Int→Option (Lx (BA) (Bool))
 | 0,_,_,_=>none
 | m+1,s1,t5,t6=>Rj n s1 t5 t6 (Qc n m) (fun a=>some (.out a)) (fun a=>some (.ret a)) (fun p=>some (.pan p))
theorem F0 (n m:Nat) {S:Type}:∀ s1 t5 t6 (φ:_→Option S),(Qc n (m+1) s1 t5 t6).bind φ=Rj n s1 t5 t6 (fun s1 t5 t6=>(Qc n m s1 t5 t6).bind φ) (fun a=>φ (.out a)) (fun a=>φ (.ret a)) (fun p=>φ (.pan p)):=by
  intros;first | (simp only [Qc,Rj,ja,fa,iB,bB,oL,oX,nB,Option.bind_some]) | rfl
def vt:List Sl:=.dat .str::tp 4 (.dat (.int .i64)::.dat (.int .i64)::tp 33 [])
def ut:List RS:=[]
def tJ:List Sl:=.dat .str::tp 39 []
def sJ:List RS:=[]
def vJ:List Sl:=.top::.top::.dat .bool::tp 37 []
def uJ:List RS:=[]
def ue (K:XE→List AV→oa→Option Out):Lx (BA) (Bool)→Option Out:=fun x=>onL x (fun a=>yb tJ sJ (a,()) () (K (.exit 0))) (fun a=>yb vJ uJ (a,()) () (K .ret)) (fun _=>none)
def mD (n:Nat) {R:Type} (s:BA) (k:Bool→Option R):Option R:=(Qc n n s (s.size:Int) (0:Int)).bind fun x_1=>onL x_1 (fun a_2=>if (decide ((a_2.size:Int)≥(1:Int)))=true then k (decide ((a_2.size:Int)≤(63:Int))) else k false) (fun a_3=>k a_3) (fun _=>none)
def Qq (n:Nat) (s:BA):Option Bool:=mD n s some
theorem Veb (n:Nat) {S:Type}:∀ s (φ:_→Option S),(Qq n s).bind φ=mD n s φ:=by
  intros;unfold Qq mD;first | (simp only [ja,fa,iB,bB,oL,oX,nB,Option.bind_some]) | rfl
def wn (n:Nat):Hint Out:={ live:=fun c=>(cond (Nat.beq c 0) (lv [0,5,6]) []),run:=fun c=>(cond (Nat.beq c 0) (some (ef vt ut fun σ ρ K=>(Qc n n σ.1 σ.2.1 σ.2.2.1).bind (ue K))) none),xm:=fun c q=>(cond (Nat.beq c 0&&Nat.beq (q.getD 1000000) 0&&q.isSome) (some [(0,none)]) (cond (Nat.beq c 1&&q.isNone) (some [(2,none)]) none)) }
def vn (n:Nat) (K:XE→List AV→oa→Option Out) (m:Nat) (s1:BA) (t5:Int) (t6:Int):Option Out:=Kb tys (ia Out (fv n)) (wn n) n (ra [1,0,1,0,0] (ba Tryz.f122)) 0 vt ut K m (s1,(t5,(t6,()))) ()
theorem rJ (n:Nat) (K:XE→List AV→oa→Option Out):∀ (m:Nat) s1 t5 t6,vn n K m s1 t5 t6=(Qc n m s1 t5 t6).bind (ue K)
  | 0,_,_,_=>by kernel_rfl
  | m+1,s1,t5,t6=>by
    have h1:vn n K (m+1) s1 t5 t6=Rj n s1 t5 t6 (vn n K m) (fun a=>ue K (.out a)) (fun a=>ue K (.ret a)) (fun p=>ue K (.pan p)):=by kernel_rfl
    have h2:vn n K m=fun s1 t5 t6=>(Qc n m s1 t5 t6).bind (ue K):=by
      repeat (refine funext fun _=>?_)
      exact rJ n K m _ _ _
    rw [h1,h2];exact (F0 n m _ _ _ (ue K)).symm
theorem iX (n:Nat):ub tys (ia Out (fv n)) (wn n) n (ra [1,0,1,0,0] (ba Tryz.f122)) 0:=Aa (sp:=vt) (rp:=ut) (by kernel_rfl) fun K σ ρ=>rJ n K n σ.1 σ.2.1 σ.2.2.1
theorem G0 (n:Nat):qa tys (ia Out (fv n)) (wn n) n (ba Tryz.f122) 0:=⟨aa,⟨⟨aa,⟨iX n,⟨aa,⟨⟨aa,aa⟩,⟨⟨aa,⟨aa,⟨⟨aa,aa⟩,aa⟩⟩⟩,aa⟩⟩⟩⟩⟩,⟨aa,aa⟩⟩⟩
theorem B6 (n:Nat):Enters Tryz.prog 122:=enters_of (c:=ba Tryz.f122) Tryz.func122 (by kernel_rfl) (by kernel_rfl)
def mT (n:Nat):Entry:=⟨122,pcT (.pair .str .unit) (.one .bool) (fun xs=>Qq n xs.1),none,none⟩
theorem oT (n:Nat):EntryOk Tryz.prog gl (mT n):=wa (B6 n) fun xs y h=>ma tys_ok (LJ n) mixed (hint:=wn n) (n:=n) Tryz.func122 (ya (G0 n)) (la (φ:=(fun y=>some (Out.ret (Ya (.one .bool) y)))) (by kernel_rfl) (Veb n xs.1 _) h)
def nT (n:Nat):List Entry:=mT n::fv n
theorem jX (n:Nat):AllOk Tryz.prog gl (nT n):=.cons (oT n) (LJ n)
def Pc (n:Nat) (s:BA):Option Bool:=(me n s).bind fun b=>if b=true then (qe n s ⟨#[93]⟩).bind fun c=>if c=true then (if 2≤(s.size:Int)∧(s.size:Int)≤9223372036854775807 then Sj n (s.extract 1 (s.size - 1)) else none) else some false else Dom.domT (fun x=>Bl n x Dom.dot) (Qq n) n s
theorem dX:Tryz.prog.funcs[90]?=some Tryz.f90:=by kernel_rfl
theorem eX (n:Nat):EntryOk Tryz.prog gl ⟨90,pcT (.pair .str .unit) (.one .bool) (fun xs=>Pc n xs.1),none,none⟩:=wa (enters_of (c:=ba Tryz.f90) dX (by kernel_rfl) (by kernel_rfl)) fun xs y h=>by
  refine AS (args:=[.string xs.1]) (v:=.bool y) (fun w0 hg hn=>?_)
  have hlit:∀ b,me n xs.1=some b→∀ (w:World),Below w0.heap.size w0 w→Calls Tryz.prog 118 #[.string xs.1] w fun e w'=>e=.returned (.bool b)∧Below w.heap.size w w':=fun b hb' w hb=>
    iK (Zz n) (args:=[.string xs.1]) (v:=.bool b) (by show (me n xs.1).bind _=_;rw [hb'];rfl) hg hn hb
  have hsuf:∀ b,qe n xs.1 ⟨#[93]⟩=some b→∀ (w:World),Below w0.heap.size w0 w→Calls Tryz.prog 119 #[.string xs.1,.string ⟨#[93]⟩] w fun e w'=>e=.returned (.bool b)∧Below w.heap.size w w':=fun b hb' w hb=>
    iK (IC n) (args:=[.string xs.1,.string ⟨#[93]⟩]) (v:=.bool b) (by show (qe n xs.1 ⟨#[93]⟩).bind _=_;rw [hb'];rfl) hg hn hb
  unfold Pc at h
  obtain ⟨b,hb,h⟩:=Option.bind_eq_some_iff.1 h
  cases b with
  | true=>
    rw [if_pos rfl] at h
    obtain ⟨c,hc,h⟩:=Option.bind_eq_some_iff.1 h
    refine Dom.dom2 xs.1 c y w0 (hlit true hb) (hsuf c hc) (fun hc'=>?_) (fun hc'=>?_)
    · rw [if_pos hc'] at h
      split at h
      · rename_i hsz
        exact ⟨hsz,fun w hbw=>iK (xJ n) (args:=[.string (xs.1.extract 1 (xs.1.size - 1))]) (v:=.bool y) (by show (Sj n (xs.1.extract 1 (xs.1.size - 1))).bind _=_;rw [h];rfl) hg hn hbw⟩
      · cases h
    · rw [if_neg (by rw [hc'];simp)] at h
      exact (Option.some.inj h).symm
  | false=>
    rw [if_neg (by simp)] at h
    exact Dom.dom1 _ _ n xs.1 y w0 (fun x i w hbw hx=>iK (qW n) (args:=[.string x,.string Dom.dot]) (v:=.int .i64 i) (by show (Bl n x Dom.dot).bind _=_;rw [hx];rfl) hg hn hbw)
      (fun x i w hbw hx=>iK (oT n) (args:=[.string x]) (v:=.bool i) (by show (Qq n x).bind _=_;rw [hx];rfl) hg hn hbw) (hlit false hb) h
def tt (n:Nat):List Entry:=⟨90,pcT (.pair .str .unit) (.one .bool) (fun xs=>Pc n xs.1),none,none⟩::nT n
theorem Xu (n:Nat):AllOk Tryz.prog gl (tt n):=.cons (eX n) (jX n)
def XJ (n:Nat) {R:Type} (s:BA) (k:Bool→Option R):Option R:=if (decide ((s.size:Int)≤(200:Int)))=true then (Pc n s).bind fun v=>k v else k false
def Uj (n:Nat) (s:BA):Option Bool:=XJ n s some
theorem lhb (n:Nat) {S:Type}:∀ s (φ:_→Option S),(Uj n s).bind φ=XJ n s φ:=by
  intros;unfold Uj XJ;first | (simp only [ja,fa,iB,bB,oL,oX,nB,Option.bind_some]) | rfl
def RP (n:Nat):Hint Out:={ live:=fun c=>[],run:=fun c=>none,xm:=fun c q=>none }
theorem o7 (n:Nat):qa tys (ia Out (tt n)) (RP n) n (ba Tryz.f65) 0:=na (fun _=>rfl) _ _ (by kernel_rfl)
theorem rbb (n:Nat):Enters Tryz.prog 65:=enters_of (c:=ba Tryz.f65) Tryz.func65 (by kernel_rfl) (by kernel_rfl)
def mZ (n:Nat):Entry:=⟨65,pcT (.pair .str .unit) (.one .bool) (fun xs=>Uj n xs.1),none,none⟩
theorem jfb (n:Nat):EntryOk Tryz.prog gl (mZ n):=wa (rbb n) fun xs y h=>ma tys_ok (Xu n) mixed (hint:=RP n) (n:=n) Tryz.func65 (ya (o7 n)) (la (φ:=(fun y=>some (Out.ret (Ya (.one .bool) y)))) (by kernel_rfl) (lhb n xs.1 _) h)
def yN (n:Nat):List Entry:=mZ n::tt n
theorem YJ (n:Nat):AllOk Tryz.prog gl (yN n):=.cons (jfb n) (Xu n)
def yS (n:Nat) {R:Type} (m0:U0) (k:BA→Option R):Option R:=if Sa m0.1 (⟨#[64]⟩:BA)=true then if Sa (m0.1++(⟨#[64]⟩:BA)) m0.2.1=true then k ((m0.1++(⟨#[64]⟩:BA))++m0.2.1) else none else none
def XY (n:Nat) (m0:U0):Option BA:=yS n m0 some
theorem Mjb (n:Nat) {S:Type}:∀ m0 (φ:_→Option S),(XY n m0).bind φ=yS n m0 φ:=by
  intros;unfold XY yS;first | (simp only [ja,fa,iB,bB,oL,oX,nB,Option.bind_some]) | rfl
def jT (n:Nat):Hint Out:={ live:=fun c=>[],run:=fun c=>none,xm:=fun c q=>none }
theorem Qab (n:Nat):qa tys (ia Out (yN n)) (jT n) n (ba Tryz.f124) 0:=na (fun _=>rfl) _ _ (by kernel_rfl)
theorem Peb (n:Nat):Enters Tryz.prog 124:=enters_of (c:=ba Tryz.f124) Tryz.func124 (by kernel_rfl) (by kernel_rfl)
def u6 (n:Nat):Entry:=⟨124,pcT (.pair (.pair .str (.pair .str .unit)) .unit) (.one .str) (fun xs=>XY n xs.1),none,none⟩
theorem Vgb (n:Nat):EntryOk Tryz.prog gl (u6 n):=wa (Peb n) fun xs y h=>ma tys_ok (YJ n) mixed (hint:=jT n) (n:=n) Tryz.func124 (ya (Qab n)) (la (φ:=(fun y=>some (Out.ret (Ya (.one .str) y)))) (by kernel_rfl) (Mjb n xs.1 _) h)
def iT (n:Nat):List Entry:=u6 n::yN n
theorem aA (n:Nat):AllOk Tryz.prog gl (iT n):=.cons (Vgb n) (YJ n)
def zJ (n:Nat) {R:Type} (ok:Bool) (k:(Unit)→Option R) (kp:Int→Option R):Option R:=if (!ok)=true then kp (8:Int) else k ()
def lb (n:Nat) (ok:Bool):Option (Except Int (Unit)):=zJ n ok (fun y=>some (.ok y)) (fun p=>some (.error p))
theorem E6 (n:Nat) {S:Type}:∀ ok (φ:_→Option S),(lb n ok).bind φ=zJ n ok (fun y=>φ (.ok y)) (fun p=>φ (.error p)):=by
  intros;unfold lb zJ;first | (simp only [ja,fa,iB,bB,oL,oX,nB,Option.bind_some]) | rfl
def eA (n:Nat):Hint Out:={ live:=fun c=>[],run:=fun c=>none,xm:=fun c q=>none }
theorem CP (n:Nat):qa tys (ia Out (iT n)) (eA n) n (ba Tryz.f170) 0:=na (fun _=>rfl) _ _ (by kernel_rfl)
theorem Xab (n:Nat):Enters Tryz.prog 170:=enters_of (c:=ba Tryz.f170) Tryz.func170 (by kernel_rfl) (by kernel_rfl)
def bZ (n:Nat):Entry:=⟨170,pcX 174 (.pair .bool .unit) (.many .unit) (fun xs=>lb n xs.1),none,none⟩
theorem Web (n:Nat):EntryOk Tryz.prog gl (bZ n):=wK (Xab n) (fun xs y h=>ma tys_ok (aA n) mixed (hint:=eA n) (n:=n) Tryz.func170 (ya (CP n)) (la (φ:=(fun r=>onX r (fun p=>some (Out.pan (Pg 174 p))) fun y=>some (Out.ret (Ya (.many .unit) y)))) (by kernel_rfl) (E6 n xs.1 _) h)) (fun xs p h=>ma tys_ok (aA n) mixed (hint:=eA n) (n:=n) Tryz.func170 (ya (CP n)) (la (φ:=(fun r=>onX r (fun p=>some (Out.pan (Pg 174 p))) fun y=>some (Out.ret (Ya (.many .unit) y)))) (by kernel_rfl) (E6 n xs.1 _) h))
def oN (n:Nat):List Entry:=bZ n::iT n
theorem AJ (n:Nat):AllOk Tryz.prog gl (oN n):=.cons (Web n) (aA n)
def xl (n:Nat) {R:Type} (k:(BA×Unit)→Option R):Option R:=if ((0:Nat):Int)=0 then k ((⟨#[]⟩:BA),()) else none
def gg (n:Nat):Option (BA×Unit):=xl n some
theorem JY (n:Nat) {S:Type}:∀ (φ:_→Option S),(gg n).bind φ=xl n φ:=by
  intros;unfold gg xl;first | (simp only [ja,fa,iB,bB,oL,oX,nB,Option.bind_some]) | rfl
def dw (n:Nat):Hint OutS:={ live:=fun c=>[],run:=fun c=>none,xm:=fun c q=>none,sch:=fun c=>(cond (Nat.beq c 1) (some [(0,0),(1,0),(2,0),(5,0),(6,0),(7,0),(3,1),(8,1),(9,0),(4,3),(10,2),(11,0)]) none) }
theorem DO (n:Nat):qa tys (ia OutS (oN n)) (dw n) n (ba Tryz.f83) 0:=na (fun _=>rfl) _ _ (by kernel_rfl)
theorem DR (n:Nat):Enters Tryz.prog 83:=enters_of (c:=ba Tryz.f83) Tryz.func83 (by kernel_rfl) (by kernel_rfl)
def nC:List RSp:=[.one (.ptr 0 0 0)]
def mC:List RS:=[.box 108 2 true [.cn .nilp,.cn .nils]]
def ER:List Sl:=[.ptr 0 0 0]
def FR:List RSp:=[.one (.dat .str)]
def uh:List RS:=[.box 108 2 true [.cn .nilp,.cn .nils]]
def Eu (y:(BA×Unit)):OutS:=⟨false,km (cc uh ((),())) ER (),OC (Vz (cc uh ((),())) FR ((y.1,()),())),ir (cc uh ((),())) uh ((),())⟩
theorem VV (n:Nat):EntryOk Tryz.prog gl ⟨83,vd,none,some (csT nC mC (fun σ ρ=>gg n) Eu)⟩:=pd (DR n) fun σ ρ y h=>Ta tys_ok (AJ n) mixed (hint:=dw n) (n:=n) Tryz.func83 (ya (DO n)) (la (φ:=fun y=>some (Eu y)) (by kernel_rfl) (JY n _) h)
def lC (n:Nat):List Entry:=⟨83,vd,none,some (csT nC mC (fun σ ρ=>gg n) Eu)⟩::oN n
theorem mM (n:Nat):AllOk Tryz.prog gl (lC n):=.cons (VV n) (AJ n)
theorem wv:Tryz.prog.funcs[137]?=some Tryz.f137:=by kernel_rfl
theorem xv:EntryOk Tryz.prog gl ⟨137,vd,some .ident,none⟩:=UX wv (by kernel_rfl) (by kernel_rfl) (by kernel_rfl) (by kernel_rfl)
def be (n:Nat):List Entry:=⟨137,vd,some .ident,none⟩::lC n
theorem Of (n:Nat):AllOk Tryz.prog gl (be n):=.cons xv (mM n)
def Bk (n:Nat) {R:Type} (k:Unit→Option R):Option R:=k ()
def ge (n:Nat):Option Unit:=Bk n some
theorem HO (n:Nat) {S:Type}:∀ (φ:_→Option S),(ge n).bind φ=Bk n φ:=by
  intros;unfold ge Bk;first | (simp only [ja,fa,iB,bB,oL,oX,nB,Option.bind_some]) | rfl
def Wm (n:Nat):Hint OutS:={ live:=fun c=>[],run:=fun c=>none,xm:=fun c q=>none }
theorem WE (n:Nat):qa tys (ia OutS (be n)) (Wm n) n (ba Tryz.f113) 0:=na (fun _=>rfl) _ _ (by kernel_rfl)
theorem LI (n:Nat):Enters Tryz.prog 113:=enters_of (c:=ba Tryz.f113) Tryz.func113 (by kernel_rfl) (by kernel_rfl)
def Ls:List RSp:=[.one (.ptr 0 0 0)]
def Ks:List RS:=[.box 108 2 true [.cn .nilp,.cn .nils]]
def MI:List Sl:=[.ptr 0 0 0]
def NI:List RSp:=[]
def Xe:List RS:=[.box 108 2 false [.ptr 0 0 0,.cn .nils]]
def Ck (y:Unit):OutS:=⟨false,km (cc Xe ((),())) MI (),OC (Vz (cc Xe ((),())) NI ()),ir (cc Xe ((),())) Xe ((),())⟩
theorem pM (n:Nat):EntryOk Tryz.prog gl ⟨113,vd,none,some (csT Ls Ks (fun σ ρ=>ge n) Ck)⟩:=pd (LI n) fun σ ρ y h=>Ta tys_ok (Of n) mixed (hint:=Wm n) (n:=n) Tryz.func113 (ya (WE n)) (la (φ:=fun y=>some (Ck y)) (by kernel_rfl) (HO n _) h)
def lj (n:Nat):List Entry:=⟨113,vd,none,some (csT Ls Ks (fun σ ρ=>ge n) Ck)⟩::be n
theorem Vl (n:Nat):AllOk Tryz.prog gl (lj n):=.cons (pM n) (Of n)
def yk (n:Nat) {R:Type} (c:Int) (k:U19→Option R):Option R:=(ge n).bind fun v=>if ib (0+1) 1=true then k ((⟨(0+1),fun q=>if q<0 then (fun _=>ta (.int .u8)) q else (fun q=>List.getD (α:=Int) [c] q (ta (.int .u8))) (q - 0)⟩:Sq Int),()) else none
def jb (n:Nat) (c:Int):Option U19:=yk n c some
theorem FO (n:Nat) {S:Type}:∀ c (φ:_→Option S),(jb n c).bind φ=yk n c φ:=by
  intros;unfold jb yk;first | (simp only [ja,fa,iB,bB,oL,oX,nB,Option.bind_some]) | rfl
def Qm (n:Nat):Hint OutS:={ live:=fun c=>[],run:=fun c=>none,xm:=fun c q=>none }
theorem SE (n:Nat):qa tys (ia OutS (lj n)) (Qm n) n (ba Tryz.f203) 0:=na (fun _=>rfl) _ _ (by kernel_rfl)
theorem DI (n:Nat):Enters Tryz.prog 203:=enters_of (c:=ba Tryz.f203) Tryz.func203 (by kernel_rfl) (by kernel_rfl)
def Gs:List RSp:=[.one (.ptr 0 0 0),.one (.dat (.int .u8))]
def Fs:List RS:=[.box 108 2 true [.cn .nilp,.cn .nils]]
def EI:List Sl:=[.ptr 0 0 0,.top]
def FI:List RSp:=[.one (.cn .nili)]
def Ve:List RS:=[.box 108 2 false [.ptr 0 0 0,.row 1],.row 5 1 (.int .u8) true false]
def zk (y:U19):OutS:=⟨false,km (cc Ve ((),(y.1,()))) EI (),OC (Vz (cc Ve ((),(y.1,()))) FI ((),())),ir (cc Ve ((),(y.1,()))) Ve ((),(y.1,()))⟩
theorem nM (n:Nat):EntryOk Tryz.prog gl ⟨203,vd,none,some (csT Gs Fs (fun σ ρ=>jb n σ.2.1.1) zk)⟩:=pd (DI n) fun σ ρ y h=>Ta tys_ok (Vl n) mixed (hint:=Qm n) (n:=n) Tryz.func203 (ya (SE n)) (la (φ:=fun y=>some (zk y)) (by kernel_rfl) (FO n σ.2.1.1 _) h)
def gj (n:Nat):List Entry:=⟨203,vd,none,some (csT Gs Fs (fun σ ρ=>jb n σ.2.1.1) zk)⟩::lj n
theorem Ul (n:Nat):AllOk Tryz.prog gl (gj n):=.cons (nM n) (Vl n)
def yl (n:Nat) {R:Type} (r1:(Sq Int)) (k:(BA×Unit)→Option R):Option R:=if (r1.n:Int)=(r1.n:Int)∧(r1.n:Int)≤9223372036854775807 then k ((nw r1.n r1.at'),()) else none
def Kc (n:Nat) (r1:(Sq Int)):Option (BA×Unit):=yl n r1 some
theorem KY (n:Nat) {S:Type}:∀ r1 (φ:_→Option S),(Kc n r1).bind φ=yl n r1 φ:=by
  intros;unfold Kc yl;first | (simp only [ja,fa,iB,bB,oL,oX,nB,Option.bind_some]) | rfl
def fw (n:Nat):Hint OutS:={ live:=fun c=>[],run:=fun c=>none,xm:=fun c q=>none,sch:=fun c=>(cond (Nat.beq c 1) (some [(0,0),(1,0),(2,0),(5,0),(6,0),(7,0),(3,1),(8,1),(9,0),(4,3),(10,2),(11,0)]) none) }
theorem EO (n:Nat):qa tys (ia OutS (gj n)) (fw n) n (ba Tryz.f83) 0:=na (fun _=>rfl) _ _ (by kernel_rfl)
theorem GR (n:Nat):Enters Tryz.prog 83:=enters_of (c:=ba Tryz.f83) Tryz.func83 (by kernel_rfl) (by kernel_rfl)
def qC:List RSp:=[.one (.ptr 0 0 0)]
def pC:List RS:=[.box 108 2 false [.ptr 0 0 0,.row 1],.row 5 1 (.int .u8) true false]
def HR:List Sl:=[.ptr 0 0 0]
def IR:List RSp:=[.one (.dat .str)]
def vh:List RS:=[.box 108 2 false [.ptr 0 0 0,.top]]
def Fu (y:(BA×Unit)):OutS:=⟨false,km (cc vh ((),())) HR (),OC (Vz (cc vh ((),())) IR ((y.1,()),())),ir (cc vh ((),())) vh ((),())⟩
theorem WV (n:Nat):EntryOk Tryz.prog gl ⟨83,vd,none,some (csT qC pC (fun σ ρ=>Kc n ρ.2.1) Fu)⟩:=pd (GR n) fun σ ρ y h=>Ta tys_ok (Ul n) mixed (hint:=fw n) (n:=n) Tryz.func83 (ya (EO n)) (la (φ:=fun y=>some (Fu y)) (by kernel_rfl) (KY n ρ.2.1 _) h)
def jq (n:Nat):List Entry:=⟨83,vd,none,some (csT qC pC (fun σ ρ=>Kc n ρ.2.1) Fu)⟩::gj n
theorem Es (n:Nat):AllOk Tryz.prog gl (jq n):=.cons (WV n) (Ul n)
def Fg (n:Nat) {R:Type} (r1:(Sq Int)) (k:U19→Option R):Option R:=k (r1,())
def ed (n:Nat) (r1:(Sq Int)):Option U19:=Fg n r1 some
theorem JO (n:Nat) {S:Type}:∀ r1 (φ:_→Option S),(ed n r1).bind φ=Fg n r1 φ:=by
  intros;unfold ed Fg;first | (simp only [ja,fa,iB,bB,oL,oX,nB,Option.bind_some]) | rfl
def Xm (n:Nat):Hint OutS:={ live:=fun c=>[],run:=fun c=>none,xm:=fun c q=>none }
theorem YE (n:Nat):qa tys (ia OutS (jq n)) (Xm n) n (ba Tryz.f113) 0:=na (fun _=>rfl) _ _ (by kernel_rfl)
theorem OI (n:Nat):Enters Tryz.prog 113:=enters_of (c:=ba Tryz.f113) Tryz.func113 (by kernel_rfl) (by kernel_rfl)
def Ns:List RSp:=[.one (.ptr 0 0 0)]
def Ms:List RS:=[.box 108 2 false [.ptr 0 0 0,.row 1],.row 5 1 (.int .u8) true false]
def PI:List Sl:=[.ptr 0 0 0]
def QI:List RSp:=[]
def Ye:List RS:=[.box 108 2 false [.ptr 0 0 0,.row 1],.row 5 1 (.int .u8) true false]
def Dk (y:U19):OutS:=⟨false,km (cc Ye ((),(y.1,()))) PI (),OC (Vz (cc Ye ((),(y.1,()))) QI ()),ir (cc Ye ((),(y.1,()))) Ye ((),(y.1,()))⟩
theorem qM (n:Nat):EntryOk Tryz.prog gl ⟨113,vd,none,some (csT Ns Ms (fun σ ρ=>ed n ρ.2.1) Dk)⟩:=pd (OI n) fun σ ρ y h=>Ta tys_ok (Es n) mixed (hint:=Xm n) (n:=n) Tryz.func113 (ya (YE n)) (la (φ:=fun y=>some (Dk y)) (by kernel_rfl) (JO n ρ.2.1 _) h)
def mj (n:Nat):List Entry:=⟨113,vd,none,some (csT Ns Ms (fun σ ρ=>ed n ρ.2.1) Dk)⟩::jq n
theorem Wl (n:Nat):AllOk Tryz.prog gl (mj n):=.cons (qM n) (Es n)
def Eg (n:Nat) {R:Type} (c:Int) (r1:(Sq Int)) (k:U19→Option R):Option R:=(ed n r1).bind fun v=>if ib (v.1.n+1) 1=true then k ((⟨(v.1.n+1),fun q=>if q<v.1.n then v.1.at' q else (fun q=>List.getD (α:=Int) [c] q (ta (.int .u8))) (q - v.1.n)⟩:Sq Int),()) else none
def Ia (n:Nat) (c:Int) (r1:(Sq Int)):Option U19:=Eg n c r1 some
theorem GO (n:Nat) {S:Type}:∀ c r1 (φ:_→Option S),(Ia n c r1).bind φ=Eg n c r1 φ:=by
  intros;unfold Ia Eg;first | (simp only [ja,fa,iB,bB,oL,oX,nB,Option.bind_some]) | rfl
def Rm (n:Nat):Hint OutS:={ live:=fun c=>[],run:=fun c=>none,xm:=fun c q=>none }
theorem TE (n:Nat):qa tys (ia OutS (mj n)) (Rm n) n (ba Tryz.f203) 0:=na (fun _=>rfl) _ _ (by kernel_rfl)
theorem GI (n:Nat):Enters Tryz.prog 203:=enters_of (c:=ba Tryz.f203) Tryz.func203 (by kernel_rfl) (by kernel_rfl)
def Js:List RSp:=[.one (.ptr 0 0 0),.one (.dat (.int .u8))]
def Hs:List RS:=[.box 108 2 false [.ptr 0 0 0,.row 1],.row 5 1 (.int .u8) true false]
def HI:List Sl:=[.ptr 0 0 0,.top]
def II:List RSp:=[.one (.cn .nili)]
def We:List RS:=[.box 108 2 false [.ptr 0 0 0,.row 1],.row 5 1 (.int .u8) true false]
def Ak (y:U19):OutS:=⟨false,km (cc We ((),(y.1,()))) HI (),OC (Vz (cc We ((),(y.1,()))) II ((),())),ir (cc We ((),(y.1,()))) We ((),(y.1,()))⟩
theorem oM (n:Nat):EntryOk Tryz.prog gl ⟨203,vd,none,some (csT Js Hs (fun σ ρ=>Ia n σ.2.1.1 ρ.2.1) Ak)⟩:=pd (GI n) fun σ ρ y h=>Ta tys_ok (Wl n) mixed (hint:=Rm n) (n:=n) Tryz.func203 (ya (TE n)) (la (φ:=fun y=>some (Ak y)) (by kernel_rfl) (GO n σ.2.1.1 ρ.2.1 _) h)
def Dd (n:Nat):List Entry:=⟨203,vd,none,some (csT Js Hs (fun σ ρ=>Ia n σ.2.1.1 ρ.2.1) Ak)⟩::mj n
theorem ig (n:Nat):AllOk Tryz.prog gl (Dd n):=.cons (oM n) (Wl n)
def qb (n:Nat) {R:Type} (s1:BA) (i:Int) (r1:(Sq Int)) (kn:BA→Int→(Sq Int)→Option R) (ko:Unit→Option R) (kr:(BA×BA)→Option R) (kp:Int→Option R):Option R:=(lb n (decide (i<(s1.size:Int)))).bind fun x_1=>onX x_1 (fun p3=>kp p3) (fun v5=>if 0≤i∧i<(s1.size:Int) then if ((bt s1 i)==(34:Int))=true then if 0≤(IntKind.wrap .i64 (i+(1:Int)))∧(IntKind.wrap .i64 (i+(1:Int)))≤(s1.size:Int) then (Kc n r1).bind fun v6=>kr (v6.1,(s1.extract (Int.toNat (IntKind.wrap .i64 (i+(1:Int)))) (Int.toNat (s1.size:Int)))) else none else if 0≤i∧i<(s1.size:Int) then if ((bt s1 i)==(92:Int))=true then (lb n (decide ((IntKind.wrap .i64 (i+(1:Int)))<(s1.size:Int)))).bind fun x_2=>onX x_2 (fun p4=>kp p4) (fun v7=>if 0≤(IntKind.wrap .i64 (i+(1:Int)))∧(IntKind.wrap .i64 (i+(1:Int)))<(s1.size:Int) then if (decide ((bt s1 (IntKind.wrap .i64 (i+(1:Int))))≥(32:Int)))=true then if 0≤(IntKind.wrap .i64 (i+(1:Int)))∧(IntKind.wrap .i64 (i+(1:Int)))<(s1.size:Int) then (lb n (decide ((bt s1 (IntKind.wrap .i64 (i+(1:Int))))≤(126:Int)))).bind fun x_3=>onX x_3 (fun p5=>kp p5) (fun v8=>if 0≤(IntKind.wrap .i64 (i+(1:Int)))∧(IntKind.wrap .i64 (i+(1:Int)))<(s1.size:Int) then (Ia n (bt s1 (IntKind.wrap .i64 (i+(1:Int)))) r1).bind fun v9=>
 kn s1 (IntKind.wrap .i64 ((IntKind.wrap .i64 (i+(1:Int)))+(1:Int))) v9.1 else none) else none else (lb n false).bind fun x_4=>onX x_4 (fun p6=>kp p6) (fun v10=>if 0≤(IntKind.wrap .i64 (i+(1:Int)))∧(IntKind.wrap .i64 (i+(1:Int)))<(s1.size:Int) then (Ia n (bt s1 (IntKind.wrap .i64 (i+(1:Int)))) r1).bind fun v11=>kn s1 (IntKind.wrap .i64 ((IntKind.wrap .i64 (i+(1:Int)))+(1:Int))) v11.1 else none) else none) else if 0≤i∧i<(s1.size:Int) then if (decide ((bt s1 i)≥(32:Int)))=true then if 0≤i∧i<(s1.size:Int) then (lb n (decide ((bt s1 i)≤(126:Int)))).bind fun x_5=>onX x_5 (fun p7=>kp p7) (fun v12=>if 0≤i∧i<(s1.size:Int) then (Ia n (bt s1 i) r1).bind fun v13=>kn s1 (IntKind.wrap .i64 (i+(1:Int))) v13.1 else none) else none else (lb n false).bind fun x_6=>onX x_6 (fun p8=>kp p8) (fun v14=>if 0≤i∧i<(s1.size:Int) then (Ia n (bt s1 i) r1).bind fun v15=>kn s1 (IntKind.wrap .i64 (i+(1:Int))) v15.1 else none) else none else none else none)
def Ca (n:Nat):Nat→BA→Int→(Sq Int)→Option (Lx Unit (BA×BA))
 | 0,_,_,_=>none
 | m+1,s1,i,r1=>qb n s1 i r1 (Ca n m) (fun a=>some (.out a)) (fun a=>some (.ret a)) (fun p=>some (.pan p))
theorem nX (n m:Nat) {S:Type}:∀ s1 i r1 (φ:_→Option S),(Ca n (m+1) s1 i r1).bind φ=qb n s1 i r1 (fun s1 i r1=>(Ca n m s1 i r1).bind φ) (fun a=>φ (.out a)) (fun a=>φ (.ret a)) (fun p=>φ (.pan p)):=by
  intros;first | (simp only [Ca,qb,ja,fa,iB,bB,oL,oX,nB,Option.bind_some]) | rfl
def bp:List Sl:=.dat .str::.top::.top::.top::.ptr 0 0 0::.dat (.int .i64)::tp 42 []
def ap:List RS:=[.box 108 2 false [.ptr 0 0 0,.row 1],.row 5 1 (.int .u8) true false]
def GG:List Sl:=.top::.top::.dat .str::.dat .str::tp 44 []
def EG:List RS:=[]
def Jd (K:XE→List AV→oa→Option Out):Lx Unit (BA×BA)→Option Out:=fun x=>onL x (fun _=>none) (fun a=>yb GG EG (a.1,(a.2,())) () (K .ret)) (fun p=>K (.panic (Pg 174 p)) (List.replicate 48 .top) [])
def Id (n:Nat) {R:Type} (s:BA) (k:(BA×BA×Unit)→Option R) (kp:Int→Option R):Option R:=(lb n (decide ((1:Int)<(s.size:Int)))).bind fun x_1=>onX x_1 (fun p=>kp p) (fun v=>if 0≤(1:Int)∧(1:Int)<(s.size:Int) then if ((bt s (1:Int))==(34:Int))=true then if 0≤(IntKind.wrap .i64 ((1:Int)+(1:Int)))∧(IntKind.wrap .i64 ((1:Int)+(1:Int)))≤(s.size:Int) then (gg n).bind fun v1=>k (v1.1,((s.extract (Int.toNat (IntKind.wrap .i64 ((1:Int)+(1:Int)))) (Int.toNat (s.size:Int))),())) else none else if 0≤(1:Int)∧(1:Int)<(s.size:Int) then if ((bt s (1:Int))==(92:Int))=true then (lb n (decide ((IntKind.wrap .i64 ((1:Int)+(1:Int)))<(s.size:Int)))).bind fun x_2=>onX x_2 (fun p1=>kp p1) (fun v2=>if 0≤(IntKind.wrap .i64 ((1:Int)+(1:Int)))∧(IntKind.wrap .i64 ((1:Int)+(1:Int)))<(s.size:Int) then if (decide ((bt s (IntKind.wrap .i64 ((1:Int)+(1:Int))))≥(32:Int)))=true then if 0≤(IntKind.wrap .i64 ((1:Int)+(1:Int)))∧(IntKind.wrap .i64 ((1:Int)+(1:Int)))<(s.size:Int) then (lb n (decide ((bt s (IntKind.wrap .i64 ((1:Int)+(1:Int))))≤(126:Int)))).bind fun x_3=>onX x_3 (fun p2=>kp p2) (fun v3=>if 0≤(IntKind.wrap .i64 ((1:Int)+(1:Int)))∧(IntKind.wrap .i64 ((1:Int)+(1:Int)))<(s.size:Int) then (jb n (bt s (IntKind.wrap .i64 ((1:Int)+(1:Int))))).bind fun v4=>
 (Ca n n s (IntKind.wrap .i64 ((IntKind.wrap .i64 ((1:Int)+(1:Int)))+(1:Int))) v4.1).bind fun x_4=>onL x_4 (fun _=>none) (fun a_5=>k (a_5.1,(a_5.2,()))) (fun p9=>kp p9) else none) else none else (lb n false).bind fun x_6=>onX x_6 (fun p10=>kp p10) (fun v16=>if 0≤(IntKind.wrap .i64 ((1:Int)+(1:Int)))∧(IntKind.wrap .i64 ((1:Int)+(1:Int)))<(s.size:Int) then (jb n (bt s (IntKind.wrap .i64 ((1:Int)+(1:Int))))).bind fun v17=>(Ca n n s (IntKind.wrap .i64 ((IntKind.wrap .i64 ((1:Int)+(1:Int)))+(1:Int))) v17.1).bind fun x_7=>onL x_7 (fun _=>none) (fun a_8=>k (a_8.1,(a_8.2,()))) (fun p11=>kp p11) else none) else none) else if 0≤(1:Int)∧(1:Int)<(s.size:Int) then if (decide ((bt s (1:Int))≥(32:Int)))=true then if 0≤(1:Int)∧(1:Int)<(s.size:Int) then (lb n (decide ((bt s (1:Int))≤(126:Int)))).bind fun x_9=>onX x_9 (fun p12=>kp p12) (fun v18=>if 0≤(1:Int)∧(1:Int)<(s.size:Int) then (jb n (bt s (1:Int))).bind fun v19=>(Ca n n s (IntKind.wrap .i64 ((1:Int)+(1:Int))) v19.1).bind fun x_10=>onL x_10 (fun _=>none) (fun a_11=>k (a_11.1,(a_11.2,()))) (fun p13=>kp p13) else none) else none else (lb n false).bind fun x_12=>onX x_12 (fun p14=>kp p14) (fun v20=>if 0≤(1:Int)∧(1:Int)<(s.size:Int) then (jb n (bt s (1:Int))).bind fun v21=>
 (Ca n n s (IntKind.wrap .i64 ((1:Int)+(1:Int))) v21.1).bind fun x_13=>onL x_13 (fun _=>none) (fun a_14=>k (a_14.1,(a_14.2,()))) (fun p15=>kp p15) else none) else none else none else none)
def Tc (n:Nat) (s:BA):Option (Except Int (BA×BA×Unit)):=Id n s (fun y=>some (.ok y)) (fun p=>some (.error p))
theorem vT (n:Nat) {S:Type}:∀ s (φ:_→Option S),(Tc n s).bind φ=Id n s (fun y=>φ (.ok y)) (fun p=>φ (.error p)):=by
  intros;unfold Tc Id;first | (simp only [ja,fa,iB,bB,oL,oX,nB,Option.bind_some]) | rfl
def ah (n:Nat):Hint Out:={ live:=fun c=>(cond (Nat.beq c 0) (lv [0,4,5]) []),run:=fun c=>(cond (Nat.beq c 0) (some (ef bp ap fun σ ρ K=>(Ca n n σ.1 σ.2.1 ρ.2.1).bind (Jd K))) none),xm:=fun c q=>(cond (Nat.beq c 1&&q.isNone) (some [(2,none),(3,none)]) none),sch:=fun c=>(cond (Nat.beq c 6) (some [(1,0),(2,0),(3,0),(4,0),(0,2),(5,0),(6,0)]) none),pl:=fun c=>Nat.beq c 0 }
def Vk (n:Nat) (K:XE→List AV→oa→Option Out) (m:Nat) (s1:BA) (i:Int) (r1:(Sq Int)):Option Out:=Kb tys (ia Out (Dd n)) (ah n) n (ra [1,1,1,0,0] (ba Tryz.f191)) 0 bp ap K m (s1,(i,())) ((),(r1,()))
theorem oF (n:Nat) (K:XE→List AV→oa→Option Out):∀ (m:Nat) s1 i r1,Vk n K m s1 i r1=(Ca n m s1 i r1).bind (Jd K)
  | 0,_,_,_=>by kernel_rfl
  | m+1,s1,i,r1=>by
    have h1:Vk n K (m+1) s1 i r1=qb n s1 i r1 (Vk n K m) (fun a=>Jd K (.out a)) (fun a=>Jd K (.ret a)) (fun p=>Jd K (.pan p)):=by kernel_rfl
    have h2:Vk n K m=fun s1 i r1=>(Ca n m s1 i r1).bind (Jd K):=by
      repeat (refine funext fun _=>?_)
      exact oF n K m _ _ _
    rw [h1,h2];exact (nX n m _ _ _ (Jd K)).symm
theorem uT (n:Nat):ub tys (ia Out (Dd n)) (ah n) n (ra [1,1,1,0,0] (ba Tryz.f191)) 0:=Aa (sp:=bp) (rp:=ap) (by kernel_rfl) fun K σ ρ=>oF n K n σ.1 σ.2.1 ρ.2.1
theorem pF (n:Nat):qa tys (ia Out (Dd n)) (ah n) n (ba Tryz.f191) 0:=⟨aa,⟨aa,⟨aa,⟨uT n,⟨⟨aa,⟨⟨aa,⟨⟨aa,aa⟩,aa⟩⟩,⟨⟨aa,⟨⟨aa,aa⟩,aa⟩⟩,⟨aa,aa⟩⟩⟩⟩,aa⟩⟩⟩⟩⟩
theorem N0 (n:Nat):Enters Tryz.prog 191:=enters_of (c:=ba Tryz.f191) Tryz.func191 (by kernel_rfl) (by kernel_rfl)
def DP (n:Nat):Entry:=⟨191,pcX 174 (.pair .str .unit) (.many (.pair .str (.pair .str .unit))) (fun xs=>Tc n xs.1),none,none⟩
theorem H6 (n:Nat):EntryOk Tryz.prog gl (DP n):=wK (N0 n) (fun xs y h=>ma tys_ok (ig n) mixed (hint:=ah n) (n:=n) Tryz.func191 (ya (pF n)) (la (φ:=(fun r=>onX r (fun p=>some (Out.pan (Pg 174 p))) fun y=>some (Out.ret (Ya (.many (.pair .str (.pair .str .unit))) y)))) (by kernel_rfl) (vT n xs.1 _) h)) (fun xs p h=>ma tys_ok (ig n) mixed (hint:=ah n) (n:=n) Tryz.func191 (ya (pF n)) (la (φ:=(fun r=>onX r (fun p=>some (Out.pan (Pg 174 p))) fun y=>some (Out.ret (Ya (.many (.pair .str (.pair .str .unit))) y)))) (by kernel_rfl) (vT n xs.1 _) h))
def fA (n:Nat):List Entry:=DP n::Dd n
theorem gA (n:Nat):AllOk Tryz.prog gl (fA n):=.cons (H6 n) (ig n)
def Cl (n:Nat) {R:Type} (s:BA) (c:Int) (k:Int→Option R):Option R:=(Nf n s c).bind fun v=>k v
def se (n:Nat) (s:BA) (c:Int):Option Int:=Cl n s c some
theorem OY (n:Nat) {S:Type}:∀ s c (φ:_→Option S),(se n s c).bind φ=Cl n s c φ:=by
  intros;unfold se Cl;first | (simp only [ja,fa,iB,bB,oL,oX,nB,Option.bind_some]) | rfl
def lw (n:Nat):Hint Out:={ live:=fun c=>[],run:=fun c=>none,xm:=fun c q=>none }
theorem OO (n:Nat):qa tys (ia Out (fA n)) (lw n) n (ba Tryz.f193) 0:=na (fun _=>rfl) _ _ (by kernel_rfl)
theorem UR (n:Nat):Enters Tryz.prog 193:=enters_of (c:=ba Tryz.f193) Tryz.func193 (by kernel_rfl) (by kernel_rfl)
def JC (n:Nat):Entry:=⟨193,pcT (.pair .str (.pair (.int .u8) .unit)) (.one (.int .i64)) (fun xs=>se n xs.1 xs.2.1),none,none⟩
theorem oW (n:Nat):EntryOk Tryz.prog gl (JC n):=wa (UR n) fun xs y h=>ma tys_ok (gA n) mixed (hint:=lw n) (n:=n) Tryz.func193 (ya (OO n)) (la (φ:=(fun y=>some (Out.ret (Ya (.one (.int .i64)) y)))) (by kernel_rfl) (OY n xs.1 xs.2.1 _) h)
def nq (n:Nat):List Entry:=JC n::fA n
theorem Rs (n:Nat):AllOk Tryz.prog gl (nq n):=.cons (oW n) (gA n)
def pJ (n:Nat) {R:Type} (c:Int) (k:Bool→Option R):Option R:=(HG n c).bind fun v=>if v=false then if (decide (c≥(65:Int)))=true then if (decide (c≤(90:Int)))=false then (se n (⟨#[33,35,36,37,38,39,42,43,45,47,61,63,94,95,96,123,124,125,126]⟩:BA) c).bind fun v1=>k (decide (v1≥(0:Int))) else k true else (se n (⟨#[33,35,36,37,38,39,42,43,45,47,61,63,94,95,96,123,124,125,126]⟩:BA) c).bind fun v2=>k (decide (v2≥(0:Int))) else k true
def CG (n:Nat) (c:Int):Option Bool:=pJ n c some
theorem Ygb (n:Nat) {S:Type}:∀ c (φ:_→Option S),(CG n c).bind φ=pJ n c φ:=by
  intros;unfold CG pJ;first | (simp only [ja,fa,iB,bB,oL,oX,nB,Option.bind_some]) | rfl
def BP (n:Nat):Hint Out:={ live:=fun c=>[],run:=fun c=>none,xm:=fun c q=>none }
theorem A6 (n:Nat):qa tys (ia Out (nq n)) (BP n) n (ba Tryz.f204) 0:=na (fun _=>rfl) _ _ (by kernel_rfl)
theorem Vab (n:Nat):Enters Tryz.prog 204:=enters_of (c:=ba Tryz.f204) Tryz.func204 (by kernel_rfl) (by kernel_rfl)
def ZY (n:Nat):Entry:=⟨204,pcT (.pair (.int .u8) .unit) (.one .bool) (fun xs=>CG n xs.1),none,none⟩
theorem Ueb (n:Nat):EntryOk Tryz.prog gl (ZY n):=wa (Vab n) fun xs y h=>ma tys_ok (Rs n) mixed (hint:=BP n) (n:=n) Tryz.func204 (ya (A6 n)) (la (φ:=(fun y=>some (Out.ret (Ya (.one .bool) y)))) (by kernel_rfl) (Ygb n xs.1 _) h)
def Zu (n:Nat):List Entry:=ZY n::nq n
theorem qJ (n:Nat):AllOk Tryz.prog gl (Zu n):=.cons (Ueb n) (Rs n)
def Tj (n:Nat) {R:Type} (s1:BA) (word t6 t7:Int) (kn:BA→Int→Int→Int→Option R) (ko:(Int)→Option R) (kr:(Bool)→Option R) (kp:Int→Option R):Option R:=if (decide (t7<t6))=true then if 0≤t7∧t7<(s1.size:Int) then if ((bt s1 t7)==(46:Int))=true then if (word==(0:Int))=false then if 0≤t7∧t7<(s1.size:Int) then if ((bt s1 t7) !=(46:Int))=true then if 0≤t7∧t7<(s1.size:Int) then (CG n (bt s1 t7)).bind fun v=>if (!v)=true then kr false else if 0≤t7∧t7<(s1.size:Int) then if ((bt s1 t7)==(46:Int))=true then kn s1 (0:Int) t6 (IntKind.wrap .i64 (t7+(1:Int))) else kn s1 (IntKind.wrap .i64 (word+(1:Int))) t6 (IntKind.wrap .i64 (t7+(1:Int))) else none else none else if 0≤t7∧t7<(s1.size:Int) then if ((bt s1 t7)==(46:Int))=true then kn s1 (0:Int) t6 (IntKind.wrap .i64 (t7+(1:Int))) else kn s1 (IntKind.wrap .i64 (word+(1:Int))) t6 (IntKind.wrap .i64 (t7+(1:Int))) else none else none else kr false else if 0≤t7∧t7<(s1.size:Int) then if ((bt s1 t7) !=(46:Int))=true then if 0≤t7∧t7<(s1.size:Int) then (CG n (bt s1 t7)).bind fun v1=>if (!v1)=true then kr false else if 0≤t7∧t7<(s1.size:Int) then if ((bt s1 t7)==(46:Int))=true then kn s1 (0:Int) t6 (IntKind.wrap .i64 (t7+(1:Int))) else kn s1 (IntKind.wrap .i64 (word+(1:Int))) t6 (IntKind.wrap .i64 (t7+(1:Int))) else none else none
 else if 0≤t7∧t7<(s1.size:Int) then if ((bt s1 t7)==(46:Int))=true then kn s1 (0:Int) t6 (IntKind.wrap .i64 (t7+(1:Int))) else kn s1 (IntKind.wrap .i64 (word+(1:Int))) t6 (IntKind.wrap .i64 (t7+(1:Int))) else none else none else none else ko word
def Sc (n:Nat):Nat→BA→Int→Int→Int→Option (Lx (Int) (Bool))
 | 0,_,_,_,_=>none
 | m+1,s1,word,t6,t7=>Tj n s1 word t6 t7 (Sc n m) (fun a=>some (.out a)) (fun a=>some (.ret a)) (fun p=>some (.pan p))
theorem H0 (n m:Nat) {S:Type}:∀ s1 word t6 t7 (φ:_→Option S),(Sc n (m+1) s1 word t6 t7).bind φ=Tj n s1 word t6 t7 (fun s1 word t6 t7=>(Sc n m s1 word t6 t7).bind φ) (fun a=>φ (.out a)) (fun a=>φ (.ret a)) (fun p=>φ (.pan p)):=by
  intros;first | (simp only [Sc,Tj,ja,fa,iB,bB,oL,oX,nB,Option.bind_some]) | rfl
def zt:List Sl:=.dat .str::.top::.top::.dat (.int .i64)::.top::.top::.dat (.int .i64)::.dat (.int .i64)::tp 32 []
def wt:List RS:=[]
def DJ:List Sl:=.top::.top::.top::.dat (.int .i64)::tp 36 []
def CJ:List RS:=[]
def FJ:List Sl:=.top::.top::.dat .bool::tp 37 []
def EJ:List RS:=[]
def ve (K:XE→List AV→oa→Option Out):Lx (Int) (Bool)→Option Out:=fun x=>onL x (fun a=>yb DJ CJ (a,()) () (K (.exit 0))) (fun a=>yb FJ EJ (a,()) () (K .ret)) (fun _=>none)
def nD (n:Nat) {R:Type} (s:BA) (k:Bool→Option R):Option R:=(Sc n n s (0:Int) (s.size:Int) (0:Int)).bind fun x_1=>onL x_1 (fun a_2=>k (decide (a_2>(0:Int)))) (fun a_3=>k a_3) (fun _=>none)
def Tq (n:Nat) (s:BA):Option Bool:=nD n s some
theorem Xeb (n:Nat) {S:Type}:∀ s (φ:_→Option S),(Tq n s).bind φ=nD n s φ:=by
  intros;unfold Tq nD;first | (simp only [ja,fa,iB,bB,oL,oX,nB,Option.bind_some]) | rfl
def yn (n:Nat):Hint Out:={ live:=fun c=>(cond (Nat.beq c 0) (lv [0,3,6,7]) []),run:=fun c=>(cond (Nat.beq c 0) (some (ef zt wt fun σ ρ K=>(Sc n n σ.1 σ.2.1 σ.2.2.1 σ.2.2.2.1).bind (ve K))) none),xm:=fun c q=>(cond (Nat.beq c 0&&Nat.beq (q.getD 1000000) 0&&q.isSome) (some [(3,none)]) (cond (Nat.beq c 1&&q.isNone) (some [(2,none)]) none)) }
def xn (n:Nat) (K:XE→List AV→oa→Option Out) (m:Nat) (s1:BA) (word:Int) (t6:Int) (t7:Int):Option Out:=Kb tys (ia Out (Zu n)) (yn n) n (ra [1,1,0,1,0,0] (ba Tryz.f194)) 0 zt wt K m (s1,(word,(t6,(t7,())))) ()
theorem BJ (n:Nat) (K:XE→List AV→oa→Option Out):∀ (m:Nat) s1 word t6 t7,xn n K m s1 word t6 t7=(Sc n m s1 word t6 t7).bind (ve K)
  | 0,_,_,_,_=>by kernel_rfl
  | m+1,s1,word,t6,t7=>by
    have h1:xn n K (m+1) s1 word t6 t7=Tj n s1 word t6 t7 (xn n K m) (fun a=>ve K (.out a)) (fun a=>ve K (.ret a)) (fun p=>ve K (.pan p)):=by kernel_rfl
    have h2:xn n K m=fun s1 word t6 t7=>(Sc n m s1 word t6 t7).bind (ve K):=by
      repeat (refine funext fun _=>?_)
      exact BJ n K m _ _ _ _
    rw [h1,h2];exact (H0 n m _ _ _ _ (ve K)).symm
theorem lX (n:Nat):ub tys (ia Out (Zu n)) (yn n) n (ra [1,1,0,1,0,0] (ba Tryz.f194)) 0:=Aa (sp:=zt) (rp:=wt) (by kernel_rfl) fun K σ ρ=>BJ n K n σ.1 σ.2.1 σ.2.2.1 σ.2.2.2.1
theorem J0 (n:Nat):qa tys (ia Out (Zu n)) (yn n) n (ba Tryz.f194) 0:=⟨aa,⟨aa,⟨⟨aa,⟨lX n,⟨aa,⟨⟨aa,aa⟩,⟨⟨aa,⟨⟨aa,⟨⟨aa,aa⟩,aa⟩⟩,⟨aa,⟨aa,⟨aa,aa⟩⟩⟩⟩⟩,aa⟩⟩⟩⟩⟩,⟨aa,aa⟩⟩⟩⟩
theorem F6 (n:Nat):Enters Tryz.prog 194:=enters_of (c:=ba Tryz.f194) Tryz.func194 (by kernel_rfl) (by kernel_rfl)
def sT (n:Nat):Entry:=⟨194,pcT (.pair .str .unit) (.one .bool) (fun xs=>Tq n xs.1),none,none⟩
theorem Yab (n:Nat):EntryOk Tryz.prog gl (sT n):=wa (F6 n) fun xs y h=>ma tys_ok (qJ n) mixed (hint:=yn n) (n:=n) Tryz.func194 (ya (J0 n)) (la (φ:=(fun y=>some (Out.ret (Ya (.one .bool) y)))) (by kernel_rfl) (Xeb n xs.1 _) h)
def Zo (n:Nat):List Entry:=sT n::Zu n
theorem nF (n:Nat):AllOk Tryz.prog gl (Zo n):=.cons (Yab n) (qJ n)
def Gf (n:Nat) {R:Type} (s1:BA) (t10 t11:Int) (r1:(Sq Int)) (kn:BA→Int→Int→(Sq Int)→Option R) (ko:((Sq Int))→Option R) (kr:Unit→Option R) (kp:Int→Option R):Option R:=if (decide (t11<t10))=true then if 0≤t11∧t11<(s1.size:Int) then if ((bt s1 t11)==(34:Int))=false then if 0≤t11∧t11<(s1.size:Int) then if ((bt s1 t11)==(92:Int))=true then (Ia n (92:Int) r1).bind fun v2=>if 0≤t11∧t11<(s1.size:Int) then (Ia n (bt s1 t11) v2.1).bind fun v3=>kn s1 t10 (IntKind.wrap .i64 (t11+(1:Int))) v3.1 else none else if 0≤t11∧t11<(s1.size:Int) then (Ia n (bt s1 t11) r1).bind fun v4=>kn s1 t10 (IntKind.wrap .i64 (t11+(1:Int))) v4.1 else none else none else (Ia n (92:Int) r1).bind fun v5=>if 0≤t11∧t11<(s1.size:Int) then (Ia n (bt s1 t11) v5.1).bind fun v6=>kn s1 t10 (IntKind.wrap .i64 (t11+(1:Int))) v6.1 else none else none else ko r1
def Sb (n:Nat):Nat→BA→Int→Int→(Sq Int)→Option (Lx ((Sq Int)) Unit)
 | 0,_,_,_,_=>none
 | m+1,s1,t10,t11,r1=>Gf n s1 t10 t11 r1 (Sb n m) (fun a=>some (.out a)) (fun a=>some (.ret a)) (fun p=>some (.pan p))
theorem L0 (n m:Nat) {S:Type}:∀ s1 t10 t11 r1 (φ:_→Option S),(Sb n (m+1) s1 t10 t11 r1).bind φ=Gf n s1 t10 t11 r1 (fun s1 t10 t11 r1=>(Sb n m s1 t10 t11 r1).bind φ) (fun a=>φ (.out a)) (fun a=>φ (.ret a)) (fun p=>φ (.pan p)):=by
  intros;first | (simp only [Sb,Gf,ja,fa,iB,bB,oL,oX,nB,Option.bind_some]) | rfl
def Bt:List Sl:=.dat .str::.top::.top::.ptr 0 0 0::tp 6 (.dat (.int .i64)::.dat (.int .i64)::tp 20 [])
def At:List RS:=[.box 108 2 false [.ptr 0 0 0,.row 1],.row 5 1 (.int .u8) true false]
def IJ:List Sl:=.top::.top::.top::.ptr 0 0 0::tp 28 []
def HJ:List RS:=[.box 108 2 false [.ptr 0 0 0,.row 1],.row 5 1 (.int .u8) true false]
def we (K:XE→List AV→oa→Option Out):Lx ((Sq Int)) Unit→Option Out:=fun x=>onL x (fun a=>yb IJ HJ () ((),(a,())) (K (.exit 0))) (fun _=>none) (fun _=>none)
def pD (n:Nat) {R:Type} (s:BA) (k:BA→Option R):Option R:=(Tq n s).bind fun v=>if v=true then k s else (jb n (34:Int)).bind fun v1=>(Sb n n s (s.size:Int) (0:Int) v1.1).bind fun x_1=>onL x_1 (fun a_2=>(Kc n a_2).bind fun v7=>if Sa v7.1 (⟨#[34]⟩:BA)=true then k (v7.1++(⟨#[34]⟩:BA)) else none) (fun _=>none) (fun _=>none)
def oD (n:Nat) (s:BA):Option BA:=pD n s some
theorem Yeb (n:Nat) {S:Type}:∀ s (φ:_→Option S),(oD n s).bind φ=pD n s φ:=by
  intros;unfold oD pD;first | (simp only [ja,fa,iB,bB,oL,oX,nB,Option.bind_some]) | rfl
def An (n:Nat):Hint Out:={ live:=fun c=>(cond (Nat.beq c 0) (lv [0,3,10,11]) []),run:=fun c=>(cond (Nat.beq c 0) (some (ef Bt At fun σ ρ K=>(Sb n n σ.1 σ.2.1 σ.2.2.1 ρ.2.1).bind (we K))) none),xm:=fun c q=>(cond (Nat.beq c 0&&Nat.beq (q.getD 1000000) 0&&q.isSome) (some [(3,none)]) none) }
def zn (n:Nat) (K:XE→List AV→oa→Option Out) (m:Nat) (s1:BA) (t10:Int) (t11:Int) (r1:(Sq Int)):Option Out:=Kb tys (ia Out (Zo n)) (An n) n (ra [1,1,1,1,0,1,0,0] (ba Tryz.f192)) 0 Bt At K m (s1,(t10,(t11,()))) ((),(r1,()))
theorem GJ (n:Nat) (K:XE→List AV→oa→Option Out):∀ (m:Nat) s1 t10 t11 r1,zn n K m s1 t10 t11 r1=(Sb n m s1 t10 t11 r1).bind (we K)
  | 0,_,_,_,_=>by kernel_rfl
  | m+1,s1,t10,t11,r1=>by
    have h1:zn n K (m+1) s1 t10 t11 r1=Gf n s1 t10 t11 r1 (zn n K m) (fun a=>we K (.out a)) (fun a=>we K (.ret a)) (fun p=>we K (.pan p)):=by kernel_rfl
    have h2:zn n K m=fun s1 t10 t11 r1=>(Sb n m s1 t10 t11 r1).bind (we K):=by
      repeat (refine funext fun _=>?_)
      exact GJ n K m _ _ _ _
    rw [h1,h2];exact (L0 n m _ _ _ _ (we K)).symm
theorem mX (n:Nat):ub tys (ia Out (Zo n)) (An n) n (ra [1,1,1,1,0,1,0,0] (ba Tryz.f192)) 0:=Aa (sp:=Bt) (rp:=At) (by kernel_rfl) fun K σ ρ=>GJ n K n σ.1 σ.2.1 σ.2.2.1 ρ.2.1
theorem M0 (n:Nat):qa tys (ia Out (Zo n)) (An n) n (ba Tryz.f192) 0:=⟨aa,⟨⟨aa,⟨⟨aa,aa⟩,aa⟩⟩,⟨aa,⟨aa,⟨⟨aa,⟨mX n,⟨aa,⟨⟨aa,aa⟩,⟨⟨aa,⟨⟨aa,⟨aa,aa⟩⟩,aa⟩⟩,aa⟩⟩⟩⟩⟩,⟨aa,aa⟩⟩⟩⟩⟩⟩
theorem G6 (n:Nat):Enters Tryz.prog 192:=enters_of (c:=ba Tryz.f192) Tryz.func192 (by kernel_rfl) (by kernel_rfl)
def tT (n:Nat):Entry:=⟨192,pcT (.pair .str .unit) (.one .str) (fun xs=>oD n xs.1),none,none⟩
theorem Zab (n:Nat):EntryOk Tryz.prog gl (tT n):=wa (G6 n) fun xs y h=>ma tys_ok (nF n) mixed (hint:=An n) (n:=n) Tryz.func192 (ya (M0 n)) (la (φ:=(fun y=>some (Out.ret (Ya (.one .str) y)))) (by kernel_rfl) (Yeb n xs.1 _) h)
def DG (n:Nat):List Entry:=tT n::Zo n
theorem Ct (n:Nat):AllOk Tryz.prog gl (DG n):=.cons (Zab n) (nF n)
def ii (n:Nat) {R:Type} (s:BA) (k:(BA×BA×Unit)→Option R) (kp:Int→Option R):Option R:=(Lb n s (⟨#[34]⟩:BA)).bind fun v=>if v=true then (Tc n s).bind fun x_1=>onX x_1 (fun p=>kp p) (fun v1=>(oD n v1.1).bind fun v2=>k (v2,(v1.2.1,()))) else (se n s (64:Int)).bind fun v3=>if (decide (v3≥(0:Int)))=true then if 0≤v3∧v3≤(s.size:Int) then (Tq n (s.extract (Int.toNat (0:Int)) (Int.toNat v3))).bind fun v4=>(lb n v4).bind fun x_2=>onX x_2 (fun p1=>kp p1) (fun v5=>if 0≤v3∧v3≤(s.size:Int) then if 0≤v3∧v3≤(s.size:Int) then k ((s.extract (Int.toNat (0:Int)) (Int.toNat v3)),((s.extract (Int.toNat v3) (Int.toNat (s.size:Int))),())) else none else none) else none else (lb n false).bind fun x_3=>onX x_3 (fun p2=>kp p2) (fun v6=>if 0≤v3∧v3≤(s.size:Int) then if 0≤v3∧v3≤(s.size:Int) then k ((s.extract (Int.toNat (0:Int)) (Int.toNat v3)),((s.extract (Int.toNat v3) (Int.toNat (s.size:Int))),())) else none else none)
def vi (n:Nat) (s:BA):Option (Except Int (BA×BA×Unit)):=ii n s (fun y=>some (.ok y)) (fun p=>some (.error p))
theorem aZ (n:Nat) {S:Type}:∀ s (φ:_→Option S),(vi n s).bind φ=ii n s (fun y=>φ (.ok y)) (fun p=>φ (.error p)):=by
  intros;unfold vi ii;first | (simp only [ja,fa,iB,bB,oL,oX,nB,Option.bind_some]) | rfl
def Ow (n:Nat):Hint Out:={ live:=fun c=>[],run:=fun c=>none,xm:=fun c q=>none }
theorem yJ (n:Nat):qa tys (ia Out (DG n)) (Ow n) n (ba Tryz.f169) 0:=na (fun _=>rfl) _ _ (by kernel_rfl)
theorem D6 (n:Nat):Enters Tryz.prog 169:=enters_of (c:=ba Tryz.f169) Tryz.func169 (by kernel_rfl) (by kernel_rfl)
def rT (n:Nat):Entry:=⟨169,pcX 174 (.pair .str .unit) (.many (.pair .str (.pair .str .unit))) (fun xs=>vi n xs.1),none,none⟩
theorem Wab (n:Nat):EntryOk Tryz.prog gl (rT n):=wK (D6 n) (fun xs y h=>ma tys_ok (Ct n) mixed (hint:=Ow n) (n:=n) Tryz.func169 (ya (yJ n)) (la (φ:=(fun r=>onX r (fun p=>some (Out.pan (Pg 174 p))) fun y=>some (Out.ret (Ya (.many (.pair .str (.pair .str .unit))) y)))) (by kernel_rfl) (aZ n xs.1 _) h)) (fun xs p h=>ma tys_ok (Ct n) mixed (hint:=Ow n) (n:=n) Tryz.func169 (ya (yJ n)) (la (φ:=(fun r=>onX r (fun p=>some (Out.pan (Pg 174 p))) fun y=>some (Out.ret (Ya (.many (.pair .str (.pair .str .unit))) y)))) (by kernel_rfl) (aZ n xs.1 _) h))
def Yo (n:Nat):List Entry:=rT n::DG n
theorem mF (n:Nat):AllOk Tryz.prog gl (Yo n):=.cons (Wab n) (Ct n)
def Hf (n:Nat) {R:Type} (t9 t10:Int) (b:(Sq Int)) (kn:Int→Int→(Sq Int)→Option R) (ko:((Sq Int))→Option R) (kr:Unit→Option R) (kp:Int→Option R):Option R:=if (decide (t10<t9))=true then if 0≤t10∧t10<(b.n:Int) then if (decide ((b.at' (Int.toNat t10))≥(65:Int)))=true then if (decide ((b.at' (Int.toNat t10))≤(90:Int)))=true then if 0≤t10∧t10<(b.n:Int) then kn t9 (IntKind.wrap .i64 (t10+(1:Int))) (⟨b.n,fun q=>if q=(Int.toNat t10)∧q<b.n then (IntKind.wrap .u8 ((IntKind.wrap .u8 ((b.at' (Int.toNat t10))+(97:Int))) - (65:Int))) else b.at' q⟩:Sq Int) else none else kn t9 (IntKind.wrap .i64 (t10+(1:Int))) b else kn t9 (IntKind.wrap .i64 (t10+(1:Int))) b else none else ko b
def Ab (n:Nat):Nat→Int→Int→(Sq Int)→Option (Lx ((Sq Int)) Unit)
 | 0,_,_,_=>none
 | m+1,t9,t10,b=>Hf n t9 t10 b (Ab n m) (fun a=>some (.out a)) (fun a=>some (.ret a)) (fun p=>some (.pan p))
theorem O0 (n m:Nat) {S:Type}:∀ t9 t10 b (φ:_→Option S),(Ab n (m+1) t9 t10 b).bind φ=Hf n t9 t10 b (fun t9 t10 b=>(Ab n m t9 t10 b).bind φ) (fun a=>φ (.out a)) (fun a=>φ (.ret a)) (fun p=>φ (.pan p)):=by
  intros;first | (simp only [Ab,Hf,ja,fa,iB,bB,oL,oX,nB,Option.bind_some]) | rfl
def Et:List Sl:=.top::.top::.top::.row 0::tp 4 (.row 0::.dat (.int .i64)::.dat (.int .i64)::tp 19 [])
def Dt:List RS:=[.row 5 1 (.int .u8) false true]
def OJ:List Sl:=.top::.top::.top::.row 0::tp 26 []
def NJ:List RS:=[.row 5 1 (.int .u8) false true]
def xe (K:XE→List AV→oa→Option Out):Lx ((Sq Int)) Unit→Option Out:=fun x=>onL x (fun a=>yb OJ NJ () (a,()) (K (.exit 0))) (fun _=>none) (fun _=>none)
def qD (n:Nat) {R:Type} (s:BA) (k:BA→Option R):Option R:=(Ab n n (s.size:Int) (0:Int) (⟨s.size,fun q=>bt s q⟩:Sq Int)).bind fun x_1=>onL x_1 (fun a_2=>k (nw a_2.n a_2.at')) (fun _=>none) (fun _=>none)
def Bn (n:Nat) (s:BA):Option BA:=qD n s some
theorem bfb (n:Nat) {S:Type}:∀ s (φ:_→Option S),(Bn n s).bind φ=qD n s φ:=by
  intros;unfold Bn qD;first | (simp only [ja,fa,iB,bB,oL,oX,nB,Option.bind_some]) | rfl
def En (n:Nat):Hint Out:={ live:=fun c=>(cond (Nat.beq c 0) [(3,some (.sl (.int .u8))),(8,some (.sl (.int .u8))),(9,none),(10,none)] []),run:=fun c=>(cond (Nat.beq c 0) (some (ef Et Dt fun σ ρ K=>(Ab n n σ.1 σ.2.1 ρ.1).bind (xe K))) none),xm:=fun c q=>(cond (Nat.beq c 0&&Nat.beq (q.getD 1000000) 0&&q.isSome) (some [(3,some (.sl (.int .u8)))]) none) }
def Dn (n:Nat) (K:XE→List AV→oa→Option Out) (m:Nat) (t9:Int) (t10:Int) (b:(Sq Int)):Option Out:=Kb tys (ia Out (Yo n)) (En n) n (ra [1,1,0,1,0,0] (ba Tryz.f154)) 0 Et Dt K m (t9,(t10,())) (b,())
theorem MJ (n:Nat) (K:XE→List AV→oa→Option Out):∀ (m:Nat) t9 t10 b,Dn n K m t9 t10 b=(Ab n m t9 t10 b).bind (xe K)
  | 0,_,_,_=>by kernel_rfl
  | m+1,t9,t10,b=>by
    have h1:Dn n K (m+1) t9 t10 b=Hf n t9 t10 b (Dn n K m) (fun a=>xe K (.out a)) (fun a=>xe K (.ret a)) (fun p=>xe K (.pan p)):=by kernel_rfl
    have h2:Dn n K m=fun t9 t10 b=>(Ab n m t9 t10 b).bind (xe K):=by
      repeat (refine funext fun _=>?_)
      exact MJ n K m _ _ _
    rw [h1,h2];exact (O0 n m _ _ _ (xe K)).symm
theorem pX (n:Nat):ub tys (ia Out (Yo n)) (En n) n (ra [1,1,0,1,0,0] (ba Tryz.f154)) 0:=Aa (sp:=Et) (rp:=Dt) (by kernel_rfl) fun K σ ρ=>MJ n K n σ.1 σ.2.1 ρ.1
theorem P0 (n:Nat):qa tys (ia Out (Yo n)) (En n) n (ba Tryz.f154) 0:=⟨aa,⟨aa,⟨⟨aa,⟨pX n,⟨aa,⟨⟨aa,aa⟩,⟨⟨aa,⟨aa,⟨aa,aa⟩⟩⟩,aa⟩⟩⟩⟩⟩,⟨aa,aa⟩⟩⟩⟩
theorem L6 (n:Nat):Enters Tryz.prog 154:=enters_of (c:=ba Tryz.f154) Tryz.func154 (by kernel_rfl) (by kernel_rfl)
def wT (n:Nat):Entry:=⟨154,pcT (.pair .str .unit) (.one .str) (fun xs=>Bn n xs.1),none,none⟩
theorem cbb (n:Nat):EntryOk Tryz.prog gl (wT n):=wa (L6 n) fun xs y h=>ma tys_ok (mF n) mixed (hint:=En n) (n:=n) Tryz.func154 (ya (P0 n)) (la (φ:=(fun y=>some (Out.ret (Ya (.one .str) y)))) (by kernel_rfl) (bfb n xs.1 _) h)
def IG (n:Nat):List Entry:=wT n::Yo n
theorem Ft (n:Nat):AllOk Tryz.prog gl (IG n):=.cons (cbb n) (mF n)
def Dl (n:Nat) {R:Type} (s:BA) (k:U0→Option R) (kp:Int→Option R):Option R:=(vi n s).bind fun x_1=>onX x_1 (fun p=>kp p) (fun v=>if (decide ((v.1.size:Int)≤(64:Int)))=true then (Lb n v.2.1 (⟨#[64]⟩:BA)).bind fun v1=>(lb n v1).bind fun x_2=>onX x_2 (fun p1=>kp p1) (fun v2=>if 0≤(1:Int)∧(1:Int)≤(v.2.1.size:Int) then (Bn n (v.2.1.extract (Int.toNat (1:Int)) (Int.toNat (v.2.1.size:Int)))).bind fun v3=>(Pc n v3).bind fun v4=>(lb n v4).bind fun x_3=>onX x_3 (fun p2=>kp p2) (fun v5=>k (v.1,(v3,()))) else none) else (lb n false).bind fun x_4=>onX x_4 (fun p3=>kp p3) (fun v6=>if 0≤(1:Int)∧(1:Int)≤(v.2.1.size:Int) then (Bn n (v.2.1.extract (Int.toNat (1:Int)) (Int.toNat (v.2.1.size:Int)))).bind fun v7=>(Pc n v7).bind fun v8=>(lb n v8).bind fun x_5=>onX x_5 (fun p4=>kp p4) (fun v9=>k (v.1,(v7,()))) else none))
def dp (n:Nat) (s:BA):Option (Except Int U0):=Dl n s (fun y=>some (.ok y)) (fun p=>some (.error p))
theorem I6 (n:Nat) {S:Type}:∀ s (φ:_→Option S),(dp n s).bind φ=Dl n s (fun y=>φ (.ok y)) (fun p=>φ (.error p)):=by
  intros;unfold dp Dl;first | (simp only [ja,fa,iB,bB,oL,oX,nB,Option.bind_some]) | rfl
def iA (n:Nat):Hint Out:={ live:=fun c=>[],run:=fun c=>none,xm:=fun c q=>none }
theorem EP (n:Nat):qa tys (ia Out (IG n)) (iA n) n (ba Tryz.f147) 0:=na (fun _=>rfl) _ _ (by kernel_rfl)
theorem abb (n:Nat):Enters Tryz.prog 147:=enters_of (c:=ba Tryz.f147) Tryz.func147 (by kernel_rfl) (by kernel_rfl)
def cZ (n:Nat):Entry:=⟨147,pcX 174 (.pair .str .unit) (.one (.pair .str (.pair .str .unit))) (fun xs=>dp n xs.1),none,none⟩
theorem Zeb (n:Nat):EntryOk Tryz.prog gl (cZ n):=wK (abb n) (fun xs y h=>ma tys_ok (Ft n) mixed (hint:=iA n) (n:=n) Tryz.func147 (ya (EP n)) (la (φ:=(fun r=>onX r (fun p=>some (Out.pan (Pg 174 p))) fun y=>some (Out.ret (Ya (.one (.pair .str (.pair .str .unit))) y)))) (by kernel_rfl) (I6 n xs.1 _) h)) (fun xs p h=>ma tys_ok (Ft n) mixed (hint:=iA n) (n:=n) Tryz.func147 (ya (EP n)) (la (φ:=(fun r=>onX r (fun p=>some (Out.pan (Pg 174 p))) fun y=>some (Out.ret (Ya (.one (.pair .str (.pair .str .unit))) y)))) (by kernel_rfl) (I6 n xs.1 _) h))
def Oo (n:Nat):List Entry:=cZ n::IG n
theorem JJ (n:Nat):AllOk Tryz.prog gl (Oo n):=.cons (Zeb n) (Ft n)
def No (n:Nat) {R:Type} (s:BA) (k:(U0×Int×Unit)→Option R):Option R:=(dp n s).bind fun x_1=>onX x_1 (fun p=>k (((⟨#[]⟩:BA),((⟨#[]⟩:BA),())),(p,()))) (fun v=>k ((v.1,(v.2.1,())),((0:Int),())))
def tn (n:Nat) (s:BA):Option (U0×Int×Unit):=No n s some
theorem Seb (n:Nat) {S:Type}:∀ s (φ:_→Option S),(tn n s).bind φ=No n s φ:=by
  intros;unfold tn No;first | (simp only [ja,fa,iB,bB,oL,oX,nB,Option.bind_some]) | rfl
def un (n:Nat):Hint Out:={ live:=fun c=>[],run:=fun c=>none,xm:=fun c q=>none,pm:=some [(2,none),(3,none)] }
theorem D0 (n:Nat):qa tys (ia Out (Oo n)) (un n) n (ra [0] (ba Tryz.f123)) 0∧qa tys (ia Out (Oo n)) (un n) n (ra [1,1] (ba Tryz.f123)) 0:=⟨aa,⟨aa,aa⟩⟩
theorem x6 (n:Nat):Enters Tryz.prog 123:=enters_of (c:=ba Tryz.f123) Tryz.func123 (by kernel_rfl) (by kernel_rfl)
theorem zP:Tryz.prog.funcs[146]?=some Tryz.f146:=by kernel_rfl
theorem C0:Enters Tryz.prog 146:=enters_of (c:=ba Tryz.f146) zP (by kernel_rfl) (by kernel_rfl)
theorem gX (n:Nat):qa tys (ia Out (Oo n)) J2 n (ra [1] (ba Tryz.f146)) 0:=⟨⟨aa,⟨aa,aa⟩⟩,⟨aa,⟨⟨aa,⟨aa,aa⟩⟩,aa⟩⟩⟩
theorem Reb (n:Nat) (s:BA):fnD tys (ia Out (Oo n)) (un n) n 146 Tryz.f146 Tryz.f123 (wfb (.pair .str .unit) (s,())) (Rcb fun v=>some (.ret v))=No n s (fun y=>some (.ret (Ya (.many (.pair (.pair .str (.pair .str .unit)) (.pair (.int .i64) .unit))) y))):=by kernel_rfl
def lT (n:Nat):Entry:=⟨123,pcT (.pair .str .unit) (.many (.pair (.pair .str (.pair .str .unit)) (.pair (.int .i64) .unit))) (fun xs=>tn n xs.1),none,none⟩
theorem Sab (n:Nat):EntryOk Tryz.prog gl (lT n):=wa (x6 n) fun xs y h=>eZ tys_ok (JJ n) mixed (hint:=un n) (n:=n) (fn:=Tryz.f123) (f2:=Tryz.f146) Tryz.func123 zP C0 (oob (D0 n)) (Ilb (gX n)) (la (φ:=(fun y=>some (Out.ret (Ya (.many (.pair (.pair .str (.pair .str .unit)) (.pair (.int .i64) .unit))) y)))) (Reb n xs.1) (Seb n xs.1 _) h)
def AG (n:Nat):List Entry:=lT n::Oo n
theorem lF (n:Nat):AllOk Tryz.prog gl (AG n):=.cons (Sab n) (JJ n)
def zS (n:Nat) {R:Type} (m0:U0) (k:Bool→Option R):Option R:=(XY n (m0.1,(m0.2.1,()))).bind fun v=>(tn n v).bind fun v1=>if (v1.2.1==(0:Int))=true then k ((v1.1.1.toList==m0.1.toList)&&((v1.1.2.1.toList==m0.2.1.toList)&&true)) else k false
def bA (n:Nat) (m0:U0):Option Bool:=zS n m0 some
theorem Njb (n:Nat) {S:Type}:∀ m0 (φ:_→Option S),(bA n m0).bind φ=zS n m0 φ:=by
  intros;unfold bA zS;first | (simp only [ja,fa,iB,bB,oL,oX,nB,Option.bind_some]) | rfl
def kT (n:Nat):Hint Out:={ live:=fun c=>[],run:=fun c=>none,xm:=fun c q=>none }
theorem Rab (n:Nat):qa tys (ia Out (AG n)) (kT n) n (ba Tryz.f91) 0:=na (fun _=>rfl) _ _ (by kernel_rfl)
theorem Qeb (n:Nat):Enters Tryz.prog 91:=enters_of (c:=ba Tryz.f91) Tryz.func91 (by kernel_rfl) (by kernel_rfl)
def w6 (n:Nat):Entry:=⟨91,pcT (.pair (.pair .str (.pair .str .unit)) .unit) (.one .bool) (fun xs=>bA n xs.1),none,none⟩
theorem Wgb (n:Nat):EntryOk Tryz.prog gl (w6 n):=wa (Qeb n) fun xs y h=>ma tys_ok (lF n) mixed (hint:=kT n) (n:=n) Tryz.func91 (ya (Rab n)) (la (φ:=(fun y=>some (Out.ret (Ya (.one .bool) y)))) (by kernel_rfl) (Njb n xs.1 _) h)
def cA (n:Nat):List Entry:=w6 n::AG n
theorem yP (n:Nat):AllOk Tryz.prog gl (cA n):=.cons (Wgb n) (lF n)
def fW (n:Nat) {R:Type} (s1:(Sq U0)) (t7 t8:Int) (v1 v2:BA) (kn:(Sq U0)→Int→Int→BA→BA→Option R) (ko:(Unit)→Option R) (kr:(Int)→Option R) (kp:Int→Option R):Option R:=if (decide (t8<t7))=true then if 0≤t8∧t8<(s1.n:Int) then if ((v1.toList==(((s1.at' (Int.toNat t8))).1).toList)&&((v2.toList==((((s1.at' (Int.toNat t8))).2).1).toList)&&true))=true then kr t8 else kn s1 t7 (IntKind.wrap .i64 (t8+(1:Int))) v1 v2 else none else ko ()
def cz (n:Nat):Nat→(Sq U0)→Int→Int→BA→BA→Option (Lx (Unit) (Int))
 | 0,_,_,_,_,_=>none
 | m+1,s1,t7,t8,v1,v2=>fW n s1 t7 t8 v1 v2 (cz n m) (fun a=>some (.out a)) (fun a=>some (.ret a)) (fun p=>some (.pan p))
theorem Nkb (n m:Nat) {S:Type}:∀ s1 t7 t8 v1 v2 (φ:_→Option S),(cz n (m+1) s1 t7 t8 v1 v2).bind φ=fW n s1 t7 t8 v1 v2 (fun s1 t7 t8 v1 v2=>(cz n m s1 t7 t8 v1 v2).bind φ) (fun a=>φ (.out a)) (fun a=>φ (.ret a)) (fun p=>φ (.pan p)):=by
  intros;first | (simp only [cz,fW,ja,fa,iB,bB,oL,oX,nB,Option.bind_some]) | rfl
def iW:List Sl:=.dat (.sl (.pair .str (.pair .str .unit)))::.top::.top::.ptr 0 0 0::.top::.top::.top::.dat (.int .i64)::.dat (.int .i64)::tp 10 []
def gW:List RS:=[.box 25 2 true [.dat .str,.dat .str]]
def w5:List Sl:=tp 19 []
def u5:List RS:=[]
def y5:List Sl:=tp 4 (.dat (.int .i64)::tp 14 [])
def x5:List RS:=[]
def cy (K:XE→List AV→oa→Option Out):Lx (Unit) (Int)→Option Out:=fun x=>onL x (fun a=>yb w5 u5 () () (K (.exit 0))) (fun a=>yb y5 x5 (a,()) () (K .ret)) (fun _=>none)
def Mkb (n:Nat) {R:Type} (s:(Sq U0)) (v:U0) (k:Int→Option R):Option R:=(cz n n s (s.n:Int) (0:Int) v.1 v.2.1).bind fun x_1=>onL x_1 (fun a_2=>k (-1:Int)) (fun a_3=>k a_3) (fun _=>none)
def sIx (n:Nat) (s:(Sq U0)) (v:U0):Option Int:=Mkb n s v some
theorem spb (n:Nat) {S:Type}:∀ s v (φ:_→Option S),(sIx n s v).bind φ=Mkb n s v φ:=by
  intros;unfold sIx Mkb;first | (simp only [ja,fa,iB,bB,oL,oX,nB,Option.bind_some]) | rfl
def YS (n:Nat):Hint Out:={ live:=fun c=>(cond (Nat.beq c 0) [(0,some (.sl (.pair .str (.pair .str .unit)))),(3,none),(7,none),(8,none)] []),run:=fun c=>(cond (Nat.beq c 0) (some (ef iW gW fun σ ρ K=>(cz n n σ.1 σ.2.1 σ.2.2.1 ρ.1.1 ρ.1.2.1).bind (cy K))) none),xm:=fun c q=>(cond (Nat.beq c 0&&Nat.beq (q.getD 1000000) 0&&q.isSome) (some []) (cond (Nat.beq c 1&&q.isNone) (some [(4,none)]) none)) }
def XS (n:Nat) (K:XE→List AV→oa→Option Out) (m:Nat) (s1:(Sq U0)) (t7:Int) (t8:Int) (v1:BA) (v2:BA):Option Out:=Kb tys (ia Out (cA n)) (YS n) n (ra [1,0,1,0,0] (ba Tryz.f103)) 0 iW gW K m (s1,(t7,(t8,()))) ((v1,(v2,())),())
theorem veb (n:Nat) (K:XE→List AV→oa→Option Out):∀ (m:Nat) s1 t7 t8 v1 v2,XS n K m s1 t7 t8 v1 v2=(cz n m s1 t7 t8 v1 v2).bind (cy K)
  | 0,_,_,_,_,_=>by kernel_rfl
  | m+1,s1,t7,t8,v1,v2=>by
    have h1:XS n K (m+1) s1 t7 t8 v1 v2=fW n s1 t7 t8 v1 v2 (XS n K m) (fun a=>cy K (.out a)) (fun a=>cy K (.ret a)) (fun p=>cy K (.pan p)):=by kernel_rfl
    have h2:XS n K m=fun s1 t7 t8 v1 v2=>(cz n m s1 t7 t8 v1 v2).bind (cy K):=by
      repeat (refine funext fun _=>?_)
      exact veb n K m _ _ _ _ _
    rw [h1,h2];exact (Nkb n m _ _ _ _ _ (cy K)).symm
theorem Pib (n:Nat):ub tys (ia Out (cA n)) (YS n) n (ra [1,0,1,0,0] (ba Tryz.f103)) 0:=Aa (sp:=iW) (rp:=gW) (by kernel_rfl) fun K σ ρ=>veb n K n σ.1 σ.2.1 σ.2.2.1 ρ.1.1 ρ.1.2.1
theorem Okb (n:Nat):qa tys (ia Out (cA n)) (YS n) n (ba Tryz.f103) 0:=⟨aa,⟨⟨aa,⟨Pib n,⟨aa,⟨⟨aa,aa⟩,⟨⟨aa,⟨aa,⟨⟨aa,aa⟩,aa⟩⟩⟩,aa⟩⟩⟩⟩⟩,⟨aa,aa⟩⟩⟩
theorem Xmb (n:Nat):Enters Tryz.prog 103:=enters_of (c:=ba Tryz.f103) Tryz.func103 (by kernel_rfl) (by kernel_rfl)
def Klb (n:Nat):Entry:=⟨103,pcT K6 (.one (.int .i64)) (fun xs=>sIx n xs.1 xs.2.1),none,none⟩
theorem qob (n:Nat):EntryOk Tryz.prog gl (Klb n):=wa (Xmb n) fun xs y h=>ma tys_ok (yP n) mixed (hint:=YS n) (n:=n) Tryz.func103 (ya (Okb n)) (la (φ:=(fun y=>some (Out.ret (Ya (.one (.int .i64)) y)))) (by kernel_rfl) (spb n xs.1 xs.2.1 _) h)
def Qib (n:Nat):List Entry:=Klb n::cA n
theorem R9 (n:Nat):AllOk Tryz.prog gl (Qib n):=.cons (qob n) (yP n)
def Ikb (n:Nat) {R:Type} (s:(Sq U0)) (v:U0) (k:Bool→Option R):Option R:=(sIx n s (v.1,(v.2.1,()))).bind fun v1=>k (decide (v1≥(0:Int)))
def sCn (n:Nat) (s:(Sq U0)) (v:U0):Option Bool:=Ikb n s v some
theorem rpb (n:Nat) {S:Type}:∀ s v (φ:_→Option S),(sCn n s v).bind φ=Ikb n s v φ:=by
  intros;unfold sCn Ikb;first | (simp only [ja,fa,iB,bB,oL,oX,nB,Option.bind_some]) | rfl
def ueb (n:Nat):Hint Out:={ live:=fun c=>[],run:=fun c=>none,xm:=fun c q=>none }
theorem Jkb (n:Nat):qa tys (ia Out (Qib n)) (ueb n) n (ba Tryz.f75) 0:=na (fun _=>rfl) _ _ (by kernel_rfl)
theorem Wmb (n:Nat):Enters Tryz.prog 75:=enters_of (c:=ba Tryz.f75) Tryz.func75 (by kernel_rfl) (by kernel_rfl)
def Jlb (n:Nat):Entry:=⟨75,pcT K6 (.one .bool) (fun xs=>sCn n xs.1 xs.2.1),none,none⟩
theorem pob (n:Nat):EntryOk Tryz.prog gl (Jlb n):=wa (Wmb n) fun xs y h=>ma tys_ok (R9 n) mixed (hint:=ueb n) (n:=n) Tryz.func75 (ya (Jkb n)) (la (φ:=(fun y=>some (Out.ret (Ya (.one .bool) y)))) (by kernel_rfl) (rpb n xs.1 xs.2.1 _) h)
def H9 (n:Nat):List Entry:=Jlb n::Qib n
theorem I9 (n:Nat):AllOk Tryz.prog gl (H9 n):=.cons (pob n) (R9 n)
def BN (n:Nat) {R:Type} (l1 t5:(Sq U0)) (t6 t7:Int) (kn:(Sq U0)→(Sq U0)→Int→Int→Option R) (ko:((Sq U0))→Option R) (kr:(Bool)→Option R) (kp:Int→Option R):Option R:=if (decide (t7<t6))=true then if 0≤t7∧t7<(t5.n:Int) then (bA n (((t5.at' (Int.toNat t7))).1,((((t5.at' (Int.toNat t7))).2).1,()))).bind fun v=>if (!v)=false then if 0≤t7∧t7≤(l1.n:Int) then (sCn n (⟨((Int.toNat t7) - (Int.toNat (0:Int))),fun i=>l1.at' ((Int.toNat (0:Int))+i)⟩:Sq U0) (((t5.at' (Int.toNat t7))).1,((((t5.at' (Int.toNat t7))).2).1,()))).bind fun v1=>if v1=true then kr false else kn l1 t5 t6 (IntKind.wrap .i64 (t7+(1:Int))) else none else kr false else none else ko l1
def vp (n:Nat):Nat→(Sq U0)→(Sq U0)→Int→Int→Option (Lx ((Sq U0)) (Bool))
 | 0,_,_,_,_=>none
 | m+1,l1,t5,t6,t7=>BN n l1 t5 t6 t7 (vp n m) (fun a=>some (.out a)) (fun a=>some (.ret a)) (fun p=>some (.pan p))
theorem phb (n m:Nat) {S:Type}:∀ l1 t5 t6 t7 (φ:_→Option S),(vp n (m+1) l1 t5 t6 t7).bind φ=BN n l1 t5 t6 t7 (fun l1 t5 t6 t7=>(vp n m l1 t5 t6 t7).bind φ) (fun a=>φ (.out a)) (fun a=>φ (.ret a)) (fun p=>φ (.pan p)):=by
  intros;first | (simp only [vp,BN,ja,fa,iB,bB,oL,oX,nB,Option.bind_some]) | rfl
def DN:List Sl:=.dat (.sl (.pair .str (.pair .str .unit)))::tp 4 (.dat (.sl (.pair .str (.pair .str .unit)))::.dat (.int .i64)::.dat (.int .i64)::tp 18 [])
def CN:List RS:=[]
def FX:List Sl:=.dat (.sl (.pair .str (.pair .str .unit)))::tp 25 []
def EX:List RS:=[]
def HX:List Sl:=.top::.top::.dat .bool::tp 23 []
def GX:List RS:=[]
def xp (K:XE→List AV→oa→Option Out):Lx ((Sq U0)) (Bool)→Option Out:=fun x=>onL x (fun a=>yb FX EX (a,()) () (K (.exit 0))) (fun a=>yb HX GX (a,()) () (K .ret)) (fun _=>none)
def Gdb (n:Nat) {R:Type} (l:(Sq U0)) (k:Bool→Option R):Option R:=(vp n n l l (l.n:Int) (0:Int)).bind fun x_1=>onL x_1 (fun a_2=>k (decide ((a_2.n:Int)≤(8:Int)))) (fun a_3=>k a_3) (fun _=>none)
def akb (n:Nat) (l:(Sq U0)):Option Bool:=Gdb n l some
theorem Nnb (n:Nat) {S:Type}:∀ l (φ:_→Option S),(akb n l).bind φ=Gdb n l φ:=by
  intros;unfold akb Gdb;first | (simp only [ja,fa,iB,bB,oL,oX,nB,Option.bind_some]) | rfl
def dK (n:Nat):Hint Out:={ live:=fun c=>(cond (Nat.beq c 0) [(0,some (.sl (.pair .str (.pair .str .unit)))),(5,some (.sl (.pair .str (.pair .str .unit)))),(6,none),(7,none)] []),run:=fun c=>(cond (Nat.beq c 0) (some (ef DN CN fun σ ρ K=>(vp n n σ.1 σ.2.1 σ.2.2.1 σ.2.2.2.1).bind (xp K))) none),xm:=fun c q=>(cond (Nat.beq c 0&&Nat.beq (q.getD 1000000) 0&&q.isSome) (some [(0,some (.sl (.pair .str (.pair .str .unit))))]) (cond (Nat.beq c 1&&q.isNone) (some [(2,none)]) none)) }
def cK (n:Nat) (K:XE→List AV→oa→Option Out) (m:Nat) (l1:(Sq U0)) (t5:(Sq U0)) (t6:Int) (t7:Int):Option Out:=Kb tys (ia Out (H9 n)) (dK n) n (ra [1,0,1,0,0] (ba Tryz.f92)) 0 DN CN K m (l1,(t5,(t6,(t7,())))) ()
theorem y7 (n:Nat) (K:XE→List AV→oa→Option Out):∀ (m:Nat) l1 t5 t6 t7,cK n K m l1 t5 t6 t7=(vp n m l1 t5 t6 t7).bind (xp K)
  | 0,_,_,_,_=>by kernel_rfl
  | m+1,l1,t5,t6,t7=>by
    have h1:cK n K (m+1) l1 t5 t6 t7=BN n l1 t5 t6 t7 (cK n K m) (fun a=>xp K (.out a)) (fun a=>xp K (.ret a)) (fun p=>xp K (.pan p)):=by kernel_rfl
    have h2:cK n K m=fun l1 t5 t6 t7=>(vp n m l1 t5 t6 t7).bind (xp K):=by
      repeat (refine funext fun _=>?_)
      exact y7 n K m _ _ _ _
    rw [h1,h2];exact (phb n m _ _ _ _ (xp K)).symm
theorem pfb (n:Nat):ub tys (ia Out (H9 n)) (dK n) n (ra [1,0,1,0,0] (ba Tryz.f92)) 0:=Aa (sp:=DN) (rp:=CN) (by kernel_rfl) fun K σ ρ=>y7 n K n σ.1 σ.2.1 σ.2.2.1 σ.2.2.2.1
theorem rhb (n:Nat):qa tys (ia Out (H9 n)) (dK n) n (ba Tryz.f92) 0:=⟨aa,⟨⟨aa,⟨pfb n,⟨aa,⟨⟨aa,aa⟩,⟨⟨aa,⟨aa,⟨⟨aa,aa⟩,aa⟩⟩⟩,aa⟩⟩⟩⟩⟩,⟨aa,aa⟩⟩⟩
theorem bkb (n:Nat):Enters Tryz.prog 92:=enters_of (c:=ba Tryz.f92) Tryz.func92 (by kernel_rfl) (by kernel_rfl)
def qhb (n:Nat):Entry:=⟨92,pcT (.pair (.sl (.pair .str (.pair .str .unit))) .unit) (.one .bool) (fun xs=>akb n xs.1),none,none⟩
theorem imb (n:Nat):EntryOk Tryz.prog gl (qhb n):=wa (bkb n) fun xs y h=>ma tys_ok (I9 n) mixed (hint:=dK n) (n:=n) Tryz.func92 (ya (rhb n)) (la (φ:=(fun y=>some (Out.ret (Ya (.one .bool) y)))) (by kernel_rfl) (Nnb n xs.1 _) h)
def ybb (n:Nat):List Entry:=qhb n::H9 n
theorem oZ (n:Nat):AllOk Tryz.prog gl (ybb n):=.cons (imb n) (I9 n)
def dr (n:Nat) {R:Type} (c:T0) (k:Bool→Option R):Option R:=if (decide (c.2.2.2.2.1<(2:Int)))=false then if (decide (c.2.2.2.2.1>(4:Int)))=true then if (!c.2.2.2.2.2.2.1)=true then if ((c.2.2.2.2.2.2.2.1.1.toList==(⟨#[]⟩:BA).toList)&&((c.2.2.2.2.2.2.2.1.2.1.toList==(⟨#[]⟩:BA).toList)&&true))=true then k ((c.2.2.2.2.2.2.2.2.1.n:Int)==(0:Int)) else k false else k false else if c.2.2.2.2.2.2.1=true then if (!((c.2.2.2.2.2.2.2.1.1.toList==(⟨#[]⟩:BA).toList)&&((c.2.2.2.2.2.2.2.1.2.1.toList==(⟨#[]⟩:BA).toList)&&true)))=false then if (!c.2.2.2.2.2.2.1)=true then (bA n c.2.2.2.2.2.2.2.1).bind fun v=>if (!v)=true then k false else (akb n c.2.2.2.2.2.2.2.2.1).bind fun v1=>if v1=true then k (((c.2.2.2.2.2.2.2.2.1.n:Int)==(0:Int))==(c.2.2.2.2.1==(2:Int))) else k false else (akb n c.2.2.2.2.2.2.2.2.1).bind fun v2=>if v2=true then k (((c.2.2.2.2.2.2.2.2.1.n:Int)==(0:Int))==(c.2.2.2.2.1==(2:Int))) else k false else k false else if (!c.2.2.2.2.2.2.1)=true then (bA n c.2.2.2.2.2.2.2.1).bind fun v3=>if (!v3)=true then k false else (akb n c.2.2.2.2.2.2.2.2.1).bind fun v4=>if v4=true then k (((c.2.2.2.2.2.2.2.2.1.n:Int)==(0:Int))==(c.2.2.2.2.1==(2:Int))) else k false else (akb n c.2.2.2.2.2.2.2.2.1).bind fun v5=>if v5=true then k (((c.2.2.2.2.2.2.2.2.1.n:Int)==(0:Int))==(c.2.2.2.2.1==(2:Int)))
 else k false else if (!c.2.2.2.2.2.2.1)=true then if ((c.2.2.2.2.2.2.2.1.1.toList==(⟨#[]⟩:BA).toList)&&((c.2.2.2.2.2.2.2.1.2.1.toList==(⟨#[]⟩:BA).toList)&&true))=true then k ((c.2.2.2.2.2.2.2.2.1.n:Int)==(0:Int)) else k false else k false
def ae (n:Nat) (c:T0):Option Bool:=dr n c some
theorem n7 (n:Nat) {S:Type}:∀ c (φ:_→Option S),(ae n c).bind φ=dr n c φ:=by
  intros;unfold ae dr;first | (simp only [ja,fa,iB,bB,oL,oX,nB,Option.bind_some]) | rfl
def CA (n:Nat):Hint Out:={ live:=fun c=>[],run:=fun c=>none,xm:=fun c q=>none }
theorem ST (n:Nat):qa tys (ia Out (ybb n)) (CA n) n (ba Tryz.f66) 0:=na (fun _=>rfl) _ _ (by kernel_rfl)
theorem CX (n:Nat):Enters Tryz.prog 66:=enters_of (c:=ba Tryz.f66) Tryz.func66 (by kernel_rfl) (by kernel_rfl)
def VJ (n:Nat):Entry:=⟨66,pcT K1 (.one .bool) (fun xs=>ae n xs.1),none,none⟩
theorem S1 (n:Nat):EntryOk Tryz.prog gl (VJ n):=wa (CX n) fun xs y h=>ma tys_ok (oZ n) mixed (hint:=CA n) (n:=n) Tryz.func66 (ya (ST n)) (la (φ:=(fun y=>some (Out.ret (Ya (.one .bool) y)))) (by kernel_rfl) (n7 n xs.1 _) h)
def WJ (n:Nat):List Entry:=VJ n::ybb n
theorem SQ (n:Nat):AllOk Tryz.prog gl (WJ n):=.cons (S1 n) (oZ n)
def Ek (n:Nat):List Entry:=⟨126,pcT (.pair .str (.pair .str .unit)) (.one .bool) (fun xs=>tfb xs.1 xs.2.1),none,none⟩::WJ n
theorem Ym (n:Nat):AllOk Tryz.prog gl (Ek n):=.cons LX (SQ n)
def Zw (n:Nat) {R:Type} (s:BA) (k:Bool→Option R):Option R:=if (decide ((s.size:Int)≤(509:Int)))=true then (tfb s (⟨#[13,10]⟩:BA)).bind fun v=>k (!v) else k false
def Il (n:Nat) (s:BA):Option Bool:=Zw n s some
theorem Fbb (n:Nat) {S:Type}:∀ s (φ:_→Option S),(Il n s).bind φ=Zw n s φ:=by
  intros;unfold Il Zw;first | (simp only [ja,fa,iB,bB,oL,oX,nB,Option.bind_some]) | rfl
def yF (n:Nat):Hint Out:={ live:=fun c=>[],run:=fun c=>none,xm:=fun c q=>none }
theorem MX (n:Nat):qa tys (ia Out (Ek n)) (yF n) n (ba Tryz.f95) 0:=na (fun _=>rfl) _ _ (by kernel_rfl)
theorem B2 (n:Nat):Enters Tryz.prog 95:=enters_of (c:=ba Tryz.f95) Tryz.func95 (by kernel_rfl) (by kernel_rfl)
def VP (n:Nat):Entry:=⟨95,pcT (.pair .str .unit) (.one .bool) (fun xs=>Il n xs.1),none,none⟩
theorem D7 (n:Nat):EntryOk Tryz.prog gl (VP n):=wa (B2 n) fun xs y h=>ma tys_ok (Ym n) mixed (hint:=yF n) (n:=n) Tryz.func95 (ya (MX n)) (la (φ:=(fun y=>some (Out.ret (Ya (.one .bool) y)))) (by kernel_rfl) (Fbb n xs.1 _) h)
def MA (n:Nat):List Entry:=VP n::Ek n
theorem NA (n:Nat):AllOk Tryz.prog gl (MA n):=.cons (D7 n) (Ym n)
def uD (n:Nat) {R:Type} (s:BA) (k:Bool→Option R):Option R:=(Il n s).bind fun v=>k (!v)
def tD (n:Nat) (s:BA):Option Bool:=uD n s some
theorem nfb (n:Nat) {S:Type}:∀ s (φ:_→Option S),(tD n s).bind φ=uD n s φ:=by
  intros;unfold tD uD;first | (simp only [ja,fa,iB,bB,oL,oX,nB,Option.bind_some]) | rfl
def bK (n:Nat):Hint Out:={ live:=fun c=>[],run:=fun c=>none,xm:=fun c q=>none }
theorem Y1 (n:Nat):qa tys (ia Out (MA n)) (bK n) n (ba Tryz.f94) 0:=na (fun _=>rfl) _ _ (by kernel_rfl)
theorem w7 (n:Nat):Enters Tryz.prog 94:=enters_of (c:=ba Tryz.f94) Tryz.func94 (by kernel_rfl) (by kernel_rfl)
def YT (n:Nat):Entry:=⟨94,pcT (.pair .str .unit) (.one .bool) (fun xs=>tD n xs.1),none,none⟩
theorem wbb (n:Nat):EntryOk Tryz.prog gl (YT n):=wa (w7 n) fun xs y h=>ma tys_ok (NA n) mixed (hint:=bK n) (n:=n) Tryz.func94 (ya (Y1 n)) (la (φ:=(fun y=>some (Out.ret (Ya (.one .bool) y)))) (by kernel_rfl) (nfb n xs.1 _) h)
def pp (n:Nat):List Entry:=YT n::MA n
theorem xF (n:Nat):AllOk Tryz.prog gl (pp n):=.cons (wbb n) (NA n)
def kq (n:Nat) {R:Type} (s1:(Sq BA)) (t7 t8:Int) (kn:(Sq BA)→Int→Int→Option R) (ko:(Unit)→Option R) (kr:(Int)→Option R) (kp:Int→Option R):Option R:=if (decide (t8<t7))=true then if 0≤t8∧t8<(s1.n:Int) then (tD n (s1.at' (Int.toNat t8))).bind fun v=>if v=true then kr t8 else kn s1 t7 (IntKind.wrap .i64 (t8+(1:Int))) else none else ko ()
def gf (n:Nat):Nat→(Sq BA)→Int→Int→Option (Lx (Unit) (Int))
 | 0,_,_,_=>none
 | m+1,s1,t7,t8=>kq n s1 t7 t8 (gf n m) (fun a=>some (.out a)) (fun a=>some (.ret a)) (fun p=>some (.pan p))
theorem Ncb (n m:Nat) {S:Type}:∀ s1 t7 t8 (φ:_→Option S),(gf n (m+1) s1 t7 t8).bind φ=kq n s1 t7 t8 (fun s1 t7 t8=>(gf n m s1 t7 t8).bind φ) (fun a=>φ (.out a)) (fun a=>φ (.ret a)) (fun p=>φ (.pan p)):=by
  intros;first | (simp only [gf,kq,ja,fa,iB,bB,oL,oX,nB,Option.bind_some]) | rfl
def AC:List Sl:=.dat (.sl .str)::.fnc 94::tp 5 (.dat (.int .i64)::.dat (.int .i64)::tp 10 [])
def yC:List RS:=[.ghost [.top,.top]]
def KR:List Sl:=tp 19 []
def JR:List RS:=[.ghost [.top,.top]]
def NR:List Sl:=tp 4 (.dat (.int .i64)::tp 14 [])
def MR:List RS:=[.ghost [.top,.top]]
def Oh (K:XE→List AV→oa→Option OutS):Lx (Unit) (Int)→Option OutS:=fun x=>onL x (fun a=>yb KR JR () ((),()) (K (.exit 0))) (fun a=>yb NR MR (a,()) ((),()) (K .ret)) (fun _=>none)
def WS (n:Nat) {R:Type} (s:(Sq BA)) (k:(Int×Unit)→Option R):Option R:=(gf n n s (s.n:Int) (0:Int)).bind fun x_1=>onL x_1 (fun a_2=>k ((-1:Int),())) (fun a_3=>k (a_3,())) (fun _=>none)
def HZ (n:Nat) (s:(Sq BA)):Option (Int×Unit):=WS n s some
theorem Kkb (n:Nat) {S:Type}:∀ s (φ:_→Option S),(HZ n s).bind φ=WS n s φ:=by
  intros;unfold HZ WS;first | (simp only [ja,fa,iB,bB,oL,oX,nB,Option.bind_some]) | rfl
def Xx (n:Nat):Hint OutS:={ live:=fun c=>(cond (Nat.beq c 0) [(0,some (.sl .str)),(1,none),(7,none),(8,none)] []),run:=fun c=>(cond (Nat.beq c 0) (some (ef AC yC fun σ ρ K=>(gf n n σ.1 σ.2.1 σ.2.2.1).bind (Oh K))) none),xm:=fun c q=>(cond (Nat.beq c 0&&Nat.beq (q.getD 1000000) 0&&q.isSome) (some []) (cond (Nat.beq c 1&&q.isNone) (some [(4,none)]) none)) }
def Wx (n:Nat) (K:XE→List AV→oa→Option OutS) (m:Nat) (s1:(Sq BA)) (t7:Int) (t8:Int):Option OutS:=Kb tys (ia OutS (pp n)) (Xx n) n (ra [1,0,1,0,0] (ba Tryz.f125)) 0 AC yC K m (s1,(t7,(t8,()))) ((),())
theorem bW (n:Nat) (K:XE→List AV→oa→Option OutS):∀ (m:Nat) s1 t7 t8,Wx n K m s1 t7 t8=(gf n m s1 t7 t8).bind (Oh K)
  | 0,_,_,_=>by kernel_rfl
  | m+1,s1,t7,t8=>by
    have h1:Wx n K (m+1) s1 t7 t8=kq n s1 t7 t8 (Wx n K m) (fun a=>Oh K (.out a)) (fun a=>Oh K (.ret a)) (fun p=>Oh K (.pan p)):=by kernel_rfl
    have h2:Wx n K m=fun s1 t7 t8=>(gf n m s1 t7 t8).bind (Oh K):=by
      repeat (refine funext fun _=>?_)
      exact bW n K m _ _ _
    rw [h1,h2];exact (Ncb n m _ _ _ (Oh K)).symm
theorem J9 (n:Nat):ub tys (ia OutS (pp n)) (Xx n) n (ra [1,0,1,0,0] (ba Tryz.f125)) 0:=Aa (sp:=AC) (rp:=yC) (by kernel_rfl) fun K σ ρ=>bW n K n σ.1 σ.2.1 σ.2.2.1
theorem Ocb (n:Nat):qa tys (ia OutS (pp n)) (Xx n) n (ba Tryz.f125) 0:=⟨aa,⟨⟨aa,⟨J9 n,⟨aa,⟨⟨aa,aa⟩,⟨⟨aa,⟨aa,⟨⟨aa,aa⟩,aa⟩⟩⟩,aa⟩⟩⟩⟩⟩,⟨aa,aa⟩⟩⟩
theorem mgb (n:Nat):Enters Tryz.prog 125:=enters_of (c:=ba Tryz.f125) Tryz.func125 (by kernel_rfl) (by kernel_rfl)
def M9:List RSp:=[.one (.dat (.sl .str)),.one (.fnc 94)]
def L9:List RS:=[]
def ngb:List Sl:=[.top,.top]
def ogb:List RSp:=[.one (.dat (.int .i64))]
def eE:List RS:=[]
def o5 (y:(Int×Unit)):OutS:=⟨false,km (cc eE ()) ngb (),OC (Vz (cc eE ()) ogb ((y.1,()),())),ir (cc eE ()) eE ()⟩
theorem Nib (n:Nat):EntryOk Tryz.prog gl ⟨125,vd,none,some (csT M9 L9 (fun σ ρ=>HZ n σ.1.1) o5)⟩:=pd (mgb n) fun σ ρ y h=>Ta tys_ok (xF n) mixed (hint:=Xx n) (n:=n) Tryz.func125 (ya (Ocb n)) (la (φ:=fun y=>some (o5 y)) (by kernel_rfl) (Kkb n σ.1.1 _) h)
def cW (n:Nat):List Entry:=⟨125,vd,none,some (csT M9 L9 (fun σ ρ=>HZ n σ.1.1) o5)⟩::pp n
theorem AQ (n:Nat):AllOk Tryz.prog gl (cW n):=.cons (Nib n) (xF n)
def US (n:Nat) {R:Type} (s:(Sq BA)) (k:(Bool×Unit)→Option R):Option R:=(HZ n s).bind fun v=>k ((decide (v.1≥(0:Int))),())
def XV (n:Nat) (s:(Sq BA)):Option (Bool×Unit):=US n s some
theorem Gkb (n:Nat) {S:Type}:∀ s (φ:_→Option S),(XV n s).bind φ=US n s φ:=by
  intros;unfold XV US;first | (simp only [ja,fa,iB,bB,oL,oX,nB,Option.bind_some]) | rfl
def YV (n:Nat):Hint OutS:={ live:=fun c=>[],run:=fun c=>none,xm:=fun c q=>none }
theorem Lcb (n:Nat):qa tys (ia OutS (cW n)) (YV n) n (ba Tryz.f93) 0:=na (fun _=>rfl) _ _ (by kernel_rfl)
theorem ggb (n:Nat):Enters Tryz.prog 93:=enters_of (c:=ba Tryz.f93) Tryz.func93 (by kernel_rfl) (by kernel_rfl)
def D9:List RSp:=[.one (.dat (.sl .str)),.one (.fnc 94)]
def C9:List RS:=[]
def hgb:List Sl:=[.top,.top]
def igb:List RSp:=[.one (.dat .bool)]
def cE:List RS:=[]
def j5 (y:(Bool×Unit)):OutS:=⟨false,km (cc cE ()) hgb (),OC (Vz (cc cE ()) igb ((y.1,()),())),ir (cc cE ()) cE ()⟩
theorem Kib (n:Nat):EntryOk Tryz.prog gl ⟨93,vd,none,some (csT D9 C9 (fun σ ρ=>XV n σ.1.1) j5)⟩:=pd (ggb n) fun σ ρ y h=>Ta tys_ok (AQ n) mixed (hint:=YV n) (n:=n) Tryz.func93 (ya (Lcb n)) (la (φ:=fun y=>some (j5 y)) (by kernel_rfl) (Gkb n σ.1.1 _) h)
def xC (n:Nat):List Entry:=⟨93,vd,none,some (csT D9 C9 (fun σ ρ=>XV n σ.1.1) j5)⟩::cW n
theorem yQ (n:Nat):AllOk Tryz.prog gl (xC n):=.cons (Kib n) (AQ n)
def jv (n:Nat) {R:Type} (n0:Int) (t5:(Sq BA)) (t6 t7:Int) (kn:Int→(Sq BA)→Int→Int→Option R) (ko:(Int)→Option R) (kr:Unit→Option R) (kp:Int→Option R):Option R:=if (decide (t7<t6))=true then if 0≤t7∧t7<(t5.n:Int) then kn (IntKind.wrap .i64 (n0+(IntKind.wrap .i64 (((t5.at' (Int.toNat t7)).size:Int)+(2:Int))))) t5 t6 (IntKind.wrap .i64 (t7+(1:Int))) else none else ko n0
def Jf (n:Nat):Nat→Int→(Sq BA)→Int→Int→Option (Lx (Int) Unit)
 | 0,_,_,_,_=>none
 | m+1,n0,t5,t6,t7=>jv n n0 t5 t6 t7 (Jf n m) (fun a=>some (.out a)) (fun a=>some (.ret a)) (fun p=>some (.pan p))
theorem ubb (n m:Nat) {S:Type}:∀ n0 t5 t6 t7 (φ:_→Option S),(Jf n (m+1) n0 t5 t6 t7).bind φ=jv n n0 t5 t6 t7 (fun n0 t5 t6 t7=>(Jf n m n0 t5 t6 t7).bind φ) (fun a=>φ (.out a)) (fun a=>φ (.ret a)) (fun p=>φ (.pan p)):=by
  intros;first | (simp only [Jf,jv,ja,fa,iB,bB,oL,oX,nB,Option.bind_some]) | rfl
def FA:List Sl:=.top::.top::.dat (.int .i64)::.top::.top::.dat (.sl .str)::.dat (.int .i64)::.dat (.int .i64)::tp 10 []
def EA:List RS:=[]
def UQ:List Sl:=.top::.top::.dat (.int .i64)::tp 15 []
def TQ:List RS:=[]
def Dh (K:XE→List AV→oa→Option Out):Lx (Int) Unit→Option Out:=fun x=>onL x (fun a=>yb UQ TQ (a,()) () (K (.exit 0))) (fun _=>none) (fun _=>none)
def HS (n:Nat) {R:Type} (l:(Sq BA)) (k:Int→Option R):Option R:=(Jf n n (0:Int) l (l.n:Int) (0:Int)).bind fun x_1=>onL x_1 (fun a_2=>k a_2) (fun _=>none) (fun _=>none)
def VT (n:Nat) (l:(Sq BA)):Option Int:=HS n l some
theorem Yjb (n:Nat) {S:Type}:∀ l (φ:_→Option S),(VT n l).bind φ=HS n l φ:=by
  intros;unfold VT HS;first | (simp only [ja,fa,iB,bB,oL,oX,nB,Option.bind_some]) | rfl
def Yw (n:Nat):Hint Out:={ live:=fun c=>(cond (Nat.beq c 0) [(2,none),(5,some (.sl .str)),(6,none),(7,none)] []),run:=fun c=>(cond (Nat.beq c 0) (some (ef FA EA fun σ ρ K=>(Jf n n σ.1 σ.2.1 σ.2.2.1 σ.2.2.2.1).bind (Dh K))) none),xm:=fun c q=>(cond (Nat.beq c 0&&Nat.beq (q.getD 1000000) 0&&q.isSome) (some [(2,none)]) none) }
def Xw (n:Nat) (K:XE→List AV→oa→Option Out) (m:Nat) (n0:Int) (t5:(Sq BA)) (t6:Int) (t7:Int):Option Out:=Kb tys (ia Out (xC n)) (Yw n) n (ra [1,0,1,0,0] (ba Tryz.f96)) 0 FA EA K m (n0,(t5,(t6,(t7,())))) ()
theorem WT (n:Nat) (K:XE→List AV→oa→Option Out):∀ (m:Nat) n0 t5 t6 t7,Xw n K m n0 t5 t6 t7=(Jf n m n0 t5 t6 t7).bind (Dh K)
  | 0,_,_,_,_=>by kernel_rfl
  | m+1,n0,t5,t6,t7=>by
    have h1:Xw n K (m+1) n0 t5 t6 t7=jv n n0 t5 t6 t7 (Xw n K m) (fun a=>Dh K (.out a)) (fun a=>Dh K (.ret a)) (fun p=>Dh K (.pan p)):=by kernel_rfl
    have h2:Xw n K m=fun n0 t5 t6 t7=>(Jf n m n0 t5 t6 t7).bind (Dh K):=by
      repeat (refine funext fun _=>?_)
      exact WT n K m _ _ _ _
    rw [h1,h2];exact (ubb n m _ _ _ _ (Dh K)).symm
theorem s7 (n:Nat):ub tys (ia Out (xC n)) (Yw n) n (ra [1,0,1,0,0] (ba Tryz.f96)) 0:=Aa (sp:=FA) (rp:=EA) (by kernel_rfl) fun K σ ρ=>WT n K n σ.1 σ.2.1 σ.2.2.1 σ.2.2.2.1
theorem vbb (n:Nat):qa tys (ia Out (xC n)) (Yw n) n (ba Tryz.f96) 0:=⟨aa,⟨⟨aa,⟨s7 n,⟨aa,⟨⟨aa,aa⟩,⟨⟨aa,aa⟩,aa⟩⟩⟩⟩⟩,⟨aa,aa⟩⟩⟩
theorem mfb (n:Nat):Enters Tryz.prog 96:=enters_of (c:=ba Tryz.f96) Tryz.func96 (by kernel_rfl) (by kernel_rfl)
def u7 (n:Nat):Entry:=⟨96,pcT (.pair (.sl .str) .unit) (.one (.int .i64)) (fun xs=>VT n xs.1),none,none⟩
theorem nhb (n:Nat):EntryOk Tryz.prog gl (u7 n):=wa (mfb n) fun xs y h=>ma tys_ok (yQ n) mixed (hint:=Yw n) (n:=n) Tryz.func96 (ya (vbb n)) (la (φ:=(fun y=>some (Out.ret (Ya (.one (.int .i64)) y)))) (by kernel_rfl) (Yjb n xs.1 _) h)
def XT (n:Nat):List Entry:=u7 n::xC n
theorem TP (n:Nat):AllOk Tryz.prog gl (XT n):=.cons (nhb n) (yQ n)
def IS (n:Nat) {R:Type} (c:T0) (k:Bool→Option R):Option R:=if (c.2.2.2.2.1 !=(4:Int))=false then if c.2.2.2.2.2.2.2.2.2.2.2.1=true then if ((c.2.2.2.2.2.2.2.2.2.1.n:Int)==(0:Int))=true then if (c.2.2.2.2.2.2.2.2.2.2.1==(0:Int))=true then if (!c.2.2.2.2.2.2.2.2.2.2.2.1)=false then k (c.2.2.2.2.1==(4:Int)) else k true else k false else k false else (XV n c.2.2.2.2.2.2.2.2.2.1).bind fun v=>if (!v.1)=true then BT ((VT n c.2.2.2.2.2.2.2.2.2.1).bind fun v1=>if (c.2.2.2.2.2.2.2.2.2.2.1==v1)=true then k (decide (c.2.2.2.2.2.2.2.2.2.2.1≤(8192:Int))) else k false) (dup 1 ((VT n c.2.2.2.2.2.2.2.2.2.1).bind fun v2=>if (c.2.2.2.2.2.2.2.2.2.2.1==v2)=true then k (decide (c.2.2.2.2.2.2.2.2.2.2.1≤(8192:Int))) else k false)) else BT (k false) (dup 1 (k false)) else if ((c.2.2.2.2.2.2.2.2.2.1.n:Int)==(0:Int))=true then if (c.2.2.2.2.2.2.2.2.2.2.1==(0:Int))=true then if (!c.2.2.2.2.2.2.2.2.2.2.2.1)=false then k (c.2.2.2.2.1==(4:Int)) else k true else k false else k false
def GA (n:Nat) (c:T0):Option Bool:=IS n c some
theorem Zjb (n:Nat) {S:Type}:∀ c (φ:_→Option S),(GA n c).bind φ=IS n c φ:=by
  intros;unfold GA IS;first | (simp only [ja,fa,iB,bB,oL,oX,nB,Option.bind_some]) | rfl
def aU (n:Nat):Hint Out:={ live:=fun c=>[],run:=fun c=>none,xm:=fun c q=>none,sch:=fun c=>(cond (Nat.beq c 3) (some [(0,0),(1,1),(2,2),(3,0),(4,0),(5,0),(7,0),(6,5),(8,7),(9,7),(10,6),(11,6),(12,6),(13,6),(14,7),(15,6),(16,6),(17,6)]) none) }
theorem xbb (n:Nat):qa tys (ia Out (XT n)) (aU n) n (ba Tryz.f67) 0:=na (fun _=>rfl) _ _ (by kernel_rfl)
theorem ofb (n:Nat):Enters Tryz.prog 67:=enters_of (c:=ba Tryz.f67) Tryz.func67 (by kernel_rfl) (by kernel_rfl)
def x7 (n:Nat):Entry:=⟨67,pcT K1 (.one .bool) (fun xs=>GA n xs.1),none,none⟩
theorem ohb (n:Nat):EntryOk Tryz.prog gl (x7 n):=wa (ofb n) fun xs y h=>ma tys_ok (TP n) mixed (hint:=aU n) (n:=n) Tryz.func67 (ya (xbb n)) (la (φ:=(fun y=>some (Out.ret (Ya (.one .bool) y)))) (by kernel_rfl) (Zjb n xs.1 _) h)
def ZT (n:Nat):List Entry:=x7 n::XT n
theorem UP (n:Nat):AllOk Tryz.prog gl (ZT n):=.cons (ohb n) (TP n)
def J1 (n:Nat) {R:Type} (c:T0) (k:Bool→Option R):Option R:=(Ln n c.1 (1:Int) (1099511627776:Int)).bind fun v=>if (!v)=false then (Ln n c.2.1 (0:Int) (3:Int)).bind fun v1=>if (!v1)=false then (Ln n c.2.2.1 (0:Int) (1099511627776:Int)).bind fun v2=>if (!v2)=false then (pv n c.2.2.2.1).bind fun v3=>if (!v3)=false then (Ln n c.2.2.2.2.1 (0:Int) (5:Int)).bind fun v4=>if (!v4)=true then k false else if (c.2.2.2.2.2.1.toList==(⟨#[]⟩:BA).toList)=true then if (c.2.2.2.2.1 !=(0:Int))=true then if (c.2.2.2.2.1 !=(5:Int))=false then if (!(c.2.2.2.2.2.1.toList==(⟨#[]⟩:BA).toList))=true then if (c.2.2.2.2.1==(0:Int))=false then (Uj n c.2.2.2.2.2.1).bind fun v5=>if (!v5)=true then k false else (ae n c).bind fun v6=>if v6=true then (GA n c).bind fun v7=>k v7 else k false else k false else (ae n c).bind fun v8=>if v8=true then (GA n c).bind fun v9=>k v9 else k false else k false else if (!(c.2.2.2.2.2.1.toList==(⟨#[]⟩:BA).toList))=true then if (c.2.2.2.2.1==(0:Int))=false then (Uj n c.2.2.2.2.2.1).bind fun v10=>if (!v10)=true then k false else (ae n c).bind fun v11=>if v11=true then (GA n c).bind fun v12=>k v12 else k false else k false else (ae n c).bind fun v13=>if v13=true then (GA n c).bind fun v14=>
 k v14 else k false else if (!(c.2.2.2.2.2.1.toList==(⟨#[]⟩:BA).toList))=true then if (c.2.2.2.2.1==(0:Int))=false then (Uj n c.2.2.2.2.2.1).bind fun v15=>if (!v15)=true then k false else (ae n c).bind fun v16=>if v16=true then (GA n c).bind fun v17=>k v17 else k false else k false else (ae n c).bind fun v18=>if v18=true then (GA n c).bind fun v19=>k v19 else k false else k false else k false else k false else k false
def QQ (n:Nat) (c:T0):Option Bool:=J1 n c some
theorem hmb (n:Nat) {S:Type}:∀ c (φ:_→Option S),(QQ n c).bind φ=J1 n c φ:=by
  intros;unfold QQ J1;first | (simp only [ja,fa,iB,bB,oL,oX,nB,Option.bind_some]) | rfl
def kZ (n:Nat):Hint Out:={ live:=fun c=>[],run:=fun c=>none,xm:=fun c q=>none }
theorem efb (n:Nat):qa tys (ia Out (ZT n)) (kZ n) n (ba Tryz.f36) 0:=na (fun _=>rfl) _ _ (by kernel_rfl)
theorem hhb (n:Nat):Enters Tryz.prog 36:=enters_of (c:=ba Tryz.f36) Tryz.func36 (by kernel_rfl) (by kernel_rfl)
def Edb (n:Nat):Entry:=⟨36,pcT K1 (.one .bool) (fun xs=>QQ n xs.1),none,none⟩
theorem Ujb (n:Nat):EntryOk Tryz.prog gl (Edb n):=wa (hhb n) fun xs y h=>ma tys_ok (UP n) mixed (hint:=kZ n) (n:=n) Tryz.func36 (ya (efb n)) (la (φ:=(fun y=>some (Out.ret (Ya (.one .bool) y)))) (by kernel_rfl) (hmb n xs.1 _) h)
def Fdb (n:Nat):List Entry:=Edb n::ZT n
theorem mbb (n:Nat):AllOk Tryz.prog gl (Fdb n):=.cons (Ujb n) (UP n)
def mc (n:Nat):List Entry:=lc::Fdb n
theorem jf (n:Nat):AllOk Tryz.prog gl (mc n):=.cons kg (mbb n)
def zc (n:Nat):List Entry:=kf::mc n
theorem Ud (n:Nat):AllOk Tryz.prog gl (zc n):=.cons Cm (jf n)
def sD (n:Nat) {R:Type} (c:T0) (k:U2→Option R):Option R:=dup 1 ((KA 32 c.2.2.2.2.2.2.2.2.1).bind fun v=>(KA 16 c.2.2.2.2.2.2.2.2.2.1).bind fun v1=>k (c.1,(c.2.1,(c.2.2.1,(c.2.2.2.1.1,(c.2.2.2.1.2.1,(c.2.2.2.2.1,(c.2.2.2.2.2.1,(c.2.2.2.2.2.2.1,(c.2.2.2.2.2.2.2.1.1,(c.2.2.2.2.2.2.2.1.2.1,(c.2.2.2.2.2.2.2.2.2.2.1,(c.2.2.2.2.2.2.2.2.2.2.2.1,(v.1,(v1.1,())))))))))))))))
def nh (n:Nat) (c:T0):Option U2:=sD n c some
theorem gfb (n:Nat) {S:Type}:∀ c (φ:_→Option S),(nh n c).bind φ=sD n c φ:=by
  intros;unfold nh sD;first | (simp only [ja,fa,iB,bB,oL,oX,nB,Option.bind_some]) | rfl
def RJ (n:Nat):Hint OutS:={ live:=fun c=>[],run:=fun c=>none,xm:=fun c q=>none,sch:=fun c=>(cond (Nat.beq c 1) (some [(0,0),(3,0),(1,1),(2,5),(4,7),(5,2),(6,6),(7,2),(8,6),(9,2)]) none),pr:=[(0,10,25),(0,11,9)] }
theorem P1 (n:Nat):qa tys (ia OutS (zc n)).keep (RJ n) n (ba Tryz.f38) 0:=na (fun _=>rfl) _ _ (by kernel_rfl)
theorem Y6 (n:Nat):Enters Tryz.prog 38:=enters_of (c:=ba Tryz.f38) Tryz.func38 (by kernel_rfl) (by kernel_rfl)
def MT:List RSp:=[.one (.dat K0)]
def LT:List RS:=[]
def Z6:List Sl:=[.top]
def b7:List RSp:=[.agg [.dat (.int .i64),.dat (.int .i64),.dat (.int .i64),.dat .str,.dat .bool,.dat (.int .i64),.dat .str,.dat .bool,.dat .str,.dat .str,.row 0,.row 1,.dat (.int .i64),.dat .bool]]
def Zq:List RS:=[.row 25 2 (.pair .str (.pair .str .unit)) true true,.row 9 1 .str true true]
def sN (y:U2):OutS:=⟨false,km (cc Zq (y.2.2.2.2.2.2.2.2.2.2.2.2.1,(y.2.2.2.2.2.2.2.2.2.2.2.2.2.1,()))) Z6 (),OC (Vz (cc Zq (y.2.2.2.2.2.2.2.2.2.2.2.2.1,(y.2.2.2.2.2.2.2.2.2.2.2.2.2.1,()))) b7 ((y.1,(y.2.1,(y.2.2.1,(y.2.2.2.1,(y.2.2.2.2.1,(y.2.2.2.2.2.1,(y.2.2.2.2.2.2.1,(y.2.2.2.2.2.2.2.1,(y.2.2.2.2.2.2.2.2.1,(y.2.2.2.2.2.2.2.2.2.1,(y.2.2.2.2.2.2.2.2.2.2.1,(y.2.2.2.2.2.2.2.2.2.2.2.1,())))))))))))),())),ir (cc Zq (y.2.2.2.2.2.2.2.2.2.2.2.2.1,(y.2.2.2.2.2.2.2.2.2.2.2.2.2.1,()))) Zq (y.2.2.2.2.2.2.2.2.2.2.2.2.1,(y.2.2.2.2.2.2.2.2.2.2.2.2.2.1,()))⟩
theorem pbb (n:Nat):EntryOk Tryz.prog gl ⟨38,vd,none,some (csT MT LT (fun σ ρ=>nh n σ.1.1) sN)⟩:=pd (Y6 n) fun σ ρ y h=>If tys_ok (Ud n) mixed (hint:=RJ n) (n:=n) Tryz.func38 (ya (P1 n)) (la (φ:=fun y=>some (sN y)) (by kernel_rfl) (gfb n σ.1.1 _) h)
def OG (n:Nat):List Entry:=⟨38,vd,none,some (csT MT LT (fun σ ρ=>nh n σ.1.1) sN)⟩::zc n
theorem uF (n:Nat):AllOk Tryz.prog gl (OG n):=.cons (pbb n) (Ud n)
def Bi (n:Nat) {R:Type} (s prefix0:BA) (k:BA→Option R):Option R:=(ne n s prefix0).bind fun v=>if v=true then if 0≤(prefix0.size:Int)∧(prefix0.size:Int)≤(s.size:Int) then k (s.extract (Int.toNat (prefix0.size:Int)) (Int.toNat (s.size:Int))) else none else k s
def Ai (n:Nat) (s prefix0:BA):Option BA:=Bi n s prefix0 some
theorem sU (n:Nat) {S:Type}:∀ s prefix0 (φ:_→Option S),(Ai n s prefix0).bind φ=Bi n s prefix0 φ:=by
  intros;unfold Ai Bi;first | (simp only [ja,fa,iB,bB,oL,oX,nB,Option.bind_some]) | rfl
def qr (n:Nat):Hint Out:={ live:=fun c=>[],run:=fun c=>none,xm:=fun c q=>none }
theorem qK (n:Nat):qa tys (ia Out (OG n)) (qr n) n (ba Tryz.f149) 0:=na (fun _=>rfl) _ _ (by kernel_rfl)
theorem PN (n:Nat):Enters Tryz.prog 149:=enters_of (c:=ba Tryz.f149) Tryz.func149 (by kernel_rfl) (by kernel_rfl)
def My (n:Nat):Entry:=⟨149,pcT (.pair .str (.pair .str .unit)) (.one .str) (fun xs=>Ai n xs.1 xs.2.1),none,none⟩
theorem cR (n:Nat):EntryOk Tryz.prog gl (My n):=wa (PN n) fun xs y h=>ma tys_ok (uF n) mixed (hint:=qr n) (n:=n) Tryz.func149 (ya (qK n)) (la (φ:=(fun y=>some (Out.ret (Ya (.one .str) y)))) (by kernel_rfl) (sU n xs.1 xs.2.1 _) h)
def lm (n:Nat):List Entry:=My n::OG n
theorem Ep (n:Nat):AllOk Tryz.prog gl (lm n):=.cons (cR n) (uF n)
def nj (n:Nat) {R:Type} (s prefix0:BA) (k:BA→Option R):Option R:=(Ai n s prefix0).bind fun v=>k v
def Da (n:Nat) (s prefix0:BA):Option BA:=nj n s prefix0 some
theorem tW (n:Nat) {S:Type}:∀ s prefix0 (φ:_→Option S),(Da n s prefix0).bind φ=nj n s prefix0 φ:=by
  intros;unfold Da nj;first | (simp only [ja,fa,iB,bB,oL,oX,nB,Option.bind_some]) | rfl
def Ss (n:Nat):Hint Out:={ live:=fun c=>[],run:=fun c=>none,xm:=fun c q=>none }
theorem CM (n:Nat):qa tys (ia Out (lm n)) (Ss n) n (ba Tryz.f127) 0:=na (fun _=>rfl) _ _ (by kernel_rfl)
theorem PO (n:Nat):Enters Tryz.prog 127:=enters_of (c:=ba Tryz.f127) Tryz.func127 (by kernel_rfl) (by kernel_rfl)
def dz (n:Nat):Entry:=⟨127,pcT (.pair .str (.pair .str .unit)) (.one .str) (fun xs=>Da n xs.1 xs.2.1),none,none⟩
theorem WR (n:Nat):EntryOk Tryz.prog gl (dz n):=wa (PO n) fun xs y h=>ma tys_ok (Ep n) mixed (hint:=Ss n) (n:=n) Tryz.func127 (ya (CM n)) (la (φ:=(fun y=>some (Out.ret (Ya (.one .str) y)))) (by kernel_rfl) (tW n xs.1 xs.2.1 _) h)
def Dm (n:Nat):List Entry:=dz n::lm n
theorem qq (n:Nat):AllOk Tryz.prog gl (Dm n):=.cons (WR n) (Ep n)
def TG (n:Nat) {R:Type} (line:BA) (k:(BA×Bool×Unit)→Option R):Option R:=if (line.toList==(⟨#[46]⟩:BA).toList)=true then k ((⟨#[]⟩:BA),(true,())) else (Da n line (⟨#[46]⟩:BA)).bind fun v=>k (v,(false,()))
def gK (n:Nat) (line:BA):Option (BA×Bool×Unit):=TG n line some
theorem Gbb (n:Nat) {S:Type}:∀ line (φ:_→Option S),(gK n line).bind φ=TG n line φ:=by
  intros;unfold gK TG;first | (simp only [ja,fa,iB,bB,oL,oX,nB,Option.bind_some]) | rfl
def zF (n:Nat):Hint Out:={ live:=fun c=>[],run:=fun c=>none,xm:=fun c q=>none }
theorem NX (n:Nat):qa tys (ia Out (Dm n)) (zF n) n (ba Tryz.f97) 0:=na (fun _=>rfl) _ _ (by kernel_rfl)
theorem C2 (n:Nat):Enters Tryz.prog 97:=enters_of (c:=ba Tryz.f97) Tryz.func97 (by kernel_rfl) (by kernel_rfl)
def WP (n:Nat):Entry:=⟨97,pcT (.pair .str .unit) (.many (.pair .str (.pair .bool .unit))) (fun xs=>gK n xs.1),none,none⟩
theorem E7 (n:Nat):EntryOk Tryz.prog gl (WP n):=wa (C2 n) fun xs y h=>ma tys_ok (qq n) mixed (hint:=zF n) (n:=n) Tryz.func97 (ya (NX n)) (la (φ:=(fun y=>some (Out.ret (Ya (.many (.pair .str (.pair .bool .unit))) y)))) (by kernel_rfl) (Gbb n xs.1 _) h)
def OA (n:Nat):List Entry:=WP n::Dm n
theorem PA (n:Nat):AllOk Tryz.prog gl (OA n):=.cons (E7 n) (qq n)
def Gt (n:Nat) {R:Type} (c c1 c2:Int) (c3:BA) (c4:Bool) (c5:Int) (c6:BA) (c7:Bool) (c8 c9:BA) (c10:Int) (c11:Bool) (l:U9) (r0:(Sq U0)) (r1:(Sq BA)) (k:(T0×BA×Unit)→Option R):Option R:=(gK n l.1).bind fun v=>if v.2.1=true then if (!l.2.1)=true then k ((c,(c1,(c2,((c3,(c4,())),(c5,(c6,(c7,((c8,(c9,())),(r0,(r1,(c10,(c11,())))))))))))),((⟨#[115,101,110,100]⟩:BA),())) else if c11=true then k ((c,(c1,(c2,((c3,(c4,())),(c5,(c6,(c7,((c8,(c9,())),(r0,(r1,(c10,(c11,())))))))))))),((⟨#[]⟩:BA),())) else if l.2.1=false then (Il n v.1).bind fun v1=>if (!v1)=false then if (decide ((IntKind.wrap .i64 ((IntKind.wrap .i64 (c10+(v.1.size:Int)))+(2:Int)))>(8192:Int)))=true then k ((c,(c1,(c2,((c3,(c4,())),(c5,(c6,(c7,((c8,(c9,())),(r0,((⟨0,fun _=>ta .str⟩:Sq BA),((0:Int),(true,())))))))))))),((⟨#[]⟩:BA),())) else if ib (r1.n+1) 16=true then k ((c,(c1,(c2,((c3,(c4,())),(c5,(c6,(c7,((c8,(c9,())),(r0,((⟨(r1.n+1),fun q=>if q<r1.n then r1.at' q else (fun q=>List.getD (α:=BA) [v.1] q (ta .str)) (q - r1.n)⟩:Sq BA),((IntKind.wrap .i64 ((IntKind.wrap .i64 (c10+(v.1.size:Int)))+(2:Int))),(c11,())))))))))))),((⟨#[]⟩:BA),())) else none else k ((c,(c1,(c2,((c3,(c4,())),(c5,(c6,(c7,((c8,(c9,())),(r0,((⟨0,fun _=>ta .str⟩:Sq BA),((0:Int),(true,())))))))))))),((⟨#[]⟩:BA),()))
 else k ((c,(c1,(c2,((c3,(c4,())),(c5,(c6,(c7,((c8,(c9,())),(r0,((⟨0,fun _=>ta .str⟩:Sq BA),((0:Int),(true,())))))))))))),((⟨#[]⟩:BA),())) else if c11=true then k ((c,(c1,(c2,((c3,(c4,())),(c5,(c6,(c7,((c8,(c9,())),(r0,(r1,(c10,(c11,())))))))))))),((⟨#[]⟩:BA),())) else if l.2.1=false then (Il n v.1).bind fun v2=>if (!v2)=false then if (decide ((IntKind.wrap .i64 ((IntKind.wrap .i64 (c10+(v.1.size:Int)))+(2:Int)))>(8192:Int)))=true then k ((c,(c1,(c2,((c3,(c4,())),(c5,(c6,(c7,((c8,(c9,())),(r0,((⟨0,fun _=>ta .str⟩:Sq BA),((0:Int),(true,())))))))))))),((⟨#[]⟩:BA),())) else if ib (r1.n+1) 16=true then k ((c,(c1,(c2,((c3,(c4,())),(c5,(c6,(c7,((c8,(c9,())),(r0,((⟨(r1.n+1),fun q=>if q<r1.n then r1.at' q else (fun q=>List.getD (α:=BA) [v.1] q (ta .str)) (q - r1.n)⟩:Sq BA),((IntKind.wrap .i64 ((IntKind.wrap .i64 (c10+(v.1.size:Int)))+(2:Int))),(c11,())))))))))))),((⟨#[]⟩:BA),())) else none else k ((c,(c1,(c2,((c3,(c4,())),(c5,(c6,(c7,((c8,(c9,())),(r0,((⟨0,fun _=>ta .str⟩:Sq BA),((0:Int),(true,())))))))))))),((⟨#[]⟩:BA),())) else k ((c,(c1,(c2,((c3,(c4,())),(c5,(c6,(c7,((c8,(c9,())),(r0,((⟨0,fun _=>ta .str⟩:Sq BA),((0:Int),(true,())))))))))))),((⟨#[]⟩:BA),()))
def Hl (n:Nat) (c c1 c2:Int) (c3:BA) (c4:Bool) (c5:Int) (c6:BA) (c7:Bool) (c8 c9:BA) (c10:Int) (c11:Bool) (l:U9) (r0:(Sq U0)) (r1:(Sq BA)):Option (T0×BA×Unit):=Gt n c c1 c2 c3 c4 c5 c6 c7 c8 c9 c10 c11 l r0 r1 some
theorem DX (n:Nat) {S:Type}:∀ c c1 c2 c3 c4 c5 c6 c7 c8 c9 c10 c11 l r0 r1 (φ:_→Option S),(Hl n c c1 c2 c3 c4 c5 c6 c7 c8 c9 c10 c11 l r0 r1).bind φ=Gt n c c1 c2 c3 c4 c5 c6 c7 c8 c9 c10 c11 l r0 r1 φ:=by
  intros;unfold Hl Gt;first | (simp only [ja,fa,iB,bB,oL,oX,nB,Option.bind_some]) | rfl
def mv (n:Nat):Hint OutS:={ live:=fun c=>[],run:=fun c=>none,xm:=fun c q=>none,fz:=true }
theorem AN (n:Nat):qa tys (ia OutS (OA n)) (mv n) n (ba Tryz.f68) 0:=na (fun _=>rfl) _ _ (by kernel_rfl)
theorem VQ (n:Nat):Enters Tryz.prog 68:=enters_of (c:=ba Tryz.f68) Tryz.func68 (by kernel_rfl) (by kernel_rfl)
def IA:List RSp:=[.agg [.dat (.int .i64),.dat (.int .i64),.dat (.int .i64),.dat .str,.dat .bool,.dat (.int .i64),.dat .str,.dat .bool,.dat .str,.dat .str,.row 0,.row 1,.dat (.int .i64),.dat .bool],.one (.dat (.pair .str (.pair .bool .unit)))]
def HA:List RS:=[.row 25 2 (.pair .str (.pair .str .unit)) true true,.row 9 1 .str true true]
def WQ:List Sl:=[.top,.top]
def XQ:List RSp:=[.one (.dat K0),.one (.dat .str)]
def oh:List RS:=[]
def Ht (y:(T0×BA×Unit)):OutS:=⟨false,km (cc oh ()) WQ (),OC (Vz (cc oh ()) XQ ((y.1,()),((y.2.1,()),()))),ir (cc oh ()) oh ()⟩
theorem bU (n:Nat):EntryOk Tryz.prog gl ⟨68,vd,none,some (csT IA HA (fun σ ρ=>Hl n σ.1.1 σ.1.2.1 σ.1.2.2.1 σ.1.2.2.2.1 σ.1.2.2.2.2.1 σ.1.2.2.2.2.2.1 σ.1.2.2.2.2.2.2.1 σ.1.2.2.2.2.2.2.2.1 σ.1.2.2.2.2.2.2.2.2.1 σ.1.2.2.2.2.2.2.2.2.2.1 σ.1.2.2.2.2.2.2.2.2.2.2.1 σ.1.2.2.2.2.2.2.2.2.2.2.2.1 σ.2.1.1 ρ.1 ρ.2.1) Ht)⟩:=pd (VQ n) fun σ ρ y h=>Ta tys_ok (PA n) mixed (hint:=mv n) (n:=n) Tryz.func68 (ya (AN n)) (la (φ:=fun y=>some (Ht y)) (by kernel_rfl) (DX n σ.1.1 σ.1.2.1 σ.1.2.2.1 σ.1.2.2.2.1 σ.1.2.2.2.2.1 σ.1.2.2.2.2.2.1 σ.1.2.2.2.2.2.2.1 σ.1.2.2.2.2.2.2.2.1 σ.1.2.2.2.2.2.2.2.2.1 σ.1.2.2.2.2.2.2.2.2.2.1 σ.1.2.2.2.2.2.2.2.2.2.2.1 σ.1.2.2.2.2.2.2.2.2.2.2.2.1 σ.2.1.1 ρ.1 ρ.2.1 _) h)
def qp (n:Nat):List Entry:=⟨68,vd,none,some (csT IA HA (fun σ ρ=>Hl n σ.1.1 σ.1.2.1 σ.1.2.2.1 σ.1.2.2.2.1 σ.1.2.2.2.2.1 σ.1.2.2.2.2.2.1 σ.1.2.2.2.2.2.2.1 σ.1.2.2.2.2.2.2.2.1 σ.1.2.2.2.2.2.2.2.2.1 σ.1.2.2.2.2.2.2.2.2.2.1 σ.1.2.2.2.2.2.2.2.2.2.2.1 σ.1.2.2.2.2.2.2.2.2.2.2.2.1 σ.2.1.1 ρ.1 ρ.2.1) Ht)⟩::OA n
theorem er (n:Nat):AllOk Tryz.prog gl (qp n):=.cons (bU n) (PA n)
def FW (n:Nat) {R:Type} (kind:Int) (k:BA→Option R):Option R:=if 0≤kind∧kind<(10:Int) then k (List.getD (α:=BA) [(⟨#[]⟩:BA),(⟨#[72,69,76,79]⟩:BA),(⟨#[69,72,76,79]⟩:BA),(⟨#[77,65,73,76]⟩:BA),(⟨#[82,67,80,84]⟩:BA),(⟨#[68,65,84,65]⟩:BA),(⟨#[82,83,69,84]⟩:BA),(⟨#[78,79,79,80]⟩:BA),(⟨#[81,85,73,84]⟩:BA),(⟨#[86,82,70,89]⟩:BA)] (Int.toNat kind) (ta .str)) else none
def EW (n:Nat) (kind:Int):Option BA:=FW n kind some
theorem ijb (n:Nat) {S:Type}:∀ kind (φ:_→Option S),(EW n kind).bind φ=FW n kind φ:=by
  intros;unfold EW FW;first | (simp only [ja,fa,iB,bB,oL,oX,nB,Option.bind_some]) | rfl
def EQ (n:Nat):Hint Out:={ live:=fun c=>[],run:=fun c=>none,xm:=fun c q=>none }
theorem mab (n:Nat):qa tys (ia Out (qp n)) (EQ n) n (ba Tryz.f151) 0:=na (fun _=>rfl) _ _ (by kernel_rfl)
theorem fdb (n:Nat):Enters Tryz.prog 151:=enters_of (c:=ba Tryz.f151) Tryz.func151 (by kernel_rfl) (by kernel_rfl)
def PZ (n:Nat):Entry:=⟨151,pcT (.pair (.int .i64) .unit) (.one .str) (fun xs=>EW n xs.1),none,none⟩
theorem Cgb (n:Nat):EntryOk Tryz.prog gl (PZ n):=wa (fdb n) fun xs y h=>ma tys_ok (er n) mixed (hint:=EQ n) (n:=n) Tryz.func151 (ya (mab n)) (la (φ:=(fun y=>some (Out.ret (Ya (.one .str) y)))) (by kernel_rfl) (ijb n xs.1 _) h)
def sw (n:Nat):List Entry:=PZ n::qp n
theorem IM (n:Nat):AllOk Tryz.prog gl (sw n):=.cons (Cgb n) (er n)
def qw (n:Nat) {R:Type} (s1 word1:BA) (t13 t14:Int) (kn:BA→BA→Int→Int→Option R) (ko:(Unit)→Option R) (kr:(Bool)→Option R) (kp:Int→Option R):Option R:=if (decide (t14<t13))=true then if 0≤t14∧t14<(s1.size:Int) then if (decide ((bt s1 t14)≥(97:Int)))=true then if (decide ((bt s1 t14)≤(122:Int)))=true then if 0≤t14∧t14<(word1.size:Int) then if ((IntKind.wrap .u8 ((bt s1 t14) - (32:Int))) !=(bt word1 t14))=true then kr false else kn s1 word1 t13 (IntKind.wrap .i64 (t14+(1:Int))) else none else if 0≤t14∧t14<(word1.size:Int) then if ((bt s1 t14) !=(bt word1 t14))=true then kr false else kn s1 word1 t13 (IntKind.wrap .i64 (t14+(1:Int))) else none else if 0≤t14∧t14<(word1.size:Int) then if ((bt s1 t14) !=(bt word1 t14))=true then kr false else kn s1 word1 t13 (IntKind.wrap .i64 (t14+(1:Int))) else none else none else ko ()
def ng (n:Nat):Nat→BA→BA→Int→Int→Option (Lx (Unit) (Bool))
 | 0,_,_,_,_=>none
 | m+1,s1,word1,t13,t14=>qw n s1 word1 t13 t14 (ng n m) (fun a=>some (.out a)) (fun a=>some (.ret a)) (fun p=>some (.pan p))
theorem ddb (n m:Nat) {S:Type}:∀ s1 word1 t13 t14 (φ:_→Option S),(ng n (m+1) s1 word1 t13 t14).bind φ=qw n s1 word1 t13 t14 (fun s1 word1 t13 t14=>(ng n m s1 word1 t13 t14).bind φ) (fun a=>φ (.out a)) (fun a=>φ (.ret a)) (fun p=>φ (.pan p)):=by
  intros;first | (simp only [ng,qw,ja,fa,iB,bB,oL,oX,nB,Option.bind_some]) | rfl
def VC:List Sl:=.dat .str::.dat .str::tp 11 (.dat (.int .i64)::.dat (.int .i64)::tp 19 [])
def UC:List RS:=[]
def gS:List Sl:=tp 34 []
def fS:List RS:=[]
def jS:List Sl:=tp 4 (.dat .bool::tp 29 [])
def iS:List RS:=[]
def Sh (K:XE→List AV→oa→Option Out):Lx (Unit) (Bool)→Option Out:=fun x=>onL x (fun a=>yb gS fS () () (K (.exit 0))) (fun a=>yb jS iS (a,()) () (K .ret)) (fun _=>none)
def aT (n:Nat) {R:Type} (s word:BA) (k:Bool→Option R):Option R:=if ((s.size:Int) !=(word.size:Int))=true then k false else (ng n n s word (s.size:Int) (0:Int)).bind fun x_1=>onL x_1 (fun a_2=>k true) (fun a_3=>k a_3) (fun _=>none)
def AW (n:Nat) (s word:BA):Option Bool:=aT n s word some
theorem ilb (n:Nat) {S:Type}:∀ s word (φ:_→Option S),(AW n s word).bind φ=aT n s word φ:=by
  intros;unfold AW aT;first | (simp only [ja,fa,iB,bB,oL,oX,nB,Option.bind_some]) | rfl
def jy (n:Nat):Hint Out:={ live:=fun c=>(cond (Nat.beq c 0) (lv [0,1,13,14]) []),run:=fun c=>(cond (Nat.beq c 0) (some (ef VC UC fun σ ρ K=>(ng n n σ.1 σ.2.1 σ.2.2.1 σ.2.2.2.1).bind (Sh K))) none),xm:=fun c q=>(cond (Nat.beq c 0&&Nat.beq (q.getD 1000000) 0&&q.isSome) (some []) (cond (Nat.beq c 1&&q.isNone) (some [(4,none)]) none)) }
def iy (n:Nat) (K:XE→List AV→oa→Option Out) (m:Nat) (s1:BA) (word1:BA) (t13:Int) (t14:Int):Option Out:=Kb tys (ia Out (sw n)) (jy n) n (ra [1,1,0,1,0,0] (ba Tryz.f150)) 0 VC UC K m (s1,(word1,(t13,(t14,())))) ()
theorem BW (n:Nat) (K:XE→List AV→oa→Option Out):∀ (m:Nat) s1 word1 t13 t14,iy n K m s1 word1 t13 t14=(ng n m s1 word1 t13 t14).bind (Sh K)
  | 0,_,_,_,_=>by kernel_rfl
  | m+1,s1,word1,t13,t14=>by
    have h1:iy n K (m+1) s1 word1 t13 t14=qw n s1 word1 t13 t14 (iy n K m) (fun a=>Sh K (.out a)) (fun a=>Sh K (.ret a)) (fun p=>Sh K (.pan p)):=by kernel_rfl
    have h2:iy n K m=fun s1 word1 t13 t14=>(ng n m s1 word1 t13 t14).bind (Sh K):=by
      repeat (refine funext fun _=>?_)
      exact BW n K m _ _ _ _
    rw [h1,h2];exact (ddb n m _ _ _ _ (Sh K)).symm
theorem jab (n:Nat):ub tys (ia Out (sw n)) (jy n) n (ra [1,1,0,1,0,0] (ba Tryz.f150)) 0:=Aa (sp:=VC) (rp:=UC) (by kernel_rfl) fun K σ ρ=>BW n K n σ.1 σ.2.1 σ.2.2.1 σ.2.2.2.1
theorem edb (n:Nat):qa tys (ia Out (sw n)) (jy n) n (ba Tryz.f150) 0:=⟨aa,⟨⟨aa,⟨⟨aa,aa⟩,aa⟩⟩,⟨⟨aa,⟨jab n,⟨aa,⟨⟨aa,aa⟩,⟨⟨aa,⟨aa,⟨⟨aa,⟨aa,aa⟩⟩,⟨aa,⟨⟨aa,aa⟩,aa⟩⟩⟩⟩⟩,aa⟩⟩⟩⟩⟩,⟨aa,aa⟩⟩⟩⟩
theorem Agb (n:Nat):Enters Tryz.prog 150:=enters_of (c:=ba Tryz.f150) Tryz.func150 (by kernel_rfl) (by kernel_rfl)
def kab (n:Nat):Entry:=⟨150,pcT (.pair .str (.pair .str .unit)) (.one .bool) (fun xs=>AW n xs.1 xs.2.1),none,none⟩
theorem gjb (n:Nat):EntryOk Tryz.prog gl (kab n):=wa (Agb n) fun xs y h=>ma tys_ok (IM n) mixed (hint:=jy n) (n:=n) Tryz.func150 (ya (edb n)) (la (φ:=(fun y=>some (Out.ret (Ya (.one .bool) y)))) (by kernel_rfl) (ilb n xs.1 xs.2.1 _) h)
def WC (n:Nat):List Entry:=kab n::sw n
theorem DQ (n:Nat):AllOk Tryz.prog gl (WC n):=.cons (gjb n) (IM n)
def pw (n:Nat) {R:Type} (s1:BA) (k0:Int) (kn:BA→Int→Option R) (ko:(Unit)→Option R) (kr:(Int)→Option R) (kp:Int→Option R):Option R:=if (decide (k0≤(9:Int)))=true then (EW n k0).bind fun v=>(AW n s1 v).bind fun v1=>if v1=true then kr k0 else kn s1 (IntKind.wrap .i64 (k0+(1:Int))) else ko ()
def Fc (n:Nat):Nat→BA→Int→Option (Lx (Unit) (Int))
 | 0,_,_=>none
 | m+1,s1,k0=>pw n s1 k0 (Fc n m) (fun a=>some (.out a)) (fun a=>some (.ret a)) (fun p=>some (.pan p))
theorem bdb (n m:Nat) {S:Type}:∀ s1 k0 (φ:_→Option S),(Fc n (m+1) s1 k0).bind φ=pw n s1 k0 (fun s1 k0=>(Fc n m s1 k0).bind φ) (fun a=>φ (.out a)) (fun a=>φ (.ret a)) (fun p=>φ (.pan p)):=by
  intros;first | (simp only [Fc,pw,ja,fa,iB,bB,oL,oX,nB,Option.bind_some]) | rfl
def SC:List Sl:=.dat .str::.top::.top::.dat (.int .i64)::tp 9 []
def RC:List RS:=[]
def aS:List Sl:=tp 13 []
def ZR:List RS:=[]
def dS:List Sl:=.top::.top::.dat (.int .i64)::tp 10 []
def cS:List RS:=[]
def Rh (K:XE→List AV→oa→Option Out):Lx (Unit) (Int)→Option Out:=fun x=>onL x (fun a=>yb aS ZR () () (K (.exit 0))) (fun a=>yb dS cS (a,()) () (K .ret)) (fun _=>none)
def ZS (n:Nat) {R:Type} (s:BA) (k:Int→Option R):Option R:=(Fc n n s (1:Int)).bind fun x_1=>onL x_1 (fun a_2=>k (0:Int)) (fun a_3=>k a_3) (fun _=>none)
def uG (n:Nat) (s:BA):Option Int:=ZS n s some
theorem glb (n:Nat) {S:Type}:∀ s (φ:_→Option S),(uG n s).bind φ=ZS n s φ:=by
  intros;unfold uG ZS;first | (simp only [ja,fa,iB,bB,oL,oX,nB,Option.bind_some]) | rfl
def gy (n:Nat):Hint Out:={ live:=fun c=>(cond (Nat.beq c 0) [(0,none),(3,none)] []),run:=fun c=>(cond (Nat.beq c 0) (some (ef SC RC fun σ ρ K=>(Fc n n σ.1 σ.2.1).bind (Rh K))) none),xm:=fun c q=>(cond (Nat.beq c 0&&Nat.beq (q.getD 1000000) 0&&q.isSome) (some []) (cond (Nat.beq c 1&&q.isNone) (some [(2,none)]) none)) }
def fy (n:Nat) (K:XE→List AV→oa→Option Out) (m:Nat) (s1:BA) (k0:Int):Option Out:=Kb tys (ia Out (WC n)) (gy n) n (ra [1,0,1,0,0] (ba Tryz.f129)) 0 SC RC K m (s1,(k0,())) ()
theorem yW (n:Nat) (K:XE→List AV→oa→Option Out):∀ (m:Nat) s1 k0,fy n K m s1 k0=(Fc n m s1 k0).bind (Rh K)
  | 0,_,_=>by kernel_rfl
  | m+1,s1,k0=>by
    have h1:fy n K (m+1) s1 k0=pw n s1 k0 (fy n K m) (fun a=>Rh K (.out a)) (fun a=>Rh K (.ret a)) (fun p=>Rh K (.pan p)):=by kernel_rfl
    have h2:fy n K m=fun s1 k0=>(Fc n m s1 k0).bind (Rh K):=by
      repeat (refine funext fun _=>?_)
      exact yW n K m _ _
    rw [h1,h2];exact (bdb n m _ _ (Rh K)).symm
theorem hab (n:Nat):ub tys (ia Out (WC n)) (gy n) n (ra [1,0,1,0,0] (ba Tryz.f129)) 0:=Aa (sp:=SC) (rp:=RC) (by kernel_rfl) fun K σ ρ=>yW n K n σ.1 σ.2.1
theorem cdb (n:Nat):qa tys (ia Out (WC n)) (gy n) n (ba Tryz.f129) 0:=⟨aa,⟨⟨aa,⟨hab n,⟨⟨aa,⟨aa,aa⟩⟩,⟨⟨aa,⟨⟨aa,aa⟩,aa⟩⟩,aa⟩⟩⟩⟩,⟨aa,aa⟩⟩⟩
theorem zgb (n:Nat):Enters Tryz.prog 129:=enters_of (c:=ba Tryz.f129) Tryz.func129 (by kernel_rfl) (by kernel_rfl)
def iab (n:Nat):Entry:=⟨129,pcT (.pair .str .unit) (.one (.int .i64)) (fun xs=>uG n xs.1),none,none⟩
theorem fjb (n:Nat):EntryOk Tryz.prog gl (iab n):=wa (zgb n) fun xs y h=>ma tys_ok (DQ n) mixed (hint:=gy n) (n:=n) Tryz.func129 (ya (cdb n)) (la (φ:=(fun y=>some (Out.ret (Ya (.one (.int .i64)) y)))) (by kernel_rfl) (glb n xs.1 _) h)
def zW (n:Nat):List Entry:=iab n::WC n
theorem TC (n:Nat):AllOk Tryz.prog gl (zW n):=.cons (fjb n) (DQ n)
def bT (n:Nat) {R:Type} (ok:Bool) (e:Int) (k:(Unit)→Option R) (kp:Int→Option R):Option R:=if (!ok)=true then kp e else k ()
def Ea (n:Nat) (ok:Bool) (e:Int):Option (Except Int (Unit)):=bT n ok e (fun y=>some (.ok y)) (fun p=>some (.error p))
theorem Ceb (n:Nat) {S:Type}:∀ ok e (φ:_→Option S),(Ea n ok e).bind φ=bT n ok e (fun y=>φ (.ok y)) (fun p=>φ (.error p)):=by
  intros;unfold Ea bT;first | (simp only [ja,fa,iB,bB,oL,oX,nB,Option.bind_some]) | rfl
def UI (n:Nat):Hint Out:={ live:=fun c=>[],run:=fun c=>none,xm:=fun c q=>none }
theorem DW (n:Nat):qa tys (ia Out (zW n)) (UI n) n (ba Tryz.f128) 0:=na (fun _=>rfl) _ _ (by kernel_rfl)
theorem Bgb (n:Nat):Enters Tryz.prog 128:=enters_of (c:=ba Tryz.f128) Tryz.func128 (by kernel_rfl) (by kernel_rfl)
def lab (n:Nat):Entry:=⟨128,pcX 144 (.pair .bool (.pair (.int .i64) .unit)) (.many .unit) (fun xs=>Ea n xs.1 xs.2.1),none,none⟩
theorem hjb (n:Nat):EntryOk Tryz.prog gl (lab n):=wK (Bgb n) (fun xs y h=>ma tys_ok (TC n) mixed (hint:=UI n) (n:=n) Tryz.func128 (ya (DW n)) (la (φ:=(fun r=>onX r (fun p=>some (Out.pan (Pg 144 p))) fun y=>some (Out.ret (Ya (.many .unit) y)))) (by kernel_rfl) (Ceb n xs.1 xs.2.1 _) h)) (fun xs p h=>ma tys_ok (TC n) mixed (hint:=UI n) (n:=n) Tryz.func128 (ya (DW n)) (la (φ:=(fun r=>onX r (fun p=>some (Out.pan (Pg 144 p))) fun y=>some (Out.ret (Ya (.many .unit) y)))) (by kernel_rfl) (Ceb n xs.1 xs.2.1 _) h))
def CW (n:Nat):List Entry:=lab n::zW n
theorem XC (n:Nat):AllOk Tryz.prog gl (CW n):=.cons (hjb n) (TC n)
def GM (n:Nat) {R:Type} (s word:BA) (k:BA→Option R) (kp:Int→Option R):Option R:=if (decide ((s.size:Int)≥(word.size:Int)))=true then if 0≤(word.size:Int)∧(word.size:Int)≤(s.size:Int) then (AW n (s.extract (Int.toNat (0:Int)) (Int.toNat (word.size:Int))) word).bind fun v=>(Ea n v (8:Int)).bind fun x_1=>onX x_1 (fun p=>kp p) (fun v1=>if 0≤(word.size:Int)∧(word.size:Int)≤(s.size:Int) then k (s.extract (Int.toNat (word.size:Int)) (Int.toNat (s.size:Int))) else none) else none else (Ea n false (8:Int)).bind fun x_2=>onX x_2 (fun p1=>kp p1) (fun v2=>if 0≤(word.size:Int)∧(word.size:Int)≤(s.size:Int) then k (s.extract (Int.toNat (word.size:Int)) (Int.toNat (s.size:Int))) else none)
def Xg (n:Nat) (s word:BA):Option (Except Int BA):=GM n s word (fun y=>some (.ok y)) (fun p=>some (.error p))
theorem gab (n:Nat) {S:Type}:∀ s word (φ:_→Option S),(Xg n s word).bind φ=GM n s word (fun y=>φ (.ok y)) (fun p=>φ (.error p)):=by
  intros;unfold Xg GM;first | (simp only [ja,fa,iB,bB,oL,oX,nB,Option.bind_some]) | rfl
def QC (n:Nat):Hint Out:={ live:=fun c=>[],run:=fun c=>none,xm:=fun c q=>none }
theorem CQ (n:Nat):qa tys (ia Out (CW n)) (QC n) n (ba Tryz.f131) 0:=na (fun _=>rfl) _ _ (by kernel_rfl)
theorem adb (n:Nat):Enters Tryz.prog 131:=enters_of (c:=ba Tryz.f131) Tryz.func131 (by kernel_rfl) (by kernel_rfl)
def OZ (n:Nat):Entry:=⟨131,pcX 144 (.pair .str (.pair .str .unit)) (.one .str) (fun xs=>Xg n xs.1 xs.2.1),none,none⟩
theorem ygb (n:Nat):EntryOk Tryz.prog gl (OZ n):=wK (adb n) (fun xs y h=>ma tys_ok (XC n) mixed (hint:=QC n) (n:=n) Tryz.func131 (ya (CQ n)) (la (φ:=(fun r=>onX r (fun p=>some (Out.pan (Pg 144 p))) fun y=>some (Out.ret (Ya (.one .str) y)))) (by kernel_rfl) (gab n xs.1 xs.2.1 _) h)) (fun xs p h=>ma tys_ok (XC n) mixed (hint:=QC n) (n:=n) Tryz.func131 (ya (CQ n)) (la (φ:=(fun r=>onX r (fun p=>some (Out.pan (Pg 144 p))) fun y=>some (Out.ret (Ya (.one .str) y)))) (by kernel_rfl) (gab n xs.1 xs.2.1 _) h))
def ow (n:Nat):List Entry:=OZ n::CW n
theorem HM (n:Nat):AllOk Tryz.prog gl (ow n):=.cons (ygb n) (XC n)
def Ka (n:Nat) {R:Type} (s1:BA) (c1 i:Int) (kn:BA→Int→Int→Option R) (ko:(Unit)→Option R) (kr:(Int)→Option R) (kp:Int→Option R):Option R:=if (decide (i≥(0:Int)))=true then if 0≤i∧i<(s1.size:Int) then if ((bt s1 i)==c1)=true then kr i else kn s1 c1 (IntKind.wrap .i64 (i - (1:Int))) else none else ko ()
def Ba (n:Nat):Nat→BA→Int→Int→Option (Lx (Unit) (Int))
 | 0,_,_,_=>none
 | m+1,s1,c1,i=>Ka n s1 c1 i (Ba n m) (fun a=>some (.out a)) (fun a=>some (.ret a)) (fun p=>some (.pan p))
theorem zp (n m:Nat) {S:Type}:∀ s1 c1 i (φ:_→Option S),(Ba n (m+1) s1 c1 i).bind φ=Ka n s1 c1 i (fun s1 c1 i=>(Ba n m s1 c1 i).bind φ) (fun a=>φ (.out a)) (fun a=>φ (.ret a)) (fun p=>φ (.pan p)):=by
  intros;first | (simp only [Ba,Ka,ja,fa,iB,bB,oL,oX,nB,Option.bind_some]) | rfl
def Hc:List Sl:=.dat .str::.dat (.int .u8)::.top::.top::.top::.dat (.int .i64)::tp 13 []
def Gc:List RS:=[]
def Ej:List Sl:=tp 19 []
def Dj:List RS:=[]
def Gj:List Sl:=tp 4 (.dat (.int .i64)::tp 14 [])
def Fj:List RS:=[]
def Ga (K:XE→List AV→oa→Option Out):Lx (Unit) (Int)→Option Out:=fun x=>onL x (fun a=>yb Ej Dj () () (K (.exit 0))) (fun a=>yb Gj Fj (a,()) () (K .ret)) (fun _=>none)
def qc (n:Nat) {R:Type} (s:BA) (c:Int) (k:Int→Option R):Option R:=(Ba n n s c (IntKind.wrap .i64 ((s.size:Int) - (1:Int)))).bind fun x_1=>onL x_1 (fun a_2=>k (-1:Int)) (fun a_3=>k a_3) (fun _=>none)
def Qb (n:Nat) (s:BA) (c:Int):Option Int:=qc n s c some
theorem sv (n:Nat) {S:Type}:∀ s c (φ:_→Option S),(Qb n s c).bind φ=qc n s c φ:=by
  intros;unfold Qb qc;first | (simp only [ja,fa,iB,bB,oL,oX,nB,Option.bind_some]) | rfl
def Cb (n:Nat):Hint Out:={ live:=fun c=>(cond (Nat.beq c 0) (lv [0,1,5]) []),run:=fun c=>(cond (Nat.beq c 0) (some (ef Hc Gc fun σ ρ K=>(Ba n n σ.1 σ.2.1 σ.2.2.1).bind (Ga K))) none),xm:=fun c q=>(cond (Nat.beq c 0&&Nat.beq (q.getD 1000000) 0&&q.isSome) (some []) (cond (Nat.beq c 1&&q.isNone) (some [(4,none)]) none)) }
def Bb (n:Nat) (K:XE→List AV→oa→Option Out) (m:Nat) (s1:BA) (c1:Int) (i:Int):Option Out:=Kb tys (ia Out (ow n)) (Cb n) n (ra [1,0,1,0,0] (ba Tryz.f175)) 0 Hc Gc K m (s1,(c1,(i,()))) ()
theorem Mf (n:Nat) (K:XE→List AV→oa→Option Out):∀ (m:Nat) s1 c1 i,Bb n K m s1 c1 i=(Ba n m s1 c1 i).bind (Ga K)
  | 0,_,_,_=>by kernel_rfl
  | m+1,s1,c1,i=>by
    have h1:Bb n K (m+1) s1 c1 i=Ka n s1 c1 i (Bb n K m) (fun a=>Ga K (.out a)) (fun a=>Ga K (.ret a)) (fun p=>Ga K (.pan p)):=by kernel_rfl
    have h2:Bb n K m=fun s1 c1 i=>(Ba n m s1 c1 i).bind (Ga K):=by
      repeat (refine funext fun _=>?_)
      exact Mf n K m _ _ _
    rw [h1,h2];exact (zp n m _ _ _ (Ga K)).symm
theorem Nn (n:Nat):ub tys (ia Out (ow n)) (Cb n) n (ra [1,0,1,0,0] (ba Tryz.f175)) 0:=Aa (sp:=Hc) (rp:=Gc) (by kernel_rfl) fun K σ ρ=>Mf n K n σ.1 σ.2.1 σ.2.2.1
theorem Ap (n:Nat):qa tys (ia Out (ow n)) (Cb n) n (ba Tryz.f175) 0:=⟨aa,⟨⟨aa,⟨Nn n,⟨⟨aa,⟨aa,aa⟩⟩,⟨⟨aa,⟨⟨aa,aa⟩,aa⟩⟩,aa⟩⟩⟩⟩,⟨aa,aa⟩⟩⟩
theorem Nq (n:Nat):Enters Tryz.prog 175:=enters_of (c:=ba Tryz.f175) Tryz.func175 (by kernel_rfl) (by kernel_rfl)
def dh (n:Nat):Entry:=⟨175,pcT (.pair .str (.pair (.int .u8) .unit)) (.one (.int .i64)) (fun xs=>Qb n xs.1 xs.2.1),none,none⟩
theorem It (n:Nat):EntryOk Tryz.prog gl (dh n):=wa (Nq n) fun xs y h=>ma tys_ok (HM n) mixed (hint:=Cb n) (n:=n) Tryz.func175 (ya (Ap n)) (la (φ:=(fun y=>some (Out.ret (Ya (.one (.int .i64)) y)))) (by kernel_rfl) (sv n xs.1 xs.2.1 _) h)
def Kd (n:Nat):List Entry:=dh n::ow n
theorem uf (n:Nat):AllOk Tryz.prog gl (Kd n):=.cons (It n) (HM n)
def xf (n:Nat) {R:Type} (s:BA) (c:Int) (k:Int→Option R):Option R:=(Qb n s c).bind fun v=>k v
def td (n:Nat) (s:BA) (c:Int):Option Int:=xf n s c some
theorem zM (n:Nat) {S:Type}:∀ s c (φ:_→Option S),(td n s c).bind φ=xf n s c φ:=by
  intros;unfold td xf;first | (simp only [ja,fa,iB,bB,oL,oX,nB,Option.bind_some]) | rfl
def Yl (n:Nat):Hint Out:={ live:=fun c=>[],run:=fun c=>none,xm:=fun c q=>none }
theorem KC (n:Nat):qa tys (ia Out (Kd n)) (Yl n) n (ba Tryz.f152) 0:=na (fun _=>rfl) _ _ (by kernel_rfl)
theorem ZE (n:Nat):Enters Tryz.prog 152:=enters_of (c:=ba Tryz.f152) Tryz.func152 (by kernel_rfl) (by kernel_rfl)
def pq (n:Nat):Entry:=⟨152,pcT (.pair .str (.pair (.int .u8) .unit)) (.one (.int .i64)) (fun xs=>td n xs.1 xs.2.1),none,none⟩
theorem SI (n:Nat):EntryOk Tryz.prog gl (pq n):=wa (ZE n) fun xs y h=>ma tys_ok (uf n) mixed (hint:=Yl n) (n:=n) Tryz.func152 (ya (KC n)) (la (φ:=(fun y=>some (Out.ret (Ya (.one (.int .i64)) y)))) (by kernel_rfl) (zM n xs.1 xs.2.1 _) h)
def Qh (n:Nat):List Entry:=pq n::Kd n
theorem Nj (n:Nat):AllOk Tryz.prog gl (Qh n):=.cons (SI n) (uf n)
def oJ (n:Nat) {R:Type} (s:BA) (k:(U0×Bool×Int×Unit)→Option R):Option R:=if (s.toList==(⟨#[60,62]⟩:BA).toList)=true then k (((⟨#[]⟩:BA),((⟨#[]⟩:BA),())),(true,((0:Int),()))) else if (decide ((s.size:Int)<(2:Int)))=false then if 0≤(0:Int)∧(0:Int)<(s.size:Int) then if ((bt s (0:Int)) !=(60:Int))=false then if 0≤(IntKind.wrap .i64 ((s.size:Int) - (1:Int)))∧(IntKind.wrap .i64 ((s.size:Int) - (1:Int)))<(s.size:Int) then if ((bt s (IntKind.wrap .i64 ((s.size:Int) - (1:Int)))) !=(62:Int))=true then k (((⟨#[]⟩:BA),((⟨#[]⟩:BA),())),(false,((8:Int),()))) else if 0≤(IntKind.wrap .i64 ((s.size:Int) - (1:Int)))∧(IntKind.wrap .i64 ((s.size:Int) - (1:Int)))≤(s.size:Int) then if 0≤(1:Int)∧(1:Int)≤(IntKind.wrap .i64 ((s.size:Int) - (1:Int))) then (tn n (s.extract (Int.toNat (1:Int)) (Int.toNat (IntKind.wrap .i64 ((s.size:Int) - (1:Int)))))).bind fun v=>k ((v.1.1,(v.1.2.1,())),(false,(v.2.1,()))) else none else none else none else k (((⟨#[]⟩:BA),((⟨#[]⟩:BA),())),(false,((8:Int),()))) else none else k (((⟨#[]⟩:BA),((⟨#[]⟩:BA),())),(false,((8:Int),())))
def BG (n:Nat) (s:BA):Option (U0×Bool×Int×Unit):=oJ n s some
theorem Xgb (n:Nat) {S:Type}:∀ s (φ:_→Option S),(BG n s).bind φ=oJ n s φ:=by
  intros;unfold BG oJ;first | (simp only [ja,fa,iB,bB,oL,oX,nB,Option.bind_some]) | rfl
def AP (n:Nat):Hint Out:={ live:=fun c=>[],run:=fun c=>none,xm:=fun c q=>none }
theorem y6 (n:Nat):qa tys (ia Out (Qh n)) (AP n) n (ba Tryz.f153) 0:=na (fun _=>rfl) _ _ (by kernel_rfl)
theorem Uab (n:Nat):Enters Tryz.prog 153:=enters_of (c:=ba Tryz.f153) Tryz.func153 (by kernel_rfl) (by kernel_rfl)
def YY (n:Nat):Entry:=⟨153,pcT (.pair .str .unit) (.many K8) (fun xs=>BG n xs.1),none,none⟩
theorem Teb (n:Nat):EntryOk Tryz.prog gl (YY n):=wa (Uab n) fun xs y h=>ma tys_ok (Nj n) mixed (hint:=AP n) (n:=n) Tryz.func153 (ya (y6 n)) (la (φ:=(fun y=>some (Out.ret (Ya (.many K8) y)))) (by kernel_rfl) (Xgb n xs.1 _) h)
def nN (n:Nat):List Entry:=YY n::Qh n
theorem Mw (n:Nat):AllOk Tryz.prog gl (nN n):=.cons (Teb n) (Nj n)
def dT (n:Nat) {R:Type} (s:BA) (k:(U0×Bool×BA×Unit)→Option R) (kp:Int→Option R):Option R:=(Da n s (⟨#[32]⟩:BA)).bind fun v=>(td n v (62:Int)).bind fun v1=>(Ea n (decide (v1≥(0:Int))) (8:Int)).bind fun x_1=>onX x_1 (fun p=>kp p) (fun v2=>if 0≤(IntKind.wrap .i64 (v1+(1:Int)))∧(IntKind.wrap .i64 (v1+(1:Int)))≤(v.size:Int) then (BG n (v.extract (Int.toNat (0:Int)) (Int.toNat (IntKind.wrap .i64 (v1+(1:Int)))))).bind fun v3=>(Ea n (v3.2.2.1==(0:Int)) v3.2.2.1).bind fun x_2=>onX x_2 (fun p1=>kp p1) (fun v4=>if 0≤(IntKind.wrap .i64 (v1+(1:Int)))∧(IntKind.wrap .i64 (v1+(1:Int)))≤(v.size:Int) then k ((v3.1.1,(v3.1.2.1,())),(v3.2.1,((v.extract (Int.toNat (IntKind.wrap .i64 (v1+(1:Int)))) (Int.toNat (v.size:Int))),()))) else none) else none)
def Zm (n:Nat) (s:BA):Option (Except Int (U0×Bool×BA×Unit)):=dT n s (fun y=>some (.ok y)) (fun p=>some (.error p))
theorem Deb (n:Nat) {S:Type}:∀ s (φ:_→Option S),(Zm n s).bind φ=dT n s (fun y=>φ (.ok y)) (fun p=>φ (.error p)):=by
  intros;unfold Zm dT;first | (simp only [ja,fa,iB,bB,oL,oX,nB,Option.bind_some]) | rfl
def VI (n:Nat):Hint Out:={ live:=fun c=>[],run:=fun c=>none,xm:=fun c q=>none,sch:=fun c=>(cond (Nat.beq c 6) (some [(1,0),(2,0),(3,0),(4,0),(5,0),(0,1),(6,2),(7,0),(8,0)]) none) }
theorem IW (n:Nat):qa tys (ia Out (nN n)) (VI n) n (ba Tryz.f130) 0:=na (fun _=>rfl) _ _ (by kernel_rfl)
theorem Egb (n:Nat):Enters Tryz.prog 130:=enters_of (c:=ba Tryz.f130) Tryz.func130 (by kernel_rfl) (by kernel_rfl)
def pab (n:Nat):Entry:=⟨130,pcX 144 (.pair .str .unit) (.many K9) (fun xs=>Zm n xs.1),none,none⟩
theorem kjb (n:Nat):EntryOk Tryz.prog gl (pab n):=wK (Egb n) (fun xs y h=>ma tys_ok (Mw n) mixed (hint:=VI n) (n:=n) Tryz.func130 (ya (IW n)) (la (φ:=(fun r=>onX r (fun p=>some (Out.pan (Pg 144 p))) fun y=>some (Out.ret (Ya (.many K9) y)))) (by kernel_rfl) (Deb n xs.1 _) h)) (fun xs p h=>ma tys_ok (Mw n) mixed (hint:=VI n) (n:=n) Tryz.func130 (ya (IW n)) (la (φ:=(fun r=>onX r (fun p=>some (Out.pan (Pg 144 p))) fun y=>some (Out.ret (Ya (.many K9) y)))) (by kernel_rfl) (Deb n xs.1 _) h))
def YC (n:Nat):List Entry:=pab n::nN n
theorem ZC (n:Nat):AllOk Tryz.prog gl (YC n):=.cons (kjb n) (Mw n)
def sq (n:Nat) {R:Type} (s1:BA) (n0 t19 t20:Int) (kn:BA→Int→Int→Int→Option R) (ko:(Int)→Option R) (kr:Unit→Option R) (kp:Int→Option R):Option R:=if (decide (t20<t19))=true then if 0≤t20∧t20<(s1.size:Int) then if (decide ((bt s1 t20)≥(48:Int)))=true then if 0≤t20∧t20<(s1.size:Int) then (Ea n (decide ((bt s1 t20)≤(57:Int))) (8:Int)).bind fun x_1=>onX x_1 (fun p2=>kp p2) (fun v2=>if 0≤t20∧t20<(s1.size:Int) then kn s1 (IntKind.wrap .i64 ((IntKind.wrap .i64 ((10:Int)*n0))+(IntKind.wrap .i64 (IntKind.wrap .u8 ((bt s1 t20) - (48:Int)))))) t19 (IntKind.wrap .i64 (t20+(1:Int))) else none) else none else (Ea n false (8:Int)).bind fun x_2=>onX x_2 (fun p3=>kp p3) (fun v3=>if 0≤t20∧t20<(s1.size:Int) then kn s1 (IntKind.wrap .i64 ((IntKind.wrap .i64 ((10:Int)*n0))+(IntKind.wrap .i64 (IntKind.wrap .u8 ((bt s1 t20) - (48:Int)))))) t19 (IntKind.wrap .i64 (t20+(1:Int))) else none) else none else ko n0
def je (n:Nat):Nat→BA→Int→Int→Int→Option (Lx (Int) Unit)
 | 0,_,_,_,_=>none
 | m+1,s1,n0,t19,t20=>sq n s1 n0 t19 t20 (je n m) (fun a=>some (.out a)) (fun a=>some (.ret a)) (fun p=>some (.pan p))
theorem hdb (n m:Nat) {S:Type}:∀ s1 n0 t19 t20 (φ:_→Option S),(je n (m+1) s1 n0 t19 t20).bind φ=sq n s1 n0 t19 t20 (fun s1 n0 t19 t20=>(je n m s1 n0 t19 t20).bind φ) (fun a=>φ (.out a)) (fun a=>φ (.ret a)) (fun p=>φ (.pan p)):=by
  intros;first | (simp only [je,sq,ja,fa,iB,bB,oL,oX,nB,Option.bind_some]) | rfl
def bD:List Sl:=.dat .str::.top::.top::.dat (.int .i64)::tp 15 (.dat (.int .i64)::.dat (.int .i64)::tp 26 [])
def aD:List RS:=[]
def lS:List Sl:=.top::.top::.top::.dat (.int .i64)::tp 43 []
def kS:List RS:=[]
def Th (K:XE→List AV→oa→Option Out):Lx (Int) Unit→Option Out:=fun x=>onL x (fun a=>yb lS kS (a,()) () (K (.exit 0))) (fun _=>none) (fun p=>K (.panic (Pg 144 p)) (List.replicate 47 .top) [])
def fT (n:Nat) {R:Type} (s:BA) (k:Int→Option R) (kp:Int→Option R):Option R:=if (s.toList==(⟨#[]⟩:BA).toList)=true then k (-1:Int) else (Xg n s (⟨#[32,83,73,90,69,61]⟩:BA)).bind fun x_1=>onX x_1 (fun p=>kp p) (fun v=>if (decide ((v.size:Int)≥(1:Int)))=true then (Ea n (decide ((v.size:Int)≤(10:Int))) (8:Int)).bind fun x_2=>onX x_2 (fun p1=>kp p1) (fun v1=>(je n n v (0:Int) (v.size:Int) (0:Int)).bind fun x_3=>onL x_3 (fun a_4=>(Ea n (decide (a_4≤(1073741824:Int))) (8:Int)).bind fun x_5=>onX x_5 (fun p4=>kp p4) (fun v4=>k a_4)) (fun _=>none) (fun p5=>kp p5)) else (Ea n false (8:Int)).bind fun x_6=>onX x_6 (fun p6=>kp p6) (fun v5=>(je n n v (0:Int) (v.size:Int) (0:Int)).bind fun x_7=>onL x_7 (fun a_8=>(Ea n (decide (a_8≤(1073741824:Int))) (8:Int)).bind fun x_9=>onX x_9 (fun p7=>kp p7) (fun v6=>k a_8)) (fun _=>none) (fun p8=>kp p8)))
def vG (n:Nat) (s:BA):Option (Except Int Int):=fT n s (fun y=>some (.ok y)) (fun p=>some (.error p))
theorem Feb (n:Nat) {S:Type}:∀ s (φ:_→Option S),(vG n s).bind φ=fT n s (fun y=>φ (.ok y)) (fun p=>φ (.error p)):=by
  intros;unfold vG fT;first | (simp only [ja,fa,iB,bB,oL,oX,nB,Option.bind_some]) | rfl
def tq (n:Nat):Hint Out:={ live:=fun c=>(cond (Nat.beq c 0) (lv [0,3,19,20]) []),run:=fun c=>(cond (Nat.beq c 0) (some (ef bD aD fun σ ρ K=>(je n n σ.1 σ.2.1 σ.2.2.1 σ.2.2.2.1).bind (Th K))) none),xm:=fun c q=>(cond (Nat.beq c 0&&Nat.beq (q.getD 1000000) 0&&q.isSome) (some [(3,none)]) none) }
def ky (n:Nat) (K:XE→List AV→oa→Option Out) (m:Nat) (s1:BA) (n0:Int) (t19:Int) (t20:Int):Option Out:=Kb tys (ia Out (YC n)) (tq n) n (ra [1,1,1,1,1,0,1,0,0] (ba Tryz.f132)) 0 bD aD K m (s1,(n0,(t19,(t20,())))) ()
theorem KW (n:Nat) (K:XE→List AV→oa→Option Out):∀ (m:Nat) s1 n0 t19 t20,ky n K m s1 n0 t19 t20=(je n m s1 n0 t19 t20).bind (Th K)
  | 0,_,_,_,_=>by kernel_rfl
  | m+1,s1,n0,t19,t20=>by
    have h1:ky n K (m+1) s1 n0 t19 t20=sq n s1 n0 t19 t20 (ky n K m) (fun a=>Th K (.out a)) (fun a=>Th K (.ret a)) (fun p=>Th K (.pan p)):=by kernel_rfl
    have h2:ky n K m=fun s1 n0 t19 t20=>(je n m s1 n0 t19 t20).bind (Th K):=by
      repeat (refine funext fun _=>?_)
      exact KW n K m _ _ _ _
    rw [h1,h2];exact (hdb n m _ _ _ _ (Th K)).symm
theorem rab (n:Nat):ub tys (ia Out (YC n)) (tq n) n (ra [1,1,1,1,1,0,1,0,0] (ba Tryz.f132)) 0:=Aa (sp:=bD) (rp:=aD) (by kernel_rfl) fun K σ ρ=>KW n K n σ.1 σ.2.1 σ.2.2.1 σ.2.2.2.1
theorem LW (n:Nat):qa tys (ia Out (YC n)) (tq n) n (ba Tryz.f132) 0:=⟨aa,⟨⟨aa,⟨⟨aa,aa⟩,aa⟩⟩,⟨aa,⟨aa,⟨aa,⟨⟨aa,⟨rab n,⟨aa,⟨⟨aa,aa⟩,⟨⟨aa,⟨aa,aa⟩⟩,aa⟩⟩⟩⟩⟩,⟨aa,⟨aa,aa⟩⟩⟩⟩⟩⟩⟩⟩
theorem Ggb (n:Nat):Enters Tryz.prog 132:=enters_of (c:=ba Tryz.f132) Tryz.func132 (by kernel_rfl) (by kernel_rfl)
def sab (n:Nat):Entry:=⟨132,pcX 144 (.pair .str .unit) (.one (.int .i64)) (fun xs=>vG n xs.1),none,none⟩
theorem mjb (n:Nat):EntryOk Tryz.prog gl (sab n):=wK (Ggb n) (fun xs y h=>ma tys_ok (ZC n) mixed (hint:=tq n) (n:=n) Tryz.func132 (ya (LW n)) (la (φ:=(fun r=>onX r (fun p=>some (Out.pan (Pg 144 p))) fun y=>some (Out.ret (Ya (.one (.int .i64)) y)))) (by kernel_rfl) (Feb n xs.1 _) h)) (fun xs p h=>ma tys_ok (ZC n) mixed (hint:=tq n) (n:=n) Tryz.func132 (ya (LW n)) (la (φ:=(fun r=>onX r (fun p=>some (Out.pan (Pg 144 p))) fun y=>some (Out.ret (Ya (.one (.int .i64)) y)))) (by kernel_rfl) (Feb n xs.1 _) h))
def cD (n:Nat):List Entry:=sab n::YC n
theorem HQ (n:Nat):AllOk Tryz.prog gl (cD n):=.cons (mjb n) (ZC n)
def Uo (n:Nat) {R:Type} (s1:BA) (blank:Bool) (t6 t7:Int) (kn:BA→Bool→Int→Int→Option R) (ko:(BA×Bool)→Option R) (kr:(Bool)→Option R) (kp:Int→Option R):Option R:=if (decide (t7<t6))=true then if 0≤t7∧t7<(s1.size:Int) then if (decide ((bt s1 t7)<(32:Int)))=false then if 0≤t7∧t7<(s1.size:Int) then if (decide ((bt s1 t7)>(126:Int)))=false then if 0≤t7∧t7<(s1.size:Int) then if ((bt s1 t7)==(32:Int))=true then if blank=true then kr false else if 0≤t7∧t7<(s1.size:Int) then kn s1 ((bt s1 t7)==(32:Int)) t6 (IntKind.wrap .i64 (t7+(1:Int))) else none else if 0≤t7∧t7<(s1.size:Int) then kn s1 ((bt s1 t7)==(32:Int)) t6 (IntKind.wrap .i64 (t7+(1:Int))) else none else none else kr false else none else kr false else none else ko (s1,blank)
def ke (n:Nat):Nat→BA→Bool→Int→Int→Option (Lx (BA×Bool) (Bool))
 | 0,_,_,_,_=>none
 | m+1,s1,blank,t6,t7=>Uo n s1 blank t6 t7 (ke n m) (fun a=>some (.out a)) (fun a=>some (.ret a)) (fun p=>some (.pan p))
theorem uab (n m:Nat) {S:Type}:∀ s1 blank t6 t7 (φ:_→Option S),(ke n (m+1) s1 blank t6 t7).bind φ=Uo n s1 blank t6 t7 (fun s1 blank t6 t7=>(ke n m s1 blank t6 t7).bind φ) (fun a=>φ (.out a)) (fun a=>φ (.ret a)) (fun p=>φ (.pan p)):=by
  intros;first | (simp only [ke,Uo,ja,fa,iB,bB,oL,oX,nB,Option.bind_some]) | rfl
def my:List Sl:=.dat .str::.top::.top::.dat .bool::.top::.top::.dat (.int .i64)::.dat (.int .i64)::tp 33 []
def ly:List RS:=[]
def UO:List Sl:=.dat .str::.top::.top::.dat .bool::tp 37 []
def TO:List RS:=[]
def WO:List Sl:=.top::.top::.dat .bool::tp 38 []
def VO:List RS:=[]
def og (K:XE→List AV→oa→Option Out):Lx (BA×Bool) (Bool)→Option Out:=fun x=>onL x (fun a=>yb UO TO (a.1,(a.2,())) () (K (.exit 0))) (fun a=>yb WO VO (a,()) () (K .ret)) (fun _=>none)
def JM (n:Nat) {R:Type} (s:BA) (k:Bool→Option R):Option R:=(ke n n s true (s.size:Int) (0:Int)).bind fun x_1=>onL x_1 (fun a_2=>if (!a_2.2)=true then k (decide ((a_2.1.size:Int)≤(64:Int))) else k false) (fun a_3=>k a_3) (fun _=>none)
def XI (n:Nat) (s:BA):Option Bool:=JM n s some
theorem njb (n:Nat) {S:Type}:∀ s (φ:_→Option S),(XI n s).bind φ=JM n s φ:=by
  intros;unfold XI JM;first | (simp only [ja,fa,iB,bB,oL,oX,nB,Option.bind_some]) | rfl
def Xs (n:Nat):Hint Out:={ live:=fun c=>(cond (Nat.beq c 0) (lv [0,3,6,7]) []),run:=fun c=>(cond (Nat.beq c 0) (some (ef my ly fun σ ρ K=>(ke n n σ.1 σ.2.1 σ.2.2.1 σ.2.2.2.1).bind (og K))) none),xm:=fun c q=>(cond (Nat.beq c 0&&Nat.beq (q.getD 1000000) 0&&q.isSome) (some [(0,none),(3,none)]) (cond (Nat.beq c 1&&q.isNone) (some [(2,none)]) none)) }
def Ws (n:Nat) (K:XE→List AV→oa→Option Out) (m:Nat) (s1:BA) (blank:Bool) (t6:Int) (t7:Int):Option Out:=Kb tys (ia Out (cD n)) (Xs n) n (ra [1,1,0,1,0,0] (ba Tryz.f135)) 0 my ly K m (s1,(blank,(t6,(t7,())))) ()
theorem IQ (n:Nat) (K:XE→List AV→oa→Option Out):∀ (m:Nat) s1 blank t6 t7,Ws n K m s1 blank t6 t7=(ke n m s1 blank t6 t7).bind (og K)
  | 0,_,_,_,_=>by kernel_rfl
  | m+1,s1,blank,t6,t7=>by
    have h1:Ws n K (m+1) s1 blank t6 t7=Uo n s1 blank t6 t7 (Ws n K m) (fun a=>og K (.out a)) (fun a=>og K (.ret a)) (fun p=>og K (.pan p)):=by kernel_rfl
    have h2:Ws n K m=fun s1 blank t6 t7=>(ke n m s1 blank t6 t7).bind (og K):=by
      repeat (refine funext fun _=>?_)
      exact IQ n K m _ _ _ _
    rw [h1,h2];exact (uab n m _ _ _ _ (og K)).symm
theorem N5 (n:Nat):ub tys (ia Out (cD n)) (Xs n) n (ra [1,1,0,1,0,0] (ba Tryz.f135)) 0:=Aa (sp:=my) (rp:=ly) (by kernel_rfl) fun K σ ρ=>IQ n K n σ.1 σ.2.1 σ.2.2.1 σ.2.2.2.1
theorem vab (n:Nat):qa tys (ia Out (cD n)) (Xs n) n (ba Tryz.f135) 0:=⟨aa,⟨aa,⟨⟨aa,⟨N5 n,⟨aa,⟨⟨aa,aa⟩,⟨⟨aa,⟨⟨aa,⟨⟨aa,aa⟩,aa⟩⟩,aa⟩⟩,aa⟩⟩⟩⟩⟩,⟨aa,aa⟩⟩⟩⟩
theorem idb (n:Nat):Enters Tryz.prog 135:=enters_of (c:=ba Tryz.f135) Tryz.func135 (by kernel_rfl) (by kernel_rfl)
def RZ (n:Nat):Entry:=⟨135,pcT (.pair .str .unit) (.one .bool) (fun xs=>XI n xs.1),none,none⟩
theorem Hgb (n:Nat):EntryOk Tryz.prog gl (RZ n):=wa (idb n) fun xs y h=>ma tys_ok (HQ n) mixed (hint:=Xs n) (n:=n) Tryz.func135 (ya (vab n)) (la (φ:=(fun y=>some (Out.ret (Ya (.one .bool) y)))) (by kernel_rfl) (njb n xs.1 _) h)
def XO (n:Nat):List Entry:=RZ n::cD n
theorem KM (n:Nat):AllOk Tryz.prog gl (XO n):=.cons (Hgb n) (HQ n)
def cT (n:Nat) {R:Type} (v:T1) (k:(T1×Bool×Unit)→Option R):Option R:=if (v.1==(1:Int))=true then (Pc n v.2.1).bind fun v1=>k ((v.1,(v.2.1,(false,(((⟨#[]⟩:BA),((⟨#[]⟩:BA),())),((0:Int),()))))),(v1,())) else if (v.1==(2:Int))=true then (Pc n v.2.1).bind fun v2=>k ((v.1,(v.2.1,(false,(((⟨#[]⟩:BA),((⟨#[]⟩:BA),())),((0:Int),()))))),(v2,())) else if (v.1==(3:Int))=true then dup 1 (if (!v.2.2.1)=true then if v.2.2.1=false then (bA n (v.2.2.2.1.1,(v.2.2.2.1.2.1,()))).bind fun v3=>if v3=true then if (decide (v.2.2.2.2.1≥(-1:Int)))=true then dup 1 (k ((v.1,((⟨#[]⟩:BA),(v.2.2.1,((v.2.2.2.1.1,(v.2.2.2.1.2.1,())),(v.2.2.2.2.1,()))))),((decide (v.2.2.2.2.1≤(1073741824:Int))),()))) else dup 1 (k ((v.1,((⟨#[]⟩:BA),(v.2.2.1,((v.2.2.2.1.1,(v.2.2.2.1.2.1,())),(v.2.2.2.2.1,()))))),(false,()))) else dup 1 (k ((v.1,((⟨#[]⟩:BA),(v.2.2.1,((v.2.2.2.1.1,(v.2.2.2.1.2.1,())),(v.2.2.2.2.1,()))))),(false,()))) else if (decide (v.2.2.2.2.1≥(-1:Int)))=true then dup 1 (k ((v.1,((⟨#[]⟩:BA),(v.2.2.1,((v.2.2.2.1.1,(v.2.2.2.1.2.1,())),(v.2.2.2.2.1,()))))),((decide (v.2.2.2.2.1≤(1073741824:Int))),()))) else dup 1 (k ((v.1,((⟨#[]⟩:BA),(v.2.2.1,((v.2.2.2.1.1,(v.2.2.2.1.2.1,())),(v.2.2.2.2.1,()))))),(false,()))) else if v.2.2.1=false then (bA n (v.2.2.2.1.1,(v.2.2.2.1.2.1,()))).bind fun v4=>
 if v4=true then if (decide (v.2.2.2.2.1≥(-1:Int)))=true then dup 1 (k ((v.1,((⟨#[]⟩:BA),(v.2.2.1,(((⟨#[]⟩:BA),((⟨#[]⟩:BA),())),(v.2.2.2.2.1,()))))),((decide (v.2.2.2.2.1≤(1073741824:Int))),()))) else dup 1 (k ((v.1,((⟨#[]⟩:BA),(v.2.2.1,(((⟨#[]⟩:BA),((⟨#[]⟩:BA),())),(v.2.2.2.2.1,()))))),(false,()))) else dup 1 (k ((v.1,((⟨#[]⟩:BA),(v.2.2.1,(((⟨#[]⟩:BA),((⟨#[]⟩:BA),())),(v.2.2.2.2.1,()))))),(false,()))) else if (decide (v.2.2.2.2.1≥(-1:Int)))=true then dup 1 (k ((v.1,((⟨#[]⟩:BA),(v.2.2.1,(((⟨#[]⟩:BA),((⟨#[]⟩:BA),())),(v.2.2.2.2.1,()))))),((decide (v.2.2.2.2.1≤(1073741824:Int))),()))) else dup 1 (k ((v.1,((⟨#[]⟩:BA),(v.2.2.1,(((⟨#[]⟩:BA),((⟨#[]⟩:BA),())),(v.2.2.2.2.1,()))))),(false,())))) else if (v.1==(4:Int))=true then (bA n (v.2.2.2.1.1,(v.2.2.2.1.2.1,()))).bind fun v7=>k ((v.1,((⟨#[]⟩:BA),(false,((v.2.2.2.1.1,(v.2.2.2.1.2.1,())),((0:Int),()))))),(v7,())) else if (v.1==(7:Int))=true then (XI n v.2.1).bind fun v8=>if v8=false then if (v.2.1.toList==(⟨#[]⟩:BA).toList)=true then dup 1 (k ((v.1,(v.2.1,(false,(((⟨#[]⟩:BA),((⟨#[]⟩:BA),())),((0:Int),()))))),((v.1==(7:Int)),()))) else dup 1 (k ((v.1,(v.2.1,(false,(((⟨#[]⟩:BA),((⟨#[]⟩:BA),())),((0:Int),()))))),(false,())))
 else dup 1 (k ((v.1,(v.2.1,(false,(((⟨#[]⟩:BA),((⟨#[]⟩:BA),())),((0:Int),()))))),(true,()))) else if (v.1==(9:Int))=true then (XI n v.2.1).bind fun v9=>if v9=false then if (v.2.1.toList==(⟨#[]⟩:BA).toList)=true then dup 1 (k ((v.1,(v.2.1,(false,(((⟨#[]⟩:BA),((⟨#[]⟩:BA),())),((0:Int),()))))),((v.1==(7:Int)),()))) else dup 1 (k ((v.1,(v.2.1,(false,(((⟨#[]⟩:BA),((⟨#[]⟩:BA),())),((0:Int),()))))),(false,()))) else dup 1 (k ((v.1,(v.2.1,(false,(((⟨#[]⟩:BA),((⟨#[]⟩:BA),())),((0:Int),()))))),(true,()))) else if (v.1==(5:Int))=true then k ((v.1,((⟨#[]⟩:BA),(false,(((⟨#[]⟩:BA),((⟨#[]⟩:BA),())),((0:Int),()))))),(true,())) else if (v.1==(6:Int))=true then k ((v.1,((⟨#[]⟩:BA),(false,(((⟨#[]⟩:BA),((⟨#[]⟩:BA),())),((0:Int),()))))),(true,())) else if (v.1==(8:Int))=true then k ((v.1,((⟨#[]⟩:BA),(false,(((⟨#[]⟩:BA),((⟨#[]⟩:BA),())),((0:Int),()))))),(true,())) else k ((v.1,((⟨#[]⟩:BA),(false,(((⟨#[]⟩:BA),((⟨#[]⟩:BA),())),((0:Int),()))))),(false,()))
def nab (n:Nat) (v:T1):Option (T1×Bool×Unit):=cT n v some
theorem jlb (n:Nat) {S:Type}:∀ v (φ:_→Option S),(nab n v).bind φ=cT n v φ:=by
  intros;unfold nab cT;first | (simp only [ja,fa,iB,bB,oL,oX,nB,Option.bind_some]) | rfl
def HW (n:Nat):Hint Out:={ live:=fun c=>[],run:=fun c=>none,xm:=fun c q=>none,sch:=fun c=>(cond (Nat.beq c 18) (some [(1,0),(0,1),(2,1),(3,3),(4,0),(5,0),(6,3),(7,0),(8,0),(9,0),(14,5),(10,7),(11,6),(12,6),(13,6),(15,6)]) (cond (Nat.beq c 14) (some [(1,0),(0,1),(2,1),(3,3),(4,2),(5,0)]) (cond (Nat.beq c 11) (some [(1,0),(0,1),(2,1),(3,0),(4,0),(5,1),(6,3),(7,0),(8,0),(9,0),(10,3),(11,0),(12,0),(13,0),(14,0),(18,5),(15,7),(16,6),(17,6),(19,6)]) (cond (Nat.beq c 8) (some [(0,0),(2,0),(1,1),(4,0),(5,5),(3,7),(6,6),(7,2)]) (cond (Nat.beq c 6) (some [(1,0),(0,1),(2,1),(3,3),(4,2),(5,0)]) none))))) }
theorem gdb (n:Nat):qa tys (ia Out (XO n)) (HW n) n (ba Tryz.f102) 0:=na (fun _=>rfl) _ _ (by kernel_rfl)
theorem Dgb (n:Nat):Enters Tryz.prog 102:=enters_of (c:=ba Tryz.f102) Tryz.func102 (by kernel_rfl) (by kernel_rfl)
def oab (n:Nat):Entry:=⟨102,pcT K11 (.many K10) (fun xs=>nab n xs.1),none,none⟩
theorem jjb (n:Nat):EntryOk Tryz.prog gl (oab n):=wa (Dgb n) fun xs y h=>ma tys_ok (KM n) mixed (hint:=HW n) (n:=n) Tryz.func102 (ya (gdb n)) (la (φ:=(fun y=>some (Out.ret (Ya (.many K10) y)))) (by kernel_rfl) (jlb n xs.1 _) h)
def GW (n:Nat):List Entry:=oab n::XO n
theorem FQ (n:Nat):AllOk Tryz.prog gl (GW n):=.cons (jjb n) (KM n)
def J5 (n:Nat) {R:Type} (v:T1) (k:Bool→Option R):Option R:=(nab n (v.1,(v.2.1,(v.2.2.1,((v.2.2.2.1.1,(v.2.2.2.1.2.1,())),(v.2.2.2.2.1,())))))).bind fun v1=>if v1.2.1=true then k ((v1.1.1==v.1)&&((v1.1.2.1.toList==v.2.1.toList)&&((v1.1.2.2.1==v.2.2.1)&&(((v1.1.2.2.2.1.1.toList==v.2.2.2.1.1.toList)&&((v1.1.2.2.2.1.2.1.toList==v.2.2.2.1.2.1.toList)&&true))&&((v1.1.2.2.2.2.1==v.2.2.2.2.1)&&true))))) else k false
def Wg (n:Nat) (v:T1):Option Bool:=J5 n v some
theorem Anb (n:Nat) {S:Type}:∀ v (φ:_→Option S),(Wg n v).bind φ=J5 n v φ:=by
  intros;unfold Wg J5;first | (simp only [ja,fa,iB,bB,oL,oX,nB,Option.bind_some]) | rfl
def MZ (n:Nat):Hint Out:={ live:=fun c=>[],run:=fun c=>none,xm:=fun c q=>none }
theorem wgb (n:Nat):qa tys (ia Out (GW n)) (MZ n) n (ba Tryz.f74) 0:=na (fun _=>rfl) _ _ (by kernel_rfl)
theorem cjb (n:Nat):Enters Tryz.prog 74:=enters_of (c:=ba Tryz.f74) Tryz.func74 (by kernel_rfl) (by kernel_rfl)
def Beb (n:Nat):Entry:=⟨74,pcT K11 (.one .bool) (fun xs=>Wg n xs.1),none,none⟩
theorem flb (n:Nat):EntryOk Tryz.prog gl (Beb n):=wa (cjb n) fun xs y h=>ma tys_ok (FQ n) mixed (hint:=MZ n) (n:=n) Tryz.func74 (ya (wgb n)) (la (φ:=(fun y=>some (Out.ret (Ya (.one .bool) y)))) (by kernel_rfl) (Anb n xs.1 _) h)
def L5 (n:Nat):List Entry:=Beb n::GW n
theorem wW (n:Nat):AllOk Tryz.prog gl (L5 n):=.cons (flb n) (FQ n)
end
end Go.Proofs.YtdohilmgblkppaaGreatDoor.AM
